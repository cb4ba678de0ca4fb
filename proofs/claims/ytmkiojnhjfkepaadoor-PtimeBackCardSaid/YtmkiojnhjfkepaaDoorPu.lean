/- What Time, Corr, Nanos and AddCorr compute, in package ptime and in the reference of layer 4. No condition. -/
import Derived.Test.YtmkiojnhjfkepaaDoorPt
namespace Go.Proofs.YtmkiojnhjfkepaaDoor
open Go.RowKit

/-- the instant of a timestamp -/
def tmOf (s n : Int) : Int := (s + 2208988800) * 1000000000 + n

theorem mulS_yes (s : Int) (h0 : 0 ≤ s) (h2 : (s + 2208988800) * 1000000000 ≤ 9223372036854775807) (w : World) :
    Calls Tryd.prog 31 #[.int .i64 (s + 2208988800), .int .i64 1000000000] w fun e w' => e = .returned (.tuple #[.int .i64 ((s + 2208988800) * 1000000000), .bool true]) ∧ w = w' := by
  have h := fmul (s + 2208988800) 1000000000 w (by omega) (by omega) (by omega) (by omega)
  rw [orZ_yes (by omega) (by omega), inI_yes (by omega) (by omega)] at h
  exact h
theorem mulS_no (s : Int) (h0 : 0 ≤ s) (h1 : s ≤ 281474976710655) (h2 : 9223372036854775807 < (s + 2208988800) * 1000000000) (w : World) :
    Calls Tryd.prog 31 #[.int .i64 (s + 2208988800), .int .i64 1000000000] w fun e w' => e = .returned (.tuple #[.int .i64 0, .bool false]) ∧ w = w' := by
  have h := fmul (s + 2208988800) 1000000000 w (by omega) (by omega) (by omega) (by omega)
  rw [orZ_no (by omega), inI_no (by omega)] at h
  exact h
theorem addS_yes (a b : Int) (a0 : 0 ≤ a) (b0 : 0 ≤ b) (h : a + b ≤ 9223372036854775807) (w : World) :
    Calls Tryd.prog 32 #[.int .i64 a, .int .i64 b] w fun e w' => e = .returned (.tuple #[.int .i64 (a + b), .bool true]) ∧ w = w' := by
  have h := fadd a b w (by omega) (by omega) (by omega) (by omega)
  rw [orZ_yes (by omega) (by omega), inI_yes (by omega) (by omega)] at h
  exact h
theorem addS_no (a b : Int) (a0 : 0 ≤ a) (a1 : a ≤ 9223372036854775807) (b0 : 0 ≤ b) (b1 : b ≤ 9223372036854775807) (h : 9223372036854775807 < a + b) (w : World) :
    Calls Tryd.prog 32 #[.int .i64 a, .int .i64 b] w fun e w' => e = .returned (.tuple #[.int .i64 0, .bool false]) ∧ w = w' := by
  have h := fadd a b w (by omega) (by omega) (by omega) (by omega)
  rw [orZ_no (by omega), inI_no (by omega)] at h
  exact h
theorem rmulS_yes (s : Int) (h0 : 0 ≤ s) (h2 : (s + 2208988800) * 1000000000 ≤ 9223372036854775807) (w : World) :
    Calls Tryd.prog 33 #[.int .i64 (s + 2208988800), .int .i64 1000000000] w fun e w' => e = .returned (.tuple #[.int .i64 ((s + 2208988800) * 1000000000), .bool true]) ∧ w = w' := by
  have h := rmul (s + 2208988800) 1000000000 w (by omega) (by omega) (by omega) (by omega)
  rw [orZ_yes (by omega) (by omega), inI_yes (by omega) (by omega)] at h
  exact h
theorem rmulS_no (s : Int) (h0 : 0 ≤ s) (h1 : s ≤ 281474976710655) (h2 : 9223372036854775807 < (s + 2208988800) * 1000000000) (w : World) :
    Calls Tryd.prog 33 #[.int .i64 (s + 2208988800), .int .i64 1000000000] w fun e w' => e = .returned (.tuple #[.int .i64 0, .bool false]) ∧ w = w' := by
  have h := rmul (s + 2208988800) 1000000000 w (by omega) (by omega) (by omega) (by omega)
  rw [orZ_no (by omega), inI_no (by omega)] at h
  exact h

theorem Ptime_far (s n : Int) (w : World) (h : stOk s n) (hf : 8000000000000000000 < tmOf s n) :
    Calls Tryd.prog 9 #[.agg #[.int .i64 s, .int .i64 n]] w fun e w' => e = .returned (.tuple #[.int .i64 0, .int .i64 3]) ∧ Only [] w w' := by
  have h' := h
  obtain ⟨h1, h2, h3, h4⟩ := h'
  unfold tmOf at hf
  go_enter Tryd.func9, Tryd.ntmps9
  go_wp2_with fail
  refine alloc_abs (G := fun w0 => Calls _ _ _ w0 _) ?_
  intro w1 hb1 ho1 hs1
  have B1 := Lib.hid hb1
  clear hb1 hs1
  refine (Pcheck_yes s n w1 h).mono ?_
  rintro e w2 ⟨rfl, ho2⟩
  have x := ho2.got B1.out (by simp)
  have g0 := cell_got x 0; have g1 := cell_got x 1
  clear x
  by_cases hm : (s + 2208988800) * 1000000000 ≤ 9223372036854775807
  · go_wp2_with fail
    refine (mulS_yes s h1 hm _).mono ?_
    rintro e w3 ⟨rfl, rfl⟩
    by_cases ha : (s + 2208988800) * 1000000000 + n ≤ 9223372036854775807
    · go_wp2_with fail
      refine (addS_yes _ _ (by omega) h3 ha _).mono ?_
      rintro e w3 ⟨rfl, rfl⟩
      have hd : decide (8000000000000000000 < (s + 2208988800) * 1000000000 + n) = true := by simp [hf]
      go_wp2_with fail
      go_ret2
      exact ⟨rfl, ho1.nil_trans ho2⟩
    · go_wp2_with fail
      refine (addS_no _ _ (by omega) (by omega) h3 (by omega) (by omega) _).mono ?_
      rintro e w3 ⟨rfl, rfl⟩
      go_wp2_with fail
      go_ret2
      exact ⟨rfl, ho1.nil_trans ho2⟩
  · go_wp2_with fail
    refine (mulS_no s h1 h2 (by omega) _).mono ?_
    rintro e w3 ⟨rfl, rfl⟩
    go_wp2_with fail
    go_ret2
    exact ⟨rfl, ho1.nil_trans ho2⟩
theorem Ptime_yes (s n : Int) (w : World) (h : stOk s n) (hf : tmOf s n ≤ 8000000000000000000) :
    Calls Tryd.prog 9 #[.agg #[.int .i64 s, .int .i64 n]] w fun e w' => e = .returned (.tuple #[.int .i64 (tmOf s n), .int .i64 0]) ∧ Only [] w w' := by
  have h' := h
  obtain ⟨h1, h2, h3, h4⟩ := h'
  unfold tmOf at hf
  go_enter Tryd.func9, Tryd.ntmps9
  go_wp2_with fail
  refine alloc_abs (G := fun w0 => Calls _ _ _ w0 _) ?_
  intro w1 hb1 ho1 hs1
  have B1 := Lib.hid hb1
  clear hb1 hs1
  refine (Pcheck_yes s n w1 h).mono ?_
  rintro e w2 ⟨rfl, ho2⟩
  have x := ho2.got B1.out (by simp)
  have g0 := cell_got x 0; have g1 := cell_got x 1
  clear x
  go_wp2_with fail
  refine (mulS_yes s h1 (by omega) _).mono ?_
  rintro e w3 ⟨rfl, rfl⟩
  go_wp2_with fail
  refine (addS_yes _ _ (by omega) h3 (by omega) _).mono ?_
  rintro e w3 ⟨rfl, rfl⟩
  have hd : decide (8000000000000000000 < (s + 2208988800) * 1000000000 + n) = false := by simpa using hf
  go_wp2_with fail
  go_ret2
  exact ⟨rfl, ho1.nil_trans ho2⟩
theorem Rtime_far (s n : Int) (w : World) (h : stOk s n) (hf : 8000000000000000000 < tmOf s n) :
    Calls Tryd.prog 10 #[.agg #[.int .i64 s, .int .i64 n]] w fun e w' => e = .returned (.tuple #[.int .i64 0, .int .i64 3]) ∧ Only [] w w' := by
  have h' := h
  obtain ⟨h1, h2, h3, h4⟩ := h'
  unfold tmOf at hf
  go_enter Tryd.func10, Tryd.ntmps10
  go_wp2_with fail
  refine alloc_abs (G := fun w0 => Calls _ _ _ w0 _) ?_
  intro w1 hb1 ho1 hs1
  have B1 := Lib.hid hb1
  clear hb1 hs1
  refine (Rcheck_yes s n w1 h).mono ?_
  rintro e w2 ⟨rfl, ho2⟩
  have x := ho2.got B1.out (by simp)
  have g0 := cell_got x 0; have g1 := cell_got x 1
  clear x
  by_cases hm : (s + 2208988800) * 1000000000 ≤ 9223372036854775807
  · go_wp2_with fail
    refine (rmulS_yes s h1 hm _).mono ?_
    rintro e w3 ⟨rfl, rfl⟩
    have hd : decide (8000000000000000000 - n < (s + 2208988800) * 1000000000) = true := by simp; omega
    go_wp2_with fail
    go_ret2
    exact ⟨rfl, ho1.nil_trans ho2⟩
  · go_wp2_with fail
    refine (rmulS_no s h1 h2 (by omega) _).mono ?_
    rintro e w3 ⟨rfl, rfl⟩
    go_wp2_with fail
    go_ret2
    exact ⟨rfl, ho1.nil_trans ho2⟩
theorem Rtime_yes (s n : Int) (w : World) (h : stOk s n) (hf : tmOf s n ≤ 8000000000000000000) :
    Calls Tryd.prog 10 #[.agg #[.int .i64 s, .int .i64 n]] w fun e w' => e = .returned (.tuple #[.int .i64 (tmOf s n), .int .i64 0]) ∧ Only [] w w' := by
  have h' := h
  obtain ⟨h1, h2, h3, h4⟩ := h'
  unfold tmOf at hf
  go_enter Tryd.func10, Tryd.ntmps10
  go_wp2_with fail
  refine alloc_abs (G := fun w0 => Calls _ _ _ w0 _) ?_
  intro w1 hb1 ho1 hs1
  have B1 := Lib.hid hb1
  clear hb1 hs1
  refine (Rcheck_yes s n w1 h).mono ?_
  rintro e w2 ⟨rfl, ho2⟩
  have x := ho2.got B1.out (by simp)
  have g0 := cell_got x 0; have g1 := cell_got x 1
  clear x
  go_wp2_with fail
  refine (rmulS_yes s h1 (by omega) _).mono ?_
  rintro e w3 ⟨rfl, rfl⟩
  have hd : decide (8000000000000000000 - n < (s + 2208988800) * 1000000000) = false := by simp; omega
  go_wp2_with fail
  go_ret2
  exact ⟨rfl, ho1.nil_trans ho2⟩

/-- a correction, or 0 and the error -/
def corrV (a : Int) : Int := orZ (a * 65536)
def corrE (a : Int) : Int := if inI (a * 65536) then 0 else 3

theorem Pcorr (a : Int) (w : World) (a0 : -9223372036854775808 ≤ a) (a1 : a ≤ 9223372036854775807) :
    Calls Tryd.prog 16 #[.int .i64 a] w fun e w' => e = .returned (.tuple #[.int .i64 (corrV a), .int .i64 (corrE a)]) ∧ w = w' := by
  unfold corrV corrE
  cases hi : inI (a * 65536)
  · go_enter Tryd.func16, Tryd.ntmps16
    go_wp2_with fail
    refine (fmul a 65536 w a0 a1 (by omega) (by omega)).mono ?_
    rintro e w' ⟨rfl, rfl⟩
    have hz : orZ (a * 65536) = 0 := by simp [orZ, hi]
    go_wp2_with fail
    go_ret2
    exact ⟨rfl, rfl⟩
  · go_enter Tryd.func16, Tryd.ntmps16
    go_wp2_with fail
    refine (fmul a 65536 w a0 a1 (by omega) (by omega)).mono ?_
    rintro e w' ⟨rfl, rfl⟩
    go_wp2_with fail
    go_ret2
    exact ⟨rfl, rfl⟩
theorem Rcorr (a : Int) (w : World) (a0 : -9223372036854775808 ≤ a) (a1 : a ≤ 9223372036854775807) :
    Calls Tryd.prog 17 #[.int .i64 a] w fun e w' => e = .returned (.tuple #[.int .i64 (corrV a), .int .i64 (corrE a)]) ∧ w = w' := by
  unfold corrV corrE
  cases hi : inI (a * 65536)
  · go_enter Tryd.func17, Tryd.ntmps17
    go_wp2_with fail
    refine (rmul a 65536 w a0 a1 (by omega) (by omega)).mono ?_
    rintro e w' ⟨rfl, rfl⟩
    have hz : orZ (a * 65536) = 0 := by simp [orZ, hi]
    go_wp2_with fail
    go_ret2
    exact ⟨rfl, rfl⟩
  · go_enter Tryd.func17, Tryd.ntmps17
    go_wp2_with fail
    refine (rmul a 65536 w a0 a1 (by omega) (by omega)).mono ?_
    rintro e w' ⟨rfl, rfl⟩
    go_wp2_with fail
    go_ret2
    exact ⟨rfl, rfl⟩

theorem Pnanos (a : Int) (w : World) (a0 : -9223372036854775808 ≤ a) (a1 : a ≤ 9223372036854775807) :
    Calls Tryd.prog 20 #[.int .i64 a] w fun e w' => e = .returned (.int .i64 (a / 65536)) ∧ ∃ n, w' = w.drewN n := by
  go_enter Tryd.func20, Tryd.ntmps20
  go_wp2_with fail
  refine (ffloor a 65536 w a0 a1 (by omega) (by omega)).mono ?_
  rintro e w' ⟨rfl, n, rfl⟩
  go_wp2_with fail
  go_ret
  exact ⟨rfl, _, rfl⟩
theorem Rnanos (a : Int) (w : World) (a0 : -9223372036854775808 ≤ a) (a1 : a ≤ 9223372036854775807) :
    Calls Tryd.prog 21 #[.int .i64 a] w fun e w' => e = .returned (.int .i64 (a / 65536)) ∧ w = w' := by
  go_enter Tryd.func21, Tryd.ntmps21
  go_wp2_with fail
  refine (rfloor a 65536 w a0 a1 (by omega) (by omega)).mono ?_
  rintro e w' ⟨rfl, rfl⟩
  go_wp2_with fail
  go_ret
  exact ⟨rfl, rfl⟩

/-- the int that is nearest to a sum -/
def satV (a b : Int) : Int := if inI (a + b) then a + b else if 0 < a then 9223372036854775807 else -9223372036854775808
theorem Paddcorr (a b : Int) (w : World) (a0 : -9223372036854775808 ≤ a) (a1 : a ≤ 9223372036854775807) (b0 : -9223372036854775808 ≤ b) (b1 : b ≤ 9223372036854775807) :
    Calls Tryd.prog 18 #[.int .i64 a, .int .i64 b] w fun e w' => e = .returned (.tuple #[.int .i64 (satV a b), .bool (inI (a + b))]) ∧ w = w' := by
  unfold satV
  cases hi : inI (a + b)
  · by_cases hp : 0 < a
    · rw [if_pos hp]
      go_enter Tryd.func18, Tryd.ntmps18
      go_wp2_with fail
      refine (fadd a b w a0 a1 b0 b1).mono ?_
      rintro e w' ⟨rfl, rfl⟩
      go_wp2_with fail
      go_ret2
      exact ⟨rfl, rfl⟩
    · rw [if_neg hp]
      go_enter Tryd.func18, Tryd.ntmps18
      go_wp2_with fail
      refine (fadd a b w a0 a1 b0 b1).mono ?_
      rintro e w' ⟨rfl, rfl⟩
      go_wp2_with fail
      go_ret2
      exact ⟨rfl, rfl⟩
  · have hz : orZ (a + b) = a + b := by simp [orZ, hi]
    go_enter Tryd.func18, Tryd.ntmps18
    go_wp2_with fail
    refine (fadd a b w a0 a1 b0 b1).mono ?_
    rintro e w' ⟨rfl, rfl⟩
    have HZ := Lib.hid hz; clear hz
    go_wp2_with fail
    go_ret2
    exact ⟨ret_ib HZ.out rfl, rfl⟩
theorem Raddcorr (a b : Int) (w : World) (a0 : -9223372036854775808 ≤ a) (a1 : a ≤ 9223372036854775807) (b0 : -9223372036854775808 ≤ b) (b1 : b ≤ 9223372036854775807) :
    Calls Tryd.prog 19 #[.int .i64 a, .int .i64 b] w fun e w' => e = .returned (.tuple #[.int .i64 (satV a b), .bool (inI (a + b))]) ∧ w = w' := by
  unfold satV
  cases hi : inI (a + b)
  · by_cases hp : 0 < a
    · rw [if_pos hp]
      go_enter Tryd.func19, Tryd.ntmps19
      go_wp2_with fail
      refine (radd a b w a0 a1 b0 b1).mono ?_
      rintro e w' ⟨rfl, rfl⟩
      go_wp2_with fail
      go_ret2
      exact ⟨rfl, rfl⟩
    · rw [if_neg hp]
      go_enter Tryd.func19, Tryd.ntmps19
      go_wp2_with fail
      refine (radd a b w a0 a1 b0 b1).mono ?_
      rintro e w' ⟨rfl, rfl⟩
      go_wp2_with fail
      go_ret2
      exact ⟨rfl, rfl⟩
  · have hz : orZ (a + b) = a + b := by simp [orZ, hi]
    go_enter Tryd.func19, Tryd.ntmps19
    go_wp2_with fail
    refine (radd a b w a0 a1 b0 b1).mono ?_
    rintro e w' ⟨rfl, rfl⟩
    have HZ := Lib.hid hz; clear hz
    go_wp2_with fail
    go_ret2
    exact ⟨ret_ib HZ.out rfl, rfl⟩
end Go.Proofs.YtmkiojnhjfkepaaDoor
