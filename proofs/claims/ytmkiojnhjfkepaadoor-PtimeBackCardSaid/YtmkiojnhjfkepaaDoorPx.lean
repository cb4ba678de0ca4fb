/- The chapter's examples: awake returns true. Condition: the table of powers of ten is laid. -/
import Derived.Test.YtmkiojnhjfkepaaDoorPw
namespace Go.Proofs.YtmkiojnhjfkepaaDoor
open Go.RowKit

theorem only_drewN (w : World) (n : Nat) : Only [] w (w.drewN n) := ⟨rfl, rfl, rfl, Nat.le_refl _, fun _ _ _ => rfl⟩
theorem Pnanos_only (a : Int) (w : World) (a0 : -9223372036854775808 ≤ a) (a1 : a ≤ 9223372036854775807) :
    Calls Tryd.prog 20 #[.int .i64 a] w fun e w' => e = .returned (.int .i64 (a / 65536)) ∧ Only [] w w' :=
  (Pnanos a w a0 a1).mono fun _ _ ⟨he, n, hw⟩ => ⟨he, hw ▸ only_drewN w n⟩

theorem ex_of (w : World) : Calls Tryd.prog 11 #[.int .i64 2208988801000000005] w fun e w' => e = .returned (.tuple #[.agg #[.int .i64 1, .int .i64 5], .int .i64 0]) ∧ Only [] w w' := by
  have h := Pof_yes 2208988801000000005 w (by omega) (by omega)
  rw [show (2208988801000000005 : Int) / 1000000000 - 2208988800 = 1 by decide, show (2208988801000000005 : Int) % 1000000000 = 5 by decide] at h
  exact h
theorem ok15 : stOk 1 5 := by unfold stOk; omega
theorem ex_text_eq : stStr 1 5 = ⟨#[49, 46, 48, 48, 48, 48, 48, 48, 48, 48, 53]⟩ := by
  have e1 : Lib.itoa 1 = [49] := by
    rw [show (1 : Int) = ((1 : Nat) : Int) from rfl, Lib.itoa_nonneg, Lib.decDigits_one (by omega)]; rfl
  have e2 : Lib.itoa (1000000000 + 5) = [49, 48, 48, 48, 48, 48, 48, 48, 48, 53] := by
    rw [show (1000000000 + 5 : Int) = ((1000000005 : Nat) : Int) from rfl, Lib.itoa_nonneg]
    simp [Lib.decDigits]
  unfold stStr
  rw [e1, e2]
  rfl
theorem ex_text (w : World) (ht : Tab w) : Calls Tryd.prog 27 #[.agg #[.int .i64 1, .int .i64 5]] w fun e w' => e = .returned (.string ⟨#[49, 46, 48, 48, 48, 48, 48, 48, 48, 48, 53]⟩) ∧ Only [] w w' := by
  have h := Ptext_yes 1 5 w ok15 ht
  rw [ex_text_eq] at h
  exact h
theorem ex_enc_eq : encB 1 5 = [0, 0, 0, 0, 0, 1, 0, 0, 0, 5] := by decide
theorem ex_time (w : World) : Calls Tryd.prog 9 #[.agg #[.int .i64 5791011200, .int .i64 1]] w fun e w' => e = .returned (.tuple #[.int .i64 0, .int .i64 3]) ∧ Only [] w w' :=
  Ptime_far 5791011200 1 w (by unfold stOk; omega) (by unfold tmOf; omega)
theorem ex_corr (w : World) : Calls Tryd.prog 16 #[.int .i64 3] w fun e w' => e = .returned (.tuple #[.int .i64 196608, .int .i64 0]) ∧ w = w' :=
  Pcorr 3 w (by omega) (by omega)

set_option maxRecDepth 100000 in
set_option maxHeartbeats 1000000 in
theorem awake_any (w : World) (ht : Tab w) : Calls Tryd.prog 15 #[] w fun e w' => e = .returned (.bool true) ∧ Only [] w w' := by
  have HT := Lib.hid ht; clear ht
  go_enter Tryd.func15, Tryd.ntmps15
  go_wp2_with fail
  refine (ex_of w).mono ?_
  rintro e w1 ⟨rfl, ho1⟩
  go_wp2_with fail
  refine alloc_abs (G := fun w0 => Calls _ _ _ w0 _) ?_
  intro w2 hb2 ho2 hs2
  have B2 := Lib.hid hb2; have O2 := Lib.hid (ho1.nil_trans ho2)
  clear hb2 hs2 ho1 ho2
  refine (Penc_yes 1 5 w2 ok15).mono ?_
  rintro e w3 ⟨g, rfl, hr3, ho3, hg3⟩
  rw [ex_enc_eq] at hr3
  have R3 := Lib.hid hr3; have B3 := Lib.hid (ho3.got B2.out (by simp)); have O3 := Lib.hid (O2.out.nil_trans ho3)
  clear hr3 ho3 hg3 B2 O2
  go_wp2_with fail
  refine (Pof_no 2208988799999999999 w3 (by omega)).mono ?_
  rintro e w4 ⟨rfl, ho4⟩
  have R4 := Lib.hid (R3.out.kept ho4 (by simp)); have B4 := Lib.hid (ho4.got B3.out (by simp)); have O4 := Lib.hid (O3.out.nil_trans ho4)
  clear R3 B3 O3 ho4
  go_wp2_with fail
  refine alloc_abs (G := fun w0 => Calls _ _ _ w0 _) ?_
  intro w5 hb5 ho5 hs5
  have R5 := Lib.hid (R4.out.kept ho5 (by simp)); have B5 := Lib.hid (ho5.got B4.out (by simp)); have O5 := Lib.hid (O4.out.nil_trans ho5)
  clear R4 B4 O4 ho5 hb5 hs5
  refine (ex_time w5).mono ?_
  rintro e w6 ⟨rfl, ho6⟩
  have R6 := Lib.hid (R5.out.kept ho6 (by simp)); have B6 := Lib.hid (ho6.got B5.out (by simp)); have O6 := Lib.hid (O5.out.nil_trans ho6)
  clear R5 B5 O5 ho6
  go_wp2_with fail
  refine (ex_corr w6).mono ?_
  rintro e w7 ⟨rfl, rfl⟩
  have g0 := cell_got B6.out 0; have g1 := cell_got B6.out 1
  go_wp2_with fail
  refine (ex_text w6 (HT.out.kept O6.out)).mono ?_
  rintro e w7 ⟨rfl, ho7⟩
  have R7 := Lib.hid (R6.out.kept ho7 (by simp)); have O7 := Lib.hid (O6.out.nil_trans ho7)
  clear R6 O6 ho7 g0 g1 B6
  go_wp2_with fail
  refine alloc_abs (G := fun w0 => Calls _ _ _ w0 _) ?_
  intro w8 hb8 ho8 hs8
  have R8 := Lib.hid (R7.out.kept ho8 (by simp)); have O8 := Lib.hid (O7.out.nil_trans ho8); have B8 := Lib.hid hb8
  clear R7 O7 ho8 hb8 hs8
  refine (Tryd.bytes_Equal_all (some ⟨g, 0, none⟩) (some ⟨w7.heap.size, 0, none⟩) 10 10 10 10 [0, 0, 0, 0, 0, 1, 0, 0, 0, 5] [0, 0, 0, 0, 0, 1, 0, 0, 0, 5] w8 rfl rfl (R8.out.vrow rfl).bytesIn ((row_of_bytes (l := [0, 0, 0, 0, 0, 1, 0, 0, 0, 5]) B8.out (by decide)).vrow rfl).bytesIn).mono ?_
  rintro e w9 ⟨rfl, rfl⟩
  rw [show (Lib.bytesOf [0, 0, 0, 0, 0, 1, 0, 0, 0, 5] == Lib.bytesOf [0, 0, 0, 0, 0, 1, 0, 0, 0, 5]) = true from beq_self_eq_true _]
  go_wp2_with fail
  refine (Pnanos_only 196607 _ (by omega) (by omega)).mono ?_
  rintro e w10 ⟨rfl, ho10⟩
  go_wp2_with fail
  refine (Pnanos_only (-1) _ (by omega) (by omega)).mono ?_
  rintro e w11 ⟨rfl, ho11⟩
  go_wp2_with fail
  go_ret
  exact ⟨rfl, (O8.out.nil_trans ho10).nil_trans ho11⟩
end Go.Proofs.YtmkiojnhjfkepaaDoor
