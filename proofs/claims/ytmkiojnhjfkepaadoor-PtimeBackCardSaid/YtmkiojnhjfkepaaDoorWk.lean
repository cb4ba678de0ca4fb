/- What Decode computes, in package ptime and in the reference. No condition. -/
import Derived.Test.YtmkiojnhjfkepaaDoorWj
namespace Go.Proofs.YtmkiojnhjfkepaaDoor
open Go.RowKit

def decS (l : List Int) : Nat := numB (l.take 6)
def decM (l : List Int) : Nat := numB ((l.drop 6).take 4)
theorem decS_le (l : List Int) (h : Bytes l) : decS l ≤ 281474976710655 := by
  have h1 := numB_lt (l.take 6) (h.take 6)
  have h2 : 256 ^ (l.take 6).length ≤ 256 ^ 6 := Nat.pow_le_pow_right (by omega) (by simp; omega)
  have h3 : 256 ^ 6 = 281474976710656 := by decide
  unfold decS; omega
theorem decM_le (l : List Int) (h : Bytes l) : decM l ≤ 4294967295 := by
  have h1 := numB_lt ((l.drop 6).take 4) ((h.drop 6).take 4)
  have h2 : 256 ^ ((l.drop 6).take 4).length ≤ 256 ^ 4 := Nat.pow_le_pow_right (by omega) (by simp; omega)
  have h3 : 256 ^ 4 = 4294967296 := by decide
  unfold decM; omega

/-- what Decode returns of ten bytes -/
def decV (S M : Nat) : Value := if stOk S M then .tuple #[.agg #[.int .i64 S, .int .i64 M], .int .i64 0] else .tuple #[.agg #[.int .i64 0, .int .i64 0], .int .i64 3]
theorem decV_yes {S M : Nat} (h : stOk S M) : decV S M = .tuple #[.agg #[.int .i64 S, .int .i64 M], .int .i64 0] := if_pos h
theorem decV_no {S M : Nat} (h : ¬ stOk S M) : decV S M = .tuple #[.agg #[.int .i64 0, .int .i64 0], .int .i64 3] := if_neg h

theorem Pdec_short {p : Option Addr} {n cap : Nat} (w : World) (h : n < 10) :
    Calls Tryd.prog 24 #[.slice p n cap] w fun e w' => e = .returned (.tuple #[.agg #[.int .i64 0, .int .i64 0], .int .i64 5]) ∧ Only [] w w' := by
  have d : decide ((n : Int) < 10) = true := by simp; omega
  go_enter Tryd.func24, Tryd.ntmps24
  go_wp2
  exact bodyPost_ret (v := .tuple #[.agg #[.int .i64 0, .int .i64 0], .int .i64 5]) (by simp [results, Tryd.results24, go_sem]) rfl ⟨rfl, (Only.refl [] w).alloc _⟩
theorem Pdec_long {p : Option Addr} {n cap : Nat} (w : World) (h : 10 < n) :
    Calls Tryd.prog 24 #[.slice p n cap] w fun e w' => e = .returned (.tuple #[.agg #[.int .i64 0, .int .i64 0], .int .i64 6]) ∧ Only [] w w' := by
  have d : decide ((n : Int) < 10) = false := by simp; omega
  have d1 : decide (10 < (n : Int)) = true := by simp; omega
  go_enter Tryd.func24, Tryd.ntmps24
  go_wp2
  exact bodyPost_ret (v := .tuple #[.agg #[.int .i64 0, .int .i64 0], .int .i64 6]) (by simp [results, Tryd.results24, go_sem]) rfl ⟨rfl, (Only.refl [] w).alloc _⟩
theorem Rdec_short {p : Option Addr} {n cap : Nat} (w : World) (h : n < 10) :
    Calls Tryd.prog 25 #[.slice p n cap] w fun e w' => e = .returned (.tuple #[.agg #[.int .i64 0, .int .i64 0], .int .i64 5]) ∧ Only [] w w' := by
  have d : decide ((n : Int) < 10) = true := by simp; omega
  go_enter Tryd.func25, Tryd.ntmps25
  go_wp2
  exact bodyPost_ret (v := .tuple #[.agg #[.int .i64 0, .int .i64 0], .int .i64 5]) (by simp [results, Tryd.results25, go_sem]) rfl ⟨rfl, (Only.refl [] w).alloc _⟩
theorem Rdec_long {p : Option Addr} {n cap : Nat} (w : World) (h : 10 < n) :
    Calls Tryd.prog 25 #[.slice p n cap] w fun e w' => e = .returned (.tuple #[.agg #[.int .i64 0, .int .i64 0], .int .i64 6]) ∧ Only [] w w' := by
  have d : decide ((n : Int) < 10) = false := by simp; omega
  have d1 : decide (10 < (n : Int)) = true := by simp; omega
  go_enter Tryd.func25, Tryd.ntmps25
  go_wp2
  exact bodyPost_ret (v := .tuple #[.agg #[.int .i64 0, .int .i64 0], .int .i64 6]) (by simp [results, Tryd.results25, go_sem]) rfl ⟨rfl, (Only.refl [] w).alloc _⟩

set_option maxRecDepth 100000 in
set_option maxHeartbeats 1000000 in
theorem Pdec_ten {w : World} {p : Option Addr} {cap : Nat} {l : List Int} (hv : VRow bE 1 w p 10 cap l) (hb : Bytes l) :
    Calls Tryd.prog 24 #[.slice p 10 cap] w fun e w' => e = .returned (decV (decS l) (decM l)) ∧ Only [] w w' := by
  have b1 := decS_le l hb
  have b2 := decM_le l hb
  obtain ⟨S, hS⟩ : ∃ S, S = decS l := ⟨_, rfl⟩
  obtain ⟨M, hM⟩ : ∃ M, M = decM l := ⟨_, rfl⟩
  rw [← hS, ← hM]
  rw [← hS] at b1
  rw [← hM] at b2
  have HS := Lib.hid hS; have HM := Lib.hid hM
  have HV := Lib.hid hv; have HB := Lib.hid hb; have HL := Lib.hid hv.len
  clear hv hb hS hM
  go_enter Tryd.func24, Tryd.ntmps24
  go_wp2_with fail
  refine alloc_abs (G := fun w0 => Calls _ _ _ w0 _) ?_
  intro w1 hb1 ho1 hs1
  have B1 := Lib.hid hb1; have O1 := Lib.hid ho1
  clear hb1 hs1 ho1
  refine (wnew (HV.out.kept O1.out) (by omega)).mono ?_
  rintro e w2 ⟨rfl, hr2, hrow2, ho2⟩
  have R2 := Lib.hid hr2; have W2 := Lib.hid hrow2; have O2 := Lib.hid (O1.out.nil_trans ho2); have B2 := Lib.hid (ho2.got B1.out (by simp))
  have L1 := Lib.hid (got_lt B1.out); have L2 := Lib.hid (O1.out.size)
  clear hr2 hrow2 ho2 B1
  go_wp2_with fail
  have hu := wuint R2.out W2.out HL.out HB.out (by omega) 6 (by omega) (by omega) (by omega) (by omega) (by omega) (by omega)
  rw [List.drop_zero, show numB (l.take 6) = S from HS.out.symm] at hu
  refine hu.mono ?_
  clear hu
  rintro e w3 ⟨rfl, hr3, ho3⟩
  have hne : w.heap.size ∉ [w1.heap.size + 1] := by have := L1.out; simp; omega
  have R3 := Lib.hid hr3; have W3 := Lib.hid (W2.out.kept ho3 (by simp)); have O3 := Lib.hid (O2.out.trans ho3 (by have := L2.out; simp; omega)); have B3 := Lib.hid (ho3.got B2.out hne)
  clear hr3 ho3 B2
  go_wp2_with fail
  have hu := wuint_all R3.out W3.out HL.out HB.out (by omega) (by omega) (by omega) (by omega)
  rw [show numB ((l.drop (0 + 6)).take (10 - 6)) = M from HM.out.symm] at hu
  refine hu.mono ?_
  clear hu
  rintro e w4 ⟨rfl, ho4⟩
  have O4 := Lib.hid (O3.out.trans ho4 (by have := L2.out; simp; omega)); have B4 := Lib.hid (ho4.got B3.out hne)
  clear ho4 B3 hne R2 R3
  go_wp2_with fail
  refine alloc_abs (G := fun w0 => Calls _ _ _ w0 _) ?_
  intro w5 hb5 ho5 hs5
  have B5 := Lib.hid (ho5.got B4.out (by simp)); have O5 := Lib.hid (O4.out.nil_trans ho5); have C5 := Lib.hid hb5
  clear hb5 hs5 ho5 B4
  by_cases hok : stOk S M
  · refine (Pcheck_yes S M w5 hok).mono ?_
    rintro e w6 ⟨rfl, ho6⟩
    have B6 := Lib.hid (ho6.got B5.out (by simp)); have O6 := Lib.hid (O5.out.nil_trans ho6); have C6 := Lib.hid (ho6.got C5.out (by simp))
    have k0 := cell_got C6.out 0; have k1 := cell_got C6.out 1
    have g0 := cell_got B6.out 0; have g1 := cell_got B6.out 1
    have f0 := frozen_got B6.out 0; have f1 := frozen_got B6.out 1
    have l0 := got_lt B6.out
    clear ho6 B5 C5
    go_wp2_with fail
    exact bodyPost_ret (v := .tuple #[.agg #[.int .i64 S, .int .i64 M], .int .i64 0]) (by simp [results, Tryd.results24, go_sem, g0, g1]) rfl ⟨by rw [decV_yes hok], (O6.out.setCell (.inr (Nat.le_refl _)) _).setCell (.inr (Nat.le_refl _)) _⟩
  · refine (Pcheck_no S M w5 hok).mono ?_
    rintro e w6 ⟨rfl, ho6⟩
    have B6 := Lib.hid (ho6.got B5.out (by simp)); have O6 := Lib.hid (O5.out.nil_trans ho6); have C6 := Lib.hid (ho6.got C5.out (by simp))
    have k0 := cell_got C6.out 0; have k1 := cell_got C6.out 1
    have g0 := cell_got B6.out 0; have g1 := cell_got B6.out 1
    have f0 := frozen_got B6.out 0; have f1 := frozen_got B6.out 1
    have l0 := got_lt B6.out
    clear ho6 B5 C5
    go_wp2_with fail
    exact bodyPost_ret (v := .tuple #[.agg #[.int .i64 0, .int .i64 0], .int .i64 3]) (by simp [results, Tryd.results24, go_sem, g0, g1]) rfl ⟨by rw [decV_no hok], (O6.out.setCell (.inr (Nat.le_refl _)) _).setCell (.inr (Nat.le_refl _)) _⟩

set_option maxRecDepth 100000 in
set_option maxHeartbeats 1000000 in
theorem Rdec_ten {w : World} {p : Option Addr} {cap : Nat} {l : List Int} (hv : VRow bE 1 w p 10 cap l) (hb : Bytes l) :
    Calls Tryd.prog 25 #[.slice p 10 cap] w fun e w' => e = .returned (decV (decS l) (decM l)) ∧ Only [] w w' := by
  have b1 := decS_le l hb
  have b2 := decM_le l hb
  obtain ⟨S, hS⟩ : ∃ S, S = decS l := ⟨_, rfl⟩
  obtain ⟨M, hM⟩ : ∃ M, M = decM l := ⟨_, rfl⟩
  rw [← hS, ← hM]
  rw [← hS] at b1
  rw [← hM] at b2
  have HS := Lib.hid hS; have HM := Lib.hid hM
  have HV := Lib.hid hv; have HB := Lib.hid hb; have HL := Lib.hid hv.len
  clear hv hb hS hM
  go_enter Tryd.func25, Tryd.ntmps25
  go_wp2_with fail
  refine alloc_abs (G := fun w0 => Calls _ _ _ w0 _) ?_
  intro w1 hb1 ho1 hs1
  have B1 := Lib.hid hb1; have O1 := Lib.hid ho1
  clear hb1 hs1 ho1
  have hu := rget (HV.out.kept O1.out) HB.out 0 6 (by omega) (by omega) (by omega) (by omega)
  rw [List.drop_zero, show numB (l.take 6) = S from HS.out.symm] at hu
  refine hu.mono ?_
  clear hu
  rintro e w2 ⟨rfl, rfl⟩
  go_wp2_with fail
  have hu := rget (HV.out.kept O1.out) HB.out 6 4 (by omega) (by omega) (by omega) (by omega)
  rw [show numB ((l.drop 6).take 4) = M from HM.out.symm] at hu
  refine hu.mono ?_
  clear hu
  rintro e w2 ⟨rfl, rfl⟩
  go_wp2_with fail
  refine alloc_abs (G := fun w0 => Calls _ _ _ w0 _) ?_
  intro w5 hb5 ho5 hs5
  have B5 := Lib.hid (ho5.got B1.out (by simp)); have O5 := Lib.hid (O1.out.nil_trans ho5); have C5 := Lib.hid hb5
  clear hb5 hs5 ho5 B1
  by_cases hok : stOk S M
  · refine (Rcheck_yes S M w5 hok).mono ?_
    rintro e w6 ⟨rfl, ho6⟩
    have B6 := Lib.hid (ho6.got B5.out (by simp)); have O6 := Lib.hid (O5.out.nil_trans ho6); have C6 := Lib.hid (ho6.got C5.out (by simp))
    have k0 := cell_got C6.out 0; have k1 := cell_got C6.out 1
    have g0 := cell_got B6.out 0; have g1 := cell_got B6.out 1
    have f0 := frozen_got B6.out 0; have f1 := frozen_got B6.out 1
    have l0 := got_lt B6.out
    clear ho6 B5 C5
    go_wp2_with fail
    exact bodyPost_ret (v := .tuple #[.agg #[.int .i64 S, .int .i64 M], .int .i64 0]) (by simp [results, Tryd.results25, go_sem, g0, g1]) rfl ⟨by rw [decV_yes hok], (O6.out.setCell (.inr (Nat.le_refl _)) _).setCell (.inr (Nat.le_refl _)) _⟩
  · refine (Rcheck_no S M w5 hok).mono ?_
    rintro e w6 ⟨rfl, ho6⟩
    have B6 := Lib.hid (ho6.got B5.out (by simp)); have O6 := Lib.hid (O5.out.nil_trans ho6); have C6 := Lib.hid (ho6.got C5.out (by simp))
    have k0 := cell_got C6.out 0; have k1 := cell_got C6.out 1
    have g0 := cell_got B6.out 0; have g1 := cell_got B6.out 1
    have f0 := frozen_got B6.out 0; have f1 := frozen_got B6.out 1
    have l0 := got_lt B6.out
    clear ho6 B5 C5
    go_wp2_with fail
    exact bodyPost_ret (v := .tuple #[.agg #[.int .i64 0, .int .i64 0], .int .i64 3]) (by simp [results, Tryd.results25, go_sem, g0, g1]) rfl ⟨by rw [decV_no hok], (O6.out.setCell (.inr (Nat.le_refl _)) _).setCell (.inr (Nat.le_refl _)) _⟩
end Go.Proofs.YtmkiojnhjfkepaaDoor
