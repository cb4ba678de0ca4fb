/- link.limited, isTime, isDir. No condition. -/
import Derived.Test.YthmeifdgkodjlaaDoorS6
namespace Go.Proofs.YthmeifdgkodjlaaDoor
open Go.RowKit

/-- the nearest delay that is permitted -/
def clp (n : Int) : Int := min (max n 0) 10000000000
theorem clp_eq {n : Int} : clp n = n ↔ inR n 0 10000000000 = true := by rw [inR_t]; unfold clp; omega
def LimI (w1 : World) (b : Nat) (x y : Int) (vi : Value) (wr : World) : Prop :=
  ∃ k : Nat, k ≤ 2 ∧ vi = .int .i64 k ∧ wr.heap[b]? = some (.cells #[.int .i64 (if 0 < k then clp x else x), .int .i64 (if 1 < k then clp y else y)] 50 (0, 0)) ∧ Only [b] w1 wr
set_option maxRecDepth 100000 in
set_option maxHeartbeats 2000000 in
theorem pLimited (x y : Int) (w : World) : Calls Tryd.prog 36 #[.agg #[.int .i64 x, .int .i64 y]] w fun e w' => e = .returned (.agg #[.int .i64 (clp x), .int .i64 (clp y)]) ∧ Only [] w w' := by
  go_enter Tryd.func36, Tryd.ntmps36
  go_upto_region 1 with (fail)
  refine alloc_abs (G := fun w0 => Code.wp _ _ _ _ (w0.alloc _)) ?_
  intro w0 hb0 ho0 hs0
  have hlt : w.heap.size < w0.heap.size := got_lt hb0
  rw [← hs0]
  clear hs0
  refine alloc_abs (G := fun w0 => Code.wp _ _ _ _ w0) ?_
  intro w1 hb1 ho1 hs1
  have B1 := Lib.hid (ho1.got hb0 (by simp)); have C1 := Lib.hid hb1; have O1 := Lib.hid (ho0.nil_trans ho1)
  clear hb0 ho0 hb1 ho1 hs1
  go_wp2
  go_loopw [4] (fun vi wr => LimI w1 w.heap.size x y vi wr) (fun vi _ => 2 - (intOf vi).toNat)
  case atStart => exact ⟨0, by omega, rfl, B1.out, Only.refl _ _⟩
  case round =>
    obtain ⟨k, hk, rfl, hb, ho⟩ := hrel
    have BB := Lib.hid hb; have OO := Lib.hid ho
    clear hb ho
    have hcases : k = 0 ∨ k = 1 ∨ k = 2 := by omega
    rcases hcases with rfl | rfl | rfl
    · have g0 := cell_got BB.out 0; have f0 := frozen_got BB.out 0; have l0 := got_lt BB.out
      simp only [Nat.lt_irrefl, if_false] at g0
      go_wp2
      have E0 : ∀ z : Int, (if 10000000000 < if z < 0 then (0 : Int) else z then 10000000000 else if z < 0 then 0 else z) = clp z := by intro z; unfold clp; split <;> split <;> omega
      rw [E0]
      exact ⟨⟨1, by omega, rfl, by simpa using setCell_got (o := 0) _ BB.out, OO.out.setCell (Or.inl (by simp)) _⟩, by simp [intOf]⟩
    · have g1 := cell_got BB.out 1; have f1 := frozen_got BB.out 1; have l1 := got_lt BB.out
      simp only [Nat.lt_irrefl, if_false, if_true, Nat.zero_lt_one] at g1
      go_wp2
      have E0 : ∀ z : Int, (if 10000000000 < if z < 0 then (0 : Int) else z then 10000000000 else if z < 0 then 0 else z) = clp z := by intro z; unfold clp; split <;> split <;> omega
      rw [E0]
      exact ⟨⟨2, by omega, rfl, by simpa using setCell_got (o := 1) _ BB.out, OO.out.setCell (Or.inl (by simp)) _⟩, by simp [intOf]⟩
    · have g0 := cell_got BB.out 0; have g1 := cell_got BB.out 1; have l1 := got_lt BB.out
      simp only [if_true, Nat.zero_lt_two, Nat.one_lt_two] at g0 g1
      have hc1 := OO.out.got C1.out (by simp; omega)
      have HC := Lib.hid hc1
      have r0 := cell_got hc1 0; have r1 := cell_got hc1 1; have q0 := frozen_got hc1 0; have q1 := frozen_got hc1 1
      have s1 := cell_got (setCell_got (o := 0) (.int .i64 (clp x)) hc1) 1; have s0 := frozen_got (setCell_got (o := 0) (.int .i64 (clp x)) hc1) 1
      have l2 := got_lt hc1
      clear hc1
      go_wp2
      have HD := setCell_got (o := 1) (.int .i64 (clp y)) (setCell_got (o := 0) (.int .i64 (clp x)) HC.out)
      have e0 := cell_got HD 0; have e1 := cell_got HD 1
      have hO : Only [] w ((wr.setCell ⟨w0.heap.size, 0, none⟩ (.int .i64 (clp x))).setCell ⟨w0.heap.size, 1, none⟩ (.int .i64 (clp y))) :=
        ((O1.out.trans OO.out (fun x hx => by simp at hx; subst hx; exact .inr (Nat.le_refl _))).setCell (Or.inr (by simp; omega)) _).setCell (Or.inr (by simp; omega)) _
      exact bodyPost_ret (v := .agg #[.int .i64 (clp x), .int .i64 (clp y)]) (by simp [results, Tryd.results36, go_sem, e0, e1]) rfl ⟨rfl, hO⟩
theorem pTime (n : Int) (w : World) : Calls Tryd.prog 37 #[.int .i64 n] w fun e w' => e = .returned (.bool (inR n 0 1125899906842624)) ∧ w = w' := by
  by_cases h0 : 0 ≤ n
  · have d1 : decide (n ≥ 0) = true := by simpa using h0
    have d2 : decide (0 ≤ n) = true := by simpa using h0
    have HR : Hid (inR n 0 1125899906842624 = decide (n ≤ 1125899906842624)) := Lib.hid (by simp [inR, h0])
    clear h0
    go_enter Tryd.func37, Tryd.ntmps37
    go_wp2
    go_ret
    exact ⟨by rw [HR.out]; rfl, rfl⟩
  · have d1 : decide (n ≥ 0) = false := by simpa using h0
    have d2 : decide (0 ≤ n) = false := by simpa using h0
    have HR : Hid (inR n 0 1125899906842624 = false) := Lib.hid (by simp [inR, h0])
    clear h0
    go_enter Tryd.func37, Tryd.ntmps37
    go_wp2
    go_ret
    exact ⟨by rw [HR.out]; rfl, rfl⟩
theorem pDir (n : Int) (w : World) : Calls Tryd.prog 38 #[.int .i64 n] w fun e w' => e = .returned (.bool (inR n 0 1)) ∧ w = w' := by
  by_cases h0 : n = 0
  · subst h0
    go_enter Tryd.func38, Tryd.ntmps38
    go_wp2
    go_ret
    exact ⟨rfl, rfl⟩
  · have d1 : (n == 0) = false := by simp [h0]
    have HR : Hid (inR n 0 1 = (n == 1)) := Lib.hid (by rw [Bool.eq_iff_iff, inR_t]; simp; omega)
    clear h0
    go_enter Tryd.func38, Tryd.ntmps38
    go_wp2
    go_ret
    exact ⟨by rw [HR.out]; rfl, rfl⟩
end Go.Proofs.YthmeifdgkodjlaaDoor
