/- Entries of a log: the check of one entry, in package logbook and in the reference. No condition. -/
import Derived.Test.YtdpfbedcejahjaaDoorMp
import Derived.Test.YtdpfbedcejahjaaDoorRowsOf
import Derived.IntWalk
namespace Go.Proofs.YtdpfbedcejahjaaDoor
open Go.RowKit

theorem ret_int {k : IntKind} {a b : Int} (h : a = b) : Ending.returned (.int k a) = .returned (.int k b) := by rw [h]

/-- an entry -/
structure En where
  k : Int
  n : Int
  p : Int
  m : Int
  c : Int
  v : Int
  deriving DecidableEq
/-- its cells -/
def enC (e : En) : List Value := [.int .i64 e.k, .int .i64 e.n, .int .i64 e.p, .int .i64 e.m, .int .i64 e.c, .int .i64 e.v]
/-- as a value -/
def enV (e : En) : Value := .agg #[.int .i64 e.k, .int .i64 e.n, .int .i64 e.p, .int .i64 e.m, .int .i64 e.c, .int .i64 e.v]
/-- is it about a message? -/
def trav (e : En) : Prop := e.k = 1 ∨ e.k = 2
instance (e : En) : Decidable (trav e) := by unfold trav; exact inferInstance
def rngOk (e : En) : Prop := 0 ≤ e.n ∧ e.n ≤ 23 ∧ 0 ≤ e.p ∧ e.p ≤ 23 ∧ 0 ≤ e.m ∧ e.m ≤ 2147483647 ∧ -4503599627370496 ≤ e.c ∧ e.c ≤ 4503599627370496 ∧ -4503599627370496 ≤ e.v ∧ e.v ≤ 4503599627370496
instance (e : En) : Decidable (rngOk e) := by unfold rngOk; exact inferInstance
def formBad (e : En) : Prop := ((e.k = 1 ∨ e.k = 2) ∧ (e.v ≠ 0 ∨ e.n = e.p)) ∨ (¬ (e.k = 1 ∨ e.k = 2) ∧ (e.p ≠ 0 ∨ e.m ≠ 0)) ∨ (e.k = 4 ∧ e.v ≠ 0)
instance (e : En) : Decidable (formBad e) := by unfold formBad; exact inferInstance
/-- the error of an entry -/
def eChk (e : En) : Int := if e.k < 1 ∨ 4 < e.k then 8 else if ¬ rngOk e then 3 else if formBad e then 7 else 0
theorem eChk8 {e : En} (h : e.k < 1 ∨ 4 < e.k) : eChk e = 8 := by unfold eChk; rw [if_pos h]
theorem eChk3 {e : En} (h : ¬ (e.k < 1 ∨ 4 < e.k)) (h2 : ¬ rngOk e) : eChk e = 3 := by unfold eChk; rw [if_neg h, if_pos h2]
theorem eChk7 {e : En} (h : ¬ (e.k < 1 ∨ 4 < e.k)) (h2 : rngOk e) (h3 : formBad e) : eChk e = 7 := by unfold eChk; rw [if_neg h, if_neg (not_not_intro h2), if_pos h3]
theorem eChk0 {e : En} (h : ¬ (e.k < 1 ∨ 4 < e.k)) (h2 : rngOk e) (h3 : ¬ formBad e) : eChk e = 0 := by unfold eChk; rw [if_neg h, if_neg (not_not_intro h2), if_neg h3]

set_option maxRecDepth 100000 in
set_option maxHeartbeats 2000000 in
theorem Pone (e : En) (w : World) : Calls Tryd.prog 22 #[.agg #[.int .i64 e.k, .int .i64 e.n, .int .i64 e.p, .int .i64 e.m, .int .i64 e.c, .int .i64 e.v]] w fun r w' => r = .returned (.int .i64 (eChk e)) ∧ Only [] w w' := by
  obtain ⟨k, n, p, m, c, v⟩ := e
  simp only
  go_enter Tryd.func22, Tryd.ntmps22
  go_wp2
  all_goals
    go_ret
    refine ⟨ret_int ?_, (Only.refl [] w).alloc _⟩
    first
      | exact (eChk8 (by dsimp only; omega)).symm
      | exact (eChk3 (by dsimp only; omega) (by unfold rngOk; dsimp only; omega)).symm
      | exact (eChk7 (by dsimp only; omega) (by unfold rngOk; dsimp only; omega) (by unfold formBad; dsimp only; omega)).symm
      | exact (eChk0 (by dsimp only; omega) (by unfold rngOk; dsimp only; omega) (by unfold formBad; dsimp only; omega)).symm
      | (simp only [beq_iff_eq, beq_eq_false_iff_ne, ne_eq, bne_iff_ne, bne_eq_false_iff_eq, Bool.not_eq_true', Bool.not_eq_false'] at *
         first
           | exact (eChk7 (by dsimp only; omega) (by unfold rngOk; dsimp only; omega) (by unfold formBad; dsimp only; omega)).symm
           | exact (eChk0 (by dsimp only; omega) (by unfold rngOk; dsimp only; omega) (by unfold formBad; dsimp only; omega)).symm)
end Go.Proofs.YtdpfbedcejahjaaDoor
