/- Intervals that contain true time: plain. No condition. -/
import Derived.Test.YtikjdmbfjkbndaaGreatMk
import Derived.Test.YtikjdmbfjkbndaaGreatZ0
import Derived.Test.YtikjdmbfjkbndaaGreatZ1
namespace Go.Proofs.YtikjdmbfjkbndaaGreat
open Go.RowKit

/-- an interval, if it is valid -/
def ckd (lo hi : Int) : Iv × Int := if ivOk ⟨lo, hi⟩ = true then (⟨lo, hi⟩, 0) else (⟨0, 0⟩, 3)
def elOk (raw tol : Int) : Bool := decide (0 ≤ raw ∧ raw ≤ 2251799813685248 ∧ 0 ≤ tol ∧ tol ≤ 500000)
def elLo (raw tol : Int) : Int := max 0 ((raw - 1) * 1000000000 / (1000000000 + tol) + 1)
def elHi (raw tol : Int) : Int := -(-(raw + 1) * 1000000000 / (1000000000 - tol)) - 1
def ageI (x : Iv) (raw tol : Int) : Iv × Int := if ivOk x = true then (if elOk raw tol = true then ckd (x.lo + elLo raw tol) (x.hi + elHi raw tol) else (⟨0, 0⟩, 3)) else (⟨0, 0⟩, 2)
/-- Trip without a hold -/
def tripI (x : Iv) (raw tol : Int) : Iv × Int := if ivOk x = true then (if elOk raw tol = true then ckd x.lo (x.hi + elHi raw tol) else (⟨0, 0⟩, 3)) else (⟨0, 0⟩, 2)
def meetI (a b : Iv) : Option Iv := if ivOk a = true ∧ ivOk b = true ∧ max a.lo b.lo ≤ min a.hi b.hi then some ⟨max a.lo b.lo, min a.hi b.hi⟩ else none
def widI (x : Iv) : Int := if ivOk x = true then (if x.hi - x.lo ≤ 9223372036854775807 then x.hi - x.lo else 9223372036854775807) else 0
theorem ivOk_iff {x : Iv} : ivOk x = true ↔ x.lo ≤ x.hi ∧ -8000000000000000000 ≤ x.lo ∧ x.hi ≤ 8000000000000000000 := by simp [ivOk]
theorem elOk_iff {raw tol : Int} : elOk raw tol = true ↔ 0 ≤ raw ∧ raw ≤ 2251799813685248 ∧ 0 ≤ tol ∧ tol ≤ 500000 := by simp [elOk]
theorem lo_bd {raw tol : Int} (h : elOk raw tol = true) : -1 ≤ (raw - 1) * 1000000000 / (1000000000 + tol) ∧ (raw - 1) * 1000000000 / (1000000000 + tol) ≤ 2251799813685248 := by
  obtain ⟨h0, h1, h2, h3⟩ := elOk_iff.1 h
  constructor
  · rw [Int.le_ediv_iff_mul_le (by omega)]; omega
  · refine Int.ediv_le_of_le_mul (by omega) ?_
    have := Int.mul_le_mul_of_nonneg_left (a := 1000000000) (b := 1000000000 + tol) (c := 2251799813685248) (by omega) (by omega)
    omega
theorem hi_bd {raw tol : Int} (h : elOk raw tol = true) : -4503599627370500 ≤ -(raw + 1) * 1000000000 / (1000000000 - tol) ∧ -(raw + 1) * 1000000000 / (1000000000 - tol) ≤ -1 := by
  obtain ⟨h0, h1, h2, h3⟩ := elOk_iff.1 h
  constructor
  · rw [Int.le_ediv_iff_mul_le (by omega)]
    have := Int.mul_le_mul_of_nonpos_left (a := -4503599627370500) (b := 1000000000 - tol) (c := 999500000) (by omega) (by omega)
    omega
  · have : -(raw + 1) * 1000000000 / (1000000000 - tol) < 0 := by
      refine Int.ediv_neg_of_neg_of_pos ?_ (by omega)
      omega
    omega
theorem el_bd {raw tol : Int} (h : elOk raw tol = true) : 0 ≤ elLo raw tol ∧ elLo raw tol ≤ 2251799813685249 ∧ 0 ≤ elHi raw tol ∧ elHi raw tol ≤ 4503599627370499 := by
  have h1 := lo_bd h
  have h2 := hi_bd h
  unfold elLo elHi
  omega
end Go.Proofs.YtikjdmbfjkbndaaGreat
