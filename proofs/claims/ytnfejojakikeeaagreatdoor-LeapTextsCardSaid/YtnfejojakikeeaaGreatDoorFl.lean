/- Floor, divide and Sub of package fixed. Conditions: the numbers are ints, the divisor is positive. -/
import Derived.Test.YtnfejojakikeeaaGreatDoorBase
import Derived.IntWalk
namespace Go.Proofs.YtnfejojakikeeaaGreatDoor
open Go.RowKit

/-- is it an int? -/
def inI (n : Int) : Bool := decide (-9223372036854775808 ≤ n ∧ n ≤ 9223372036854775807)
/-- the number, or 0 if it is no int -/
def orZ (n : Int) : Int := if inI n then n else 0
theorem i64_of_wf {n : Int} (h : (Lit.int .i64 n).wf = true) : -9223372036854775808 ≤ n ∧ n ≤ 9223372036854775807 := by
  simp only [Lit.wf, IntKind.min, IntKind.max, IntKind.signed, IntKind.bits, Bool.and_eq_true, decide_eq_true_eq, if_true] at h
  omega
theorem ret_int {k : IntKind} {a b : Int} (h : a = b) : Ending.returned (.int k a) = .returned (.int k b) := by rw [h]
theorem ret_ib {k : IntKind} {a b : Int} {x y : Bool} (h : a = b) (h2 : x = y) : Ending.returned (.tuple #[.int k a, .bool x]) = .returned (.tuple #[.int k b, .bool y]) := by rw [h, h2]
theorem inI_yes {n : Int} (h0 : -9223372036854775808 ≤ n) (h1 : n ≤ 9223372036854775807) : inI n = true := by simp [inI, h0, h1]
theorem inI_no {n : Int} (h : n < -9223372036854775808 ∨ 9223372036854775807 < n) : inI n = false := by
  simp only [inI, decide_eq_false_iff_not]; omega
theorem orZ_yes {n : Int} (h0 : -9223372036854775808 ≤ n) (h1 : n ≤ 9223372036854775807) : orZ n = n := by simp [orZ, inI_yes h0 h1]
theorem orZ_no {n : Int} (h : n < -9223372036854775808 ∨ 9223372036854775807 < n) : orZ n = 0 := by simp [orZ, inI_no h]
theorem wrap64_cases (a b : Int) (a0 : -9223372036854775808 ≤ a) (a1 : a ≤ 9223372036854775807) (b0 : -9223372036854775808 ≤ b) (b1 : b ≤ 9223372036854775807) :
    wrap64 (a + b) = (if a + b < -9223372036854775808 then a + b + 18446744073709551616 else if 9223372036854775807 < a + b then a + b - 18446744073709551616 else a + b) := by
  unfold wrap64; split
  · omega
  · split <;> omega

set_option maxHeartbeats 400000 in
theorem fdivide (a b : Int) (w : World) (a0 : -9223372036854775808 ≤ a) (a1 : a ≤ 9223372036854775807) (b0 : 0 < b) (b1 : b ≤ 9223372036854775807) :
    Calls Tryz.prog 87 #[.int .i64 a, .int .i64 b] w fun e w' => e = .returned (.tuple #[.int .i64 (a.tdiv b), .int .i64 (a.tmod b), .bool true]) ∧ ∃ n, w' = w.drewN n := by
  have hb0 : (b == 0) = false := by simp; omega
  have hb1 : (b == -1) = false := by simp; omega
  have hb2 : ¬ b = 0 := by omega
  have hb3 : ¬ b = -1 := by omega
  by_cases ha : a = -9223372036854775808
  · have ha1 : (a == -9223372036854775808) = true := by simp [ha]
    clear ha
    go_enter Tryz.func87, Tryz.ntmps87
    go_wp2_with fail
    go_quiet (fail)
    go_wp2
    go_ret3
    exact ⟨rfl, _, rfl⟩
  · have ha1 : (a == -9223372036854775808) = false := by simp [ha]
    go_enter Tryz.func87, Tryz.ntmps87
    go_wp2_with fail
    go_quiet (fail)
    go_wp2
    go_ret3
    exact ⟨rfl, _, rfl⟩
theorem ret_iib {k k' : IntKind} {a b c d : Int} {x y : Bool} (h : a = b) (h2 : c = d) (h3 : x = y) : Ending.returned (.tuple #[.int k a, .int k' c, .bool x]) = .returned (.tuple #[.int k b, .int k' d, .bool y]) := by rw [h, h2, h3]

theorem ediv_bd (a b : Int) (a0 : -9223372036854775808 ≤ a) (a1 : a ≤ 9223372036854775807) (b0 : 0 < b) : -9223372036854775808 ≤ a / b ∧ a / b ≤ 9223372036854775807 ∧ (a < 0 → a / b < 0) := by
  refine ⟨(Int.le_ediv_iff_mul_le b0).2 (by omega), ?_, fun h => ?_⟩
  · have : a / b < 9223372036854775808 := (Int.ediv_lt_iff_lt_mul b0).2 (by omega)
    omega
  · exact (Int.ediv_lt_iff_lt_mul b0).2 (by omega)
theorem floor_of_tdiv (a b : Int) (b0 : 0 < b) : a.tdiv b = (if a.tmod b < 0 then a / b + 1 else a / b) ∧ (a.tmod b < 0 → a < 0) := by
  have h1 := Int.tmod_add_mul_tdiv a b
  have h5 : a.tmod b < b := Int.tmod_lt_of_pos a b0
  have h6 : -b < a.tmod b := by have := Int.lt_tmod_of_pos a b0; omega
  have h7 : a.tmod b < 0 → a < 0 := fun h => by
    rcases Int.lt_or_le a 0 with h' | h'
    · exact h'
    · have := Int.tmod_nonneg b h'; omega
  refine ⟨?_, h7⟩
  clear h7
  generalize a.tdiv b = q at h1 ⊢
  generalize a.tmod b = r at h1 h5 h6 ⊢
  split
  · have : a / b = q - 1 := by
      have e1 : a = (r + b) + b * (q - 1) := by rw [Int.mul_sub, Int.mul_one]; omega
      rw [e1, Int.add_mul_ediv_left _ _ (Int.ne_of_gt b0), Int.ediv_eq_zero_of_lt (by omega) (by omega)]; omega
    omega
  · have : a / b = q := by
      rw [← h1, Int.add_mul_ediv_left _ _ (Int.ne_of_gt b0), Int.ediv_eq_zero_of_lt (by omega) (by omega)]; omega
    omega

set_option maxHeartbeats 400000 in
theorem ffloor (a b : Int) (w : World) (a0 : -9223372036854775808 ≤ a) (a1 : a ≤ 9223372036854775807) (b0 : 0 < b) (b1 : b ≤ 9223372036854775807) :
    Calls Tryz.prog 73 #[.int .i64 a, .int .i64 b] w fun e w' => e = .returned (.tuple #[.int .i64 (a / b), .bool true]) ∧ ∃ n, w' = w.drewN n := by
  obtain ⟨hfl, hneg⟩ := floor_of_tdiv a b b0
  obtain ⟨e0, e1, e2⟩ := ediv_bd a b a0 a1 b0
  have hb := fdivide a b w a0 a1 b0 b1
  generalize a.tdiv b = q at hfl hb
  generalize a.tmod b = r at hfl hneg hb
  generalize a / b = f at hfl e0 e1 e2 ⊢
  have HB := Lib.hid hb
  clear hb
  have hb2 : decide (b < 0) = false := by simp; omega
  by_cases hr0 : r < 0
  · have hr1 : (r == 0) = false := by simp; omega
    have hr2 : (r != 0) = true := by simp; omega
    have hr3 : decide (r < 0) = true := by simp [hr0]
    rw [if_pos hr0] at hfl
    subst hfl
    have ha := e2 (hneg hr0)
    clear hr0 hneg e2
    go_enter Tryz.func73, Tryz.ntmps73
    go_wp2_with fail
    refine HB.out.mono ?_
    rintro e w' ⟨rfl, n, rfl⟩
    go_wp2_with fail
    go_ret2
    exact ⟨ret_ib (by omega) rfl, _, rfl⟩
  · rw [if_neg hr0] at hfl
    subst hfl
    have hr3 : decide (r < 0) = false := by simpa using hr0
    clear hr0 hneg e2
    by_cases hz : r = 0
    · subst hz
      go_enter Tryz.func73, Tryz.ntmps73
      go_wp2_with fail
      refine HB.out.mono ?_
      rintro e w' ⟨rfl, n, rfl⟩
      go_wp2_with fail
      go_ret2
      exact ⟨rfl, _, rfl⟩
    · have hr1 : (r == 0) = false := by simp [hz]
      have hr2 : (r != 0) = true := by simp [hz]
      go_enter Tryz.func73, Tryz.ntmps73
      go_wp2_with fail
      refine HB.out.mono ?_
      rintro e w' ⟨rfl, n, rfl⟩
      go_wp2_with fail
      go_ret2
      exact ⟨rfl, _, rfl⟩

theorem wrap64_sub (a b : Int) (a0 : -9223372036854775808 ≤ a) (a1 : a ≤ 9223372036854775807) (b0 : -9223372036854775808 ≤ b) (b1 : b ≤ 9223372036854775807) :
    wrap64 (a - b) = (if a - b < -9223372036854775808 then a - b + 18446744073709551616 else if 9223372036854775807 < a - b then a - b - 18446744073709551616 else a - b) := by
  unfold wrap64; split
  · omega
  · split <;> omega
set_option maxHeartbeats 400000 in
theorem fsub (a b : Int) (w : World) (a0 : -9223372036854775808 ≤ a) (a1 : a ≤ 9223372036854775807) (b0 : -9223372036854775808 ≤ b) (b1 : b ≤ 9223372036854775807) :
    Calls Tryz.prog 32 #[.int .i64 a, .int .i64 b] w fun e w' => e = .returned (.tuple #[.int .i64 (orZ (a - b)), .bool (inI (a - b))]) ∧ w = w' := by
  by_cases hlo : a - b < -9223372036854775808
  · rw [orZ_no (by omega), inI_no (by omega)]
    have d1 : decide (a < 0) = true := by simp; omega
    have d2 : decide (b < 0) = false := by simp; omega
    have d3 : decide (wrap64 (a - b) < 0) = false := by rw [wrap64_sub a b a0 a1 b0 b1]; simp [hlo]; omega
    clear hlo
    go_enter Tryz.func32, Tryz.ntmps32
    go_wp2
    go_ret2
    exact ⟨rfl, rfl⟩
  · by_cases hhi : 9223372036854775807 < a - b
    · rw [orZ_no (by omega), inI_no (by omega)]
      have d1 : decide (a < 0) = false := by simp; omega
      have d2 : decide (b < 0) = true := by simp; omega
      have d3 : decide (wrap64 (a - b) < 0) = true := by rw [wrap64_sub a b a0 a1 b0 b1]; simp [hlo, hhi]; omega
      clear hlo hhi
      go_enter Tryz.func32, Tryz.ntmps32
      go_wp2
      go_ret2
      exact ⟨rfl, rfl⟩
    · rw [orZ_yes (by omega) (by omega), inI_yes (by omega) (by omega)]
      have hl1 : -9223372036854775808 ≤ a - b := by omega
      have hl2 : a - b ≤ 9223372036854775807 := by omega
      by_cases h1 : a < 0 <;> by_cases h2 : b < 0 <;> by_cases h3 : a - b < 0
      all_goals first | (exfalso; omega) | skip
      all_goals
        go_enter Tryz.func32, Tryz.ntmps32
        go_wp2
        go_ret2
        exact ⟨rfl, rfl⟩
end Go.Proofs.YtnfejojakikeeaaGreatDoor
