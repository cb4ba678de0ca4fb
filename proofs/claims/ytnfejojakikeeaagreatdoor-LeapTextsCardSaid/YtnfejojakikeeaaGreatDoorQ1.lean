/- What the functions of the reference of layer 1 compute, those that chapter 6 reaches. No condition. -/
import Derived.Test.YtnfejojakikeeaaGreatDoorFl
namespace Go.Proofs.YtnfejojakikeeaaGreatDoor
open Go.RowKit

/-- the number with this absolute value and sign -/
def sgn (neg : Bool) (m : Nat) : Int := if neg then -(m : Int) else m

theorem sgn_pos (m : Nat) : sgn false m = m := rfl
theorem sgn_neg (m : Nat) : sgn true m = -(m : Int) := rfl

theorem mul_of_sgn {a b : Int} {lo : Nat} (h : a.natAbs * b.natAbs = lo) : a * b = sgn (!(decide (a < 0) == decide (b < 0))) lo := by
  have h' : (a.natAbs : Int) * (b.natAbs : Int) = (lo : Int) := by rw [← h]; simp
  by_cases h1 : a < 0 <;> by_cases h2 : b < 0 <;> simp only [h1, h2, decide_true, decide_false, beq_self_eq_true, Bool.not_true, sgn, Bool.false_eq_true, if_false]
  · rw [show (a.natAbs : Int) = -a by omega, show (b.natAbs : Int) = -b by omega, Int.neg_mul_neg] at h'; exact h'
  · rw [show (a.natAbs : Int) = -a by omega, show (b.natAbs : Int) = b by omega, Int.neg_mul] at h'; simp; omega
  · rw [show (a.natAbs : Int) = a by omega, show (b.natAbs : Int) = -b by omega, Int.mul_neg] at h'; simp; omega
  · rw [show (a.natAbs : Int) = a by omega, show (b.natAbs : Int) = b by omega] at h'; exact h'
theorem mul_far {a b : Int} {hi lo : Nat} (h : a.natAbs * b.natAbs = hi * 18446744073709551616 + lo) (h0 : 0 < hi) : a * b < -9223372036854775808 ∨ 9223372036854775807 < a * b := by
  have := mul_of_sgn h
  rw [this]
  unfold sgn
  split <;> omega

theorem rsize (n : Int) (w : World) (h0 : -9223372036854775808 ≤ n) (h1 : n ≤ 9223372036854775807) :
    Calls Tryz.prog 105 #[.int .i64 n] w fun e w' => e = .returned (.int .u64 (n.natAbs : Int)) ∧ w = w' := by
  by_cases h : n < 0
  · go_enter Tryz.func105, Tryz.ntmps105
    go_wp2
    go_ret
    refine ⟨ret_int ?_, rfl⟩
    omega
  · go_enter Tryz.func105, Tryz.ntmps105
    go_wp2
    go_ret
    refine ⟨ret_int ?_, rfl⟩
    omega

theorem rsigned (m : Nat) (neg : Bool) (hi : Nat) (w : World) (h1 : m ≤ 18446744073709551615) (hh : hi ≤ 18446744073709551615) :
    Calls Tryz.prog 107 #[.bool neg, .int .u64 hi, .int .u64 m] w fun e w' => e = .returned (.tuple #[.int .i64 (orZ (sgn neg (hi * 18446744073709551616 + m))), .bool (inI (sgn neg (hi * 18446744073709551616 + m)))]) ∧ w = w' := by
  by_cases h0 : 0 < hi
  · have hd : decide (0 < hi) = true := by simp [h0]
    have hd' : decide (0 < (hi : Int)) = true := by simp; omega
    have hf : sgn neg (hi * 18446744073709551616 + m) < -9223372036854775808 ∨ 9223372036854775807 < sgn neg (hi * 18446744073709551616 + m) := by
      unfold sgn; split <;> omega
    rw [orZ_no hf, inI_no hf]
    clear hf
    go_enter Tryz.func107, Tryz.ntmps107
    go_wp2
    go_ret2
    exact ⟨rfl, rfl⟩
  · obtain rfl : hi = 0 := by omega
    rw [Nat.zero_mul, Nat.zero_add]
    clear hh h0
    by_cases hbig : 9223372036854775808 < m
    · have hd : decide (9223372036854775808 < (m : Int)) = true := by simp; omega
      have hf : sgn neg m < -9223372036854775808 ∨ 9223372036854775807 < sgn neg m := by
        unfold sgn; split <;> omega
      rw [orZ_no hf, inI_no hf]
      clear hf
      go_enter Tryz.func107, Tryz.ntmps107
      go_wp2
      go_ret2
      exact ⟨rfl, rfl⟩
    · have hd : decide (9223372036854775808 < (m : Int)) = false := by simp; omega
      cases neg
      · rw [sgn_pos]
        by_cases he : m = 9223372036854775808
        · have he' : ((m : Int) == 9223372036854775808) = true := by simp [he]
          rw [orZ_no (by omega), inI_no (by omega)]
          clear he
          go_enter Tryz.func107, Tryz.ntmps107
          go_wp2
          go_ret2
          exact ⟨rfl, rfl⟩
        · have he' : ((m : Int) == 9223372036854775808) = false := by simp; omega
          have hm : m ≤ 9223372036854775807 := by omega
          rw [orZ_yes (by omega) (by omega), inI_yes (by omega) (by omega)]
          go_enter Tryz.func107, Tryz.ntmps107
          go_wp2
          go_ret2
          exact ⟨rfl, rfl⟩
      · rw [sgn_neg]
        rw [orZ_yes (by omega) (by omega), inI_yes (by omega) (by omega)]
        by_cases hz : m = 0
        · subst hz
          go_enter Tryz.func107, Tryz.ntmps107
          go_wp2
          go_ret2
          exact ⟨ret_ib (by simp) rfl, rfl⟩
        · have hz' : ((m : Int) == 0) = false := by simp; omega
          have hm1 : 0 ≤ (m : Int) - 1 := by omega
          by_cases he : m = 9223372036854775808
          · have he' : ((m : Int) == 9223372036854775808) = true := by simp [he]
            clear he
            go_enter Tryz.func107, Tryz.ntmps107
            go_wp2
            go_ret2
            exact ⟨ret_ib (by omega) rfl, rfl⟩
          · have he' : ((m : Int) == 9223372036854775808) = false := by simp; omega
            go_enter Tryz.func107, Tryz.ntmps107
            go_wp2
            go_ret2
            exact ⟨ret_ib (by omega) rfl, rfl⟩
end Go.Proofs.YtnfejojakikeeaaGreatDoor
