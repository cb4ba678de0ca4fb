/- What the functions of the reference of layer 1 compute, those that chapter 4 reaches. No condition. -/
import Derived.Test.YtmkiojnhjfkepaaDoorFx
namespace Go.Proofs.YtmkiojnhjfkepaaDoor
open Go.RowKit

theorem radd (a b : Int) (w : World) (a0 : -9223372036854775808 ≤ a) (a1 : a ≤ 9223372036854775807) (b0 : -9223372036854775808 ≤ b) (b1 : b ≤ 9223372036854775807) :
    Calls Tryd.prog 34 #[.int .i64 a, .int .i64 b] w fun e w' => e = .returned (.tuple #[.int .i64 (orZ (a + b)), .bool (inI (a + b))]) ∧ w = w' := by
  by_cases hb : 0 < b
  · have hb' : decide (b < 0) = false := by simp; omega
    have hbp : decide (0 < b) = true := by simp [hb]
    by_cases hh : 9223372036854775807 - b < a
    · have hd : decide (9223372036854775807 - b < a) = true := by simp [hh]
      rw [orZ_no (by omega), inI_no (by omega)]
      go_enter Tryd.func34, Tryd.ntmps34
      go_wp2
      go_ret2
      exact ⟨rfl, rfl⟩
    · have hd : decide (9223372036854775807 - b < a) = false := by simp; omega
      have hl1 : -9223372036854775808 ≤ a + b := by omega
      have hl2 : a + b ≤ 9223372036854775807 := by omega
      rw [orZ_yes (by omega) (by omega), inI_yes (by omega) (by omega)]
      go_enter Tryd.func34, Tryd.ntmps34
      go_wp2
      go_ret2
      exact ⟨rfl, rfl⟩
  · have hbp : decide (0 < b) = false := by simp; omega
    by_cases hn : b < 0
    · have hb' : decide (b < 0) = true := by simp; omega
      by_cases hh : a < -9223372036854775808 - b
      · have hd : decide (a < -9223372036854775808 - b) = true := by simp [hh]
        rw [orZ_no (by omega), inI_no (by omega)]
        go_enter Tryd.func34, Tryd.ntmps34
        go_wp2
        go_ret2
        exact ⟨rfl, rfl⟩
      · have hd : decide (a < -9223372036854775808 - b) = false := by simp; omega
        have hl1 : -9223372036854775808 ≤ a + b := by omega
        have hl2 : a + b ≤ 9223372036854775807 := by omega
        rw [orZ_yes (by omega) (by omega), inI_yes (by omega) (by omega)]
        go_enter Tryd.func34, Tryd.ntmps34
        go_wp2
        go_ret2
        exact ⟨rfl, rfl⟩
    · obtain rfl : b = 0 := by omega
      rw [orZ_yes (by omega) (by omega), inI_yes (by omega) (by omega)]
      go_enter Tryd.func34, Tryd.ntmps34
      go_wp2
      go_ret2
      exact ⟨ret_ib (by simp) rfl, rfl⟩

theorem rsize (n : Int) (w : World) (h0 : -9223372036854775808 ≤ n) (h1 : n ≤ 9223372036854775807) :
    Calls Tryd.prog 51 #[.int .i64 n] w fun e w' => e = .returned (.int .u64 (n.natAbs : Int)) ∧ w = w' := by
  by_cases h : n < 0
  · go_enter Tryd.func51, Tryd.ntmps51
    go_wp2
    go_ret
    refine ⟨ret_int ?_, rfl⟩
    omega
  · go_enter Tryd.func51, Tryd.ntmps51
    go_wp2
    go_ret
    refine ⟨ret_int ?_, rfl⟩
    omega

theorem rsigned (m : Nat) (neg : Bool) (hi : Nat) (w : World) (h1 : m ≤ 18446744073709551615) (hh : hi ≤ 18446744073709551615) :
    Calls Tryd.prog 52 #[.bool neg, .int .u64 hi, .int .u64 m] w fun e w' => e = .returned (.tuple #[.int .i64 (orZ (sgn neg (hi * 18446744073709551616 + m))), .bool (inI (sgn neg (hi * 18446744073709551616 + m)))]) ∧ w = w' := by
  by_cases h0 : 0 < hi
  · have hd : decide (0 < hi) = true := by simp [h0]
    have hd' : decide (0 < (hi : Int)) = true := by simp; omega
    have hf : sgn neg (hi * 18446744073709551616 + m) < -9223372036854775808 ∨ 9223372036854775807 < sgn neg (hi * 18446744073709551616 + m) := by
      unfold sgn; split <;> omega
    rw [orZ_no hf, inI_no hf]
    clear hf
    go_enter Tryd.func52, Tryd.ntmps52
    go_wp2
    go_ret2
    exact ⟨rfl, rfl⟩
  · obtain rfl : hi = 0 := by omega
    rw [Nat.zero_mul, Nat.zero_add]
    clear hh h0
    by_cases hbig : 9223372036854775808 < m
    · have hd : decide (9223372036854775808 < (m : Int)) = true := by simp; omega
      have hf : sgn neg m < -9223372036854775808 ∨ 9223372036854775807 < sgn neg m := by
        unfold sgn; split <;> omega
      rw [orZ_no hf, inI_no hf]
      clear hf
      go_enter Tryd.func52, Tryd.ntmps52
      go_wp2
      go_ret2
      exact ⟨rfl, rfl⟩
    · have hd : decide (9223372036854775808 < (m : Int)) = false := by simp; omega
      cases neg
      · rw [sgn_pos]
        by_cases he : m = 9223372036854775808
        · have he' : ((m : Int) == 9223372036854775808) = true := by simp [he]
          rw [orZ_no (by omega), inI_no (by omega)]
          clear he
          go_enter Tryd.func52, Tryd.ntmps52
          go_wp2
          go_ret2
          exact ⟨rfl, rfl⟩
        · have he' : ((m : Int) == 9223372036854775808) = false := by simp; omega
          have hm : m ≤ 9223372036854775807 := by omega
          rw [orZ_yes (by omega) (by omega), inI_yes (by omega) (by omega)]
          go_enter Tryd.func52, Tryd.ntmps52
          go_wp2
          go_ret2
          exact ⟨rfl, rfl⟩
      · rw [sgn_neg]
        rw [orZ_yes (by omega) (by omega), inI_yes (by omega) (by omega)]
        by_cases hz : m = 0
        · subst hz
          go_enter Tryd.func52, Tryd.ntmps52
          go_wp2
          go_ret2
          exact ⟨ret_ib (by simp) rfl, rfl⟩
        · have hz' : ((m : Int) == 0) = false := by simp; omega
          have hm1 : 0 ≤ (m : Int) - 1 := by omega
          by_cases he : m = 9223372036854775808
          · have he' : ((m : Int) == 9223372036854775808) = true := by simp [he]
            clear he
            go_enter Tryd.func52, Tryd.ntmps52
            go_wp2
            go_ret2
            exact ⟨ret_ib (by omega) rfl, rfl⟩
          · have he' : ((m : Int) == 9223372036854775808) = false := by simp; omega
            go_enter Tryd.func52, Tryd.ntmps52
            go_wp2
            go_ret2
            exact ⟨ret_ib (by omega) rfl, rfl⟩
end Go.Proofs.YtmkiojnhjfkepaaDoor
