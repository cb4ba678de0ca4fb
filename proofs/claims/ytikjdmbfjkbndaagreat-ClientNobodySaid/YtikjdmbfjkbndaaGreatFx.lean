/- What the functions of package fixed compute, those that ptime reaches. No condition. -/
import Derived.Test.YtikjdmbfjkbndaaGreatBase
import Derived.Test.YtikjdmbfjkbndaaGreatShelf
import Derived.IntWalk
namespace Go.Proofs.YtikjdmbfjkbndaaGreat
open Go.RowKit

/-- is it an int? -/
def inI (n : Int) : Bool := decide (-9223372036854775808 ≤ n ∧ n ≤ 9223372036854775807)
/-- the number, or 0 if it is no int -/
def orZ (n : Int) : Int := if inI n then n else 0
theorem i64_of_wf {n : Int} (h : (Lit.int .i64 n).wf = true) : -9223372036854775808 ≤ n ∧ n ≤ 9223372036854775807 := by
  simp only [Lit.wf, IntKind.min, IntKind.max, IntKind.signed, IntKind.bits, Bool.and_eq_true, decide_eq_true_eq, if_true] at h
  omega
theorem ret_int {k : IntKind} {a b : Int} (h : a = b) : Ending.returned (.int k a) = .returned (.int k b) := by rw [h]
theorem ret_ib {k : IntKind} {a b : Int} {x y : Bool} (h : a = b) (h2 : x = y) : Ending.returned (.tuple #[.int k a, .bool x]) = .returned (.tuple #[.int k b, .bool y]) := by rw [h, h2]

theorem fsize (n : Int) (w : World) (h0 : -9223372036854775808 ≤ n) (h1 : n ≤ 9223372036854775807) :
    Calls Tryz.prog 234 #[.int .i64 n] w fun e w' => e = .returned (.int .u64 (n.natAbs : Int)) ∧ w = w' := by
  by_cases h : n < 0
  · go_enter Tryz.func234, Tryz.ntmps234
    go_wp2
    go_ret
    refine ⟨ret_int ?_, rfl⟩
    simp only [IntKind.wrap_u64]
    omega
  · go_enter Tryz.func234, Tryz.ntmps234
    go_wp2
    go_ret
    refine ⟨ret_int ?_, rfl⟩
    try simp only [IntKind.wrap_u64]
    omega

theorem inI_yes {n : Int} (h0 : -9223372036854775808 ≤ n) (h1 : n ≤ 9223372036854775807) : inI n = true := by simp [inI, h0, h1]
theorem inI_no {n : Int} (h : n < -9223372036854775808 ∨ 9223372036854775807 < n) : inI n = false := by
  simp only [inI, decide_eq_false_iff_not]; omega
theorem orZ_yes {n : Int} (h0 : -9223372036854775808 ≤ n) (h1 : n ≤ 9223372036854775807) : orZ n = n := by simp [orZ, inI_yes h0 h1]
theorem orZ_no {n : Int} (h : n < -9223372036854775808 ∨ 9223372036854775807 < n) : orZ n = 0 := by simp [orZ, inI_no h]
/-- the number with this absolute value and sign -/
def sgn (neg : Bool) (m : Nat) : Int := if neg then -(m : Int) else m

theorem sgn_pos (m : Nat) : sgn false m = m := rfl
theorem sgn_neg (m : Nat) : sgn true m = -(m : Int) := rfl

theorem fsigned (m : Nat) (neg : Bool) (w : World) (h1 : m ≤ 18446744073709551615) :
    Calls Tryz.prog 236 #[.int .u64 m, .bool neg] w fun e w' => e = .returned (.tuple #[.int .i64 (orZ (sgn neg m)), .bool (inI (sgn neg m))]) ∧ w = w' := by
  cases neg
  · rw [sgn_pos]
    by_cases h : m ≤ 9223372036854775807
    · rw [orZ_yes (by omega) (by omega), inI_yes (by omega) (by omega)]
      go_enter Tryz.func236, Tryz.ntmps236
      go_wp2
      go_ret2
      exact ⟨rfl, rfl⟩
    · rw [orZ_no (by omega), inI_no (by omega)]
      go_enter Tryz.func236, Tryz.ntmps236
      go_wp2
      go_ret2
      exact ⟨rfl, rfl⟩
  · rw [sgn_neg]
    by_cases h : m ≤ 9223372036854775808
    · rw [orZ_yes (by omega) (by omega), inI_yes (by omega) (by omega)]
      go_enter Tryz.func236, Tryz.ntmps236
      go_wp2
      go_ret2
      refine ⟨ret_ib ?_ rfl, rfl⟩
      simp only [IntKind.wrap_u64, wrap64]; omega
    · rw [orZ_no (by omega), inI_no (by omega)]
      go_enter Tryz.func236, Tryz.ntmps236
      go_wp2
      go_ret2
      exact ⟨rfl, rfl⟩

theorem wrap64_cases (a b : Int) (a0 : -9223372036854775808 ≤ a) (a1 : a ≤ 9223372036854775807) (b0 : -9223372036854775808 ≤ b) (b1 : b ≤ 9223372036854775807) :
    wrap64 (a + b) = (if a + b < -9223372036854775808 then a + b + 18446744073709551616 else if 9223372036854775807 < a + b then a + b - 18446744073709551616 else a + b) := by
  unfold wrap64; split
  · omega
  · split <;> omega

theorem fadd (a b : Int) (w : World) (a0 : -9223372036854775808 ≤ a) (a1 : a ≤ 9223372036854775807) (b0 : -9223372036854775808 ≤ b) (b1 : b ≤ 9223372036854775807) :
    Calls Tryz.prog 279 #[.int .i64 a, .int .i64 b] w fun e w' => e = .returned (.tuple #[.int .i64 (orZ (a + b)), .bool (inI (a + b))]) ∧ w = w' := by
  by_cases hlo : a + b < -9223372036854775808
  · rw [orZ_no (by omega), inI_no (by omega)]
    have d1 : decide (a < 0) = true := by simp; omega
    have d2 : decide (b < 0) = true := by simp; omega
    have d3 : decide (wrap64 (a + b) < 0) = false := by rw [wrap64_cases a b a0 a1 b0 b1]; simp [hlo]; omega
    clear hlo
    go_enter Tryz.func279, Tryz.ntmps279
    go_wp2
    go_ret2
    exact ⟨rfl, rfl⟩
  · by_cases hhi : 9223372036854775807 < a + b
    · rw [orZ_no (by omega), inI_no (by omega)]
      have d1 : decide (a < 0) = false := by simp; omega
      have d2 : decide (b < 0) = false := by simp; omega
      have d3 : decide (wrap64 (a + b) < 0) = true := by rw [wrap64_cases a b a0 a1 b0 b1]; simp [hlo, hhi]; omega
      clear hlo hhi
      go_enter Tryz.func279, Tryz.ntmps279
      go_wp2
      go_ret2
      exact ⟨rfl, rfl⟩
    · rw [orZ_yes (by omega) (by omega), inI_yes (by omega) (by omega)]
      have hl1 : -9223372036854775808 ≤ a + b := by omega
      have hl2 : a + b ≤ 9223372036854775807 := by omega
      by_cases h1 : a < 0 <;> by_cases h2 : b < 0 <;> by_cases h3 : a + b < 0
      all_goals first | (exfalso; omega) | skip
      all_goals
        have d1 : decide (a < 0) = decide (a < 0) := rfl
        clear d1
        go_enter Tryz.func279, Tryz.ntmps279
        go_wp2
        go_ret2
        exact ⟨rfl, rfl⟩

/-- the product of two words, in two words -/
theorem mul64 (x y : Nat) (hx : x < 18446744073709551616) (hy : y < 18446744073709551616) (w : World) :
    Calls Tryz.prog 233 #[.int .u64 x, .int .u64 y] w fun e w' => ∃ hi lo : Nat, e = .returned (.tuple #[.int .u64 hi, .int .u64 lo]) ∧ w = w' ∧ Hid (x * y = hi * 18446744073709551616 + lo) ∧ lo ≤ 18446744073709551615 := by
  refine (Tryz.bits_Mul64 x y hx hy w).mono ?_
  rintro e w' ⟨rfl, rfl⟩
  exact ⟨_, _, rfl, rfl, Lib.hid (by omega), by omega⟩

theorem mul_of_sgn {a b : Int} {lo : Nat} (h : a.natAbs * b.natAbs = lo) : a * b = sgn (!(decide (a < 0) == decide (b < 0))) lo := by
  have h' : (a.natAbs : Int) * (b.natAbs : Int) = (lo : Int) := by rw [← h]; simp
  by_cases h1 : a < 0 <;> by_cases h2 : b < 0 <;> simp only [h1, h2, decide_true, decide_false, beq_self_eq_true, Bool.not_true, sgn, Bool.false_eq_true, if_false]
  · rw [show (a.natAbs : Int) = -a by omega, show (b.natAbs : Int) = -b by omega, Int.neg_mul_neg] at h'; exact h'
  · rw [show (a.natAbs : Int) = -a by omega, show (b.natAbs : Int) = b by omega, Int.neg_mul] at h'; simp; omega
  · rw [show (a.natAbs : Int) = a by omega, show (b.natAbs : Int) = -b by omega, Int.mul_neg] at h'; simp; omega
  · rw [show (a.natAbs : Int) = a by omega, show (b.natAbs : Int) = b by omega] at h'; exact h'
theorem mul_far {a b : Int} {hi lo : Nat} (h : a.natAbs * b.natAbs = hi * 18446744073709551616 + lo) (h0 : 0 < hi) : a * b < -9223372036854775808 ∨ 9223372036854775807 < a * b := by
  have := mul_of_sgn h
  rw [this]
  unfold sgn
  split <;> omega

set_option maxHeartbeats 400000 in
theorem fmul (a b : Int) (w : World) (a0 : -9223372036854775808 ≤ a) (a1 : a ≤ 9223372036854775807) (b0 : -9223372036854775808 ≤ b) (b1 : b ≤ 9223372036854775807) :
    Calls Tryz.prog 278 #[.int .i64 a, .int .i64 b] w fun e w' => e = .returned (.tuple #[.int .i64 (orZ (a * b)), .bool (inI (a * b))]) ∧ w = w' := by
  have hx : a.natAbs ≤ 9223372036854775808 := by omega
  have hy : b.natAbs ≤ 9223372036854775808 := by omega
  obtain ⟨p, hp⟩ : ∃ p, p = a * b := ⟨_, rfl⟩
  rw [← hp]
  have HP := Lib.hid hp; clear hp
  go_enter Tryz.func278, Tryz.ntmps278
  go_wp2_with fail
  refine (fsize a w a0 a1).mono ?_
  rintro e w' ⟨rfl, rfl⟩
  go_wp2_with fail
  refine (fsize b w b0 b1).mono ?_
  rintro e w' ⟨rfl, rfl⟩
  go_wp2_with fail
  refine (mul64 a.natAbs b.natAbs (by omega) (by omega) w).mono ?_
  rintro e w' ⟨hi, lo, rfl, rfl, HM, hlo⟩
  by_cases hh : 0 < hi
  · have hf := mul_far HM.out hh
    rw [← HP.out] at hf
    have hq : ((hi : Int) == 0) = false := by simp; omega
    have hq' : ((hi : Int) != 0) = true := by simp; omega
    have HF := Lib.hid hf; clear hf
    go_wp2_with fail
    go_ret2
    exact ⟨ret_ib (orZ_no HF.out).symm (inI_no HF.out).symm, rfl⟩
  · obtain rfl : hi = 0 := by omega
    have hs := mul_of_sgn (a := a) (b := b) (lo := lo) (by have := HM.out; omega)
    rw [← HP.out] at hs
    have HS := Lib.hid hs; clear hs
    go_wp2_with fail
    refine (fsigned lo _ w hlo).mono ?_
    rintro e w' ⟨rfl, rfl⟩
    go_wp2_with fail
    go_ret2
    exact ⟨ret_ib (by rw [HS.out]) (by rw [HS.out]), rfl⟩

theorem Calls.drawn {P : Program} {f : FuncId} {args : Array Value} {w : World} {v : Value} (h : Calls P f args w fun e w' => e = .returned v ∧ w = w') : Calls P f args w fun e w' => e = .returned v ∧ ∃ n, w' = w.drewN n :=
  h.mono fun _ _ ⟨he, hw⟩ => ⟨he, 0, by rw [← hw, World.drewN_zero]⟩

set_option maxHeartbeats 400000 in
theorem fdivide (a b : Int) (w : World) (a0 : -9223372036854775808 ≤ a) (a1 : a ≤ 9223372036854775807) (b0 : 0 < b) (b1 : b ≤ 9223372036854775807) :
    Calls Tryz.prog 223 #[.int .i64 a, .int .i64 b] w fun e w' => e = .returned (.tuple #[.int .i64 (a.tdiv b), .int .i64 (a.tmod b), .bool true]) ∧ ∃ n, w' = w.drewN n := by
  have hb0 : (b == 0) = false := by simp; omega
  have hb1 : (b == -1) = false := by simp; omega
  have hb2 : ¬ b = 0 := by omega
  have hb3 : ¬ b = -1 := by omega
  by_cases ha : a = -9223372036854775808
  · have ha1 : (a == -9223372036854775808) = true := by simp [ha]
    clear ha
    go_enter Tryz.func223, Tryz.ntmps223
    go_wp2_with fail
    go_quiet (fail)
    go_wp2
    go_ret3
    exact ⟨rfl, _, rfl⟩
  · have ha1 : (a == -9223372036854775808) = false := by simp [ha]
    go_enter Tryz.func223, Tryz.ntmps223
    go_wp2_with fail
    go_quiet (fail)
    go_wp2
    go_ret3
    exact ⟨rfl, _, rfl⟩
theorem ret_iib {k k' : IntKind} {a b c d : Int} {x y : Bool} (h : a = b) (h2 : c = d) (h3 : x = y) : Ending.returned (.tuple #[.int k a, .int k' c, .bool x]) = .returned (.tuple #[.int k b, .int k' d, .bool y]) := by rw [h, h2, h3]

theorem ediv_bd (a b : Int) (a0 : -9223372036854775808 ≤ a) (a1 : a ≤ 9223372036854775807) (b0 : 0 < b) : -9223372036854775808 ≤ a / b ∧ a / b ≤ 9223372036854775807 ∧ (a < 0 → a / b < 0) := by
  refine ⟨(Int.le_ediv_iff_mul_le b0).2 (by omega), ?_, fun h => ?_⟩
  · have : a / b < 9223372036854775808 := (Int.ediv_lt_iff_lt_mul b0).2 (by omega)
    omega
  · exact (Int.ediv_lt_iff_lt_mul b0).2 (by omega)
theorem floor_of_tdiv (a b : Int) (b0 : 0 < b) : a.tdiv b = (if a.tmod b < 0 then a / b + 1 else a / b) ∧ (a.tmod b < 0 → a < 0) := by
  have h1 := Int.tmod_add_mul_tdiv a b
  have h5 : a.tmod b < b := Int.tmod_lt_of_pos a b0
  have h6 : -b < a.tmod b := by have := Int.lt_tmod_of_pos a b0; omega
  have h7 : a.tmod b < 0 → a < 0 := fun h => by
    rcases Int.lt_or_le a 0 with h' | h'
    · exact h'
    · have := Int.tmod_nonneg b h'; omega
  refine ⟨?_, h7⟩
  clear h7
  generalize a.tdiv b = q at h1 ⊢
  generalize a.tmod b = r at h1 h5 h6 ⊢
  split
  · have : a / b = q - 1 := by
      have e1 : a = (r + b) + b * (q - 1) := by rw [Int.mul_sub, Int.mul_one]; omega
      rw [e1, Int.add_mul_ediv_left _ _ (Int.ne_of_gt b0), Int.ediv_eq_zero_of_lt (by omega) (by omega)]; omega
    omega
  · have : a / b = q := by
      rw [← h1, Int.add_mul_ediv_left _ _ (Int.ne_of_gt b0), Int.ediv_eq_zero_of_lt (by omega) (by omega)]; omega
    omega

set_option maxHeartbeats 400000 in
theorem ffloor (a b : Int) (w : World) (a0 : -9223372036854775808 ≤ a) (a1 : a ≤ 9223372036854775807) (b0 : 0 < b) (b1 : b ≤ 9223372036854775807) :
    Calls Tryz.prog 146 #[.int .i64 a, .int .i64 b] w fun e w' => e = .returned (.tuple #[.int .i64 (a / b), .bool true]) ∧ ∃ n, w' = w.drewN n := by
  obtain ⟨hfl, hneg⟩ := floor_of_tdiv a b b0
  obtain ⟨e0, e1, e2⟩ := ediv_bd a b a0 a1 b0
  have hb := fdivide a b w a0 a1 b0 b1
  generalize a.tdiv b = q at hfl hb
  generalize a.tmod b = r at hfl hneg hb
  generalize a / b = f at hfl e0 e1 e2 ⊢
  have HB := Lib.hid hb
  clear hb
  have hb2 : decide (b < 0) = false := by simp; omega
  by_cases hr0 : r < 0
  · have hr1 : (r == 0) = false := by simp; omega
    have hr2 : (r != 0) = true := by simp; omega
    have hr3 : decide (r < 0) = true := by simp [hr0]
    rw [if_pos hr0] at hfl
    subst hfl
    have ha := e2 (hneg hr0)
    clear hr0 hneg e2
    go_enter Tryz.func146, Tryz.ntmps146
    go_wp2_with fail
    refine HB.out.mono ?_
    rintro e w' ⟨rfl, n, rfl⟩
    go_wp2_with fail
    go_ret2
    exact ⟨ret_ib (by omega) rfl, _, rfl⟩
  · rw [if_neg hr0] at hfl
    subst hfl
    have hr3 : decide (r < 0) = false := by simpa using hr0
    clear hr0 hneg e2
    by_cases hz : r = 0
    · subst hz
      go_enter Tryz.func146, Tryz.ntmps146
      go_wp2_with fail
      refine HB.out.mono ?_
      rintro e w' ⟨rfl, n, rfl⟩
      go_wp2_with fail
      go_ret2
      exact ⟨rfl, _, rfl⟩
    · have hr1 : (r == 0) = false := by simp [hz]
      have hr2 : (r != 0) = true := by simp [hz]
      go_enter Tryz.func146, Tryz.ntmps146
      go_wp2_with fail
      refine HB.out.mono ?_
      rintro e w' ⟨rfl, n, rfl⟩
      go_wp2_with fail
      go_ret2
      exact ⟨rfl, _, rfl⟩
end Go.Proofs.YtikjdmbfjkbndaaGreat
