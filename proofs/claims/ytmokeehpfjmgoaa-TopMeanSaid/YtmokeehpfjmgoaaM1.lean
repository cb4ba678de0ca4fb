/- Words and numbers: size, signed, the product and the quotient of two words. Conditions: those named in each theorem. -/
import Derived.Test.YtmokeehpfjmgoaaBase
import Derived.Test.YtmokeehpfjmgoaaShelf
import Derived.IntWalk
import Derived.Laws.Bits64b
namespace Go.Proofs.Ytmokeehpfjmgoaa
open Go.RowKit
/-- is it an int? -/
def inI (n : Int) : Bool := decide (-9223372036854775808 ≤ n ∧ n ≤ 9223372036854775807)
/-- the number, or 0 if it is no int -/
def orZ (n : Int) : Int := if inI n then n else 0
theorem i64_of_wf {n : Int} (h : (Lit.int .i64 n).wf = true) : -9223372036854775808 ≤ n ∧ n ≤ 9223372036854775807 := by
  simp only [Lit.wf, IntKind.min, IntKind.max, IntKind.signed, IntKind.bits, Bool.and_eq_true, decide_eq_true_eq, if_true] at h
  omega
theorem ret_int {k : IntKind} {a b : Int} (h : a = b) : Ending.returned (.int k a) = .returned (.int k b) := by rw [h]
theorem ret_ib {k : IntKind} {a b : Int} {x y : Bool} (h : a = b) (h2 : x = y) : Ending.returned (.tuple #[.int k a, .bool x]) = .returned (.tuple #[.int k b, .bool y]) := by rw [h, h2]

theorem fsize (n : Int) (w : World) (h0 : -9223372036854775808 ≤ n) (h1 : n ≤ 9223372036854775807) :
    Calls Try.prog 43 #[.int .i64 n] w fun e w' => e = .returned (.int .u64 (n.natAbs : Int)) ∧ w = w' := by
  by_cases h : n < 0
  · go_enter Try.func43, Try.ntmps43
    go_wp2
    go_ret
    refine ⟨ret_int ?_, rfl⟩
    simp only [IntKind.wrap_u64]
    omega
  · go_enter Try.func43, Try.ntmps43
    go_wp2
    go_ret
    refine ⟨ret_int ?_, rfl⟩
    try simp only [IntKind.wrap_u64]
    omega

theorem inI_yes {n : Int} (h0 : -9223372036854775808 ≤ n) (h1 : n ≤ 9223372036854775807) : inI n = true := by simp [inI, h0, h1]
theorem inI_no {n : Int} (h : n < -9223372036854775808 ∨ 9223372036854775807 < n) : inI n = false := by
  simp only [inI, decide_eq_false_iff_not]; omega
theorem orZ_yes {n : Int} (h0 : -9223372036854775808 ≤ n) (h1 : n ≤ 9223372036854775807) : orZ n = n := by simp [orZ, inI_yes h0 h1]
theorem orZ_no {n : Int} (h : n < -9223372036854775808 ∨ 9223372036854775807 < n) : orZ n = 0 := by simp [orZ, inI_no h]
/-- the number with this absolute value and sign -/
def sgn (neg : Bool) (m : Nat) : Int := if neg then -(m : Int) else m

theorem sgn_pos (m : Nat) : sgn false m = m := rfl
theorem sgn_neg (m : Nat) : sgn true m = -(m : Int) := rfl

theorem fsigned (m : Nat) (neg : Bool) (w : World) (h1 : m ≤ 18446744073709551615) :
    Calls Try.prog 45 #[.int .u64 m, .bool neg] w fun e w' => e = .returned (.tuple #[.int .i64 (orZ (sgn neg m)), .bool (inI (sgn neg m))]) ∧ w = w' := by
  cases neg
  · rw [sgn_pos]
    by_cases h : m ≤ 9223372036854775807
    · rw [orZ_yes (by omega) (by omega), inI_yes (by omega) (by omega)]
      go_enter Try.func45, Try.ntmps45
      go_wp2
      go_ret2
      exact ⟨rfl, rfl⟩
    · rw [orZ_no (by omega), inI_no (by omega)]
      go_enter Try.func45, Try.ntmps45
      go_wp2
      go_ret2
      exact ⟨rfl, rfl⟩
  · rw [sgn_neg]
    by_cases h : m ≤ 9223372036854775808
    · rw [orZ_yes (by omega) (by omega), inI_yes (by omega) (by omega)]
      go_enter Try.func45, Try.ntmps45
      go_wp2
      go_ret2
      refine ⟨ret_ib ?_ rfl, rfl⟩
      simp only [IntKind.wrap_u64, wrap64]; omega
    · rw [orZ_no (by omega), inI_no (by omega)]
      go_enter Try.func45, Try.ntmps45
      go_wp2
      go_ret2
      exact ⟨rfl, rfl⟩

theorem mul64 (x y : Nat) (hx : x < 18446744073709551616) (hy : y < 18446744073709551616) (w : World) :
    Calls Try.prog 42 #[.int .u64 x, .int .u64 y] w fun e w' => ∃ hi lo : Nat, e = .returned (.tuple #[.int .u64 hi, .int .u64 lo]) ∧ w = w' ∧ Hid (x * y = hi * 18446744073709551616 + lo) ∧ lo ≤ 18446744073709551615 := by
  refine (Try.bits_Mul64 x y hx hy w).mono ?_
  rintro e w' ⟨rfl, rfl⟩
  exact ⟨_, _, rfl, rfl, Lib.hid (by omega), by omega⟩
/-- one digit of a long division -/
theorem dg_lo {u d yn1 yn0 Y : Nat} (hY : Y = yn1 * 4294967296 + yn0) (hd : d < 4294967296) (h1 : 0 < yn1) : (u * 4294967296 + d) / Y ≤ u / yn1 := by
  have hY0 : 0 < Y := by omega
  rw [Nat.le_div_iff_mul_le h1]
  have hq := Nat.div_mul_le_self (u * 4294967296 + d) Y
  generalize (u * 4294967296 + d) / Y = q at hq ⊢
  have e : q * Y = (q * yn1) * 4294967296 + q * yn0 := by rw [hY, Nat.mul_add, Nat.mul_assoc]
  have h0 := Nat.zero_le (q * yn0)
  generalize q * yn1 = a at *
  generalize q * yn0 = b at *
  omega
structure Dg (u d yn1 yn0 q r : Nat) : Prop where
  sum : q * yn1 + r = u
  ge : (u * 4294967296 + d) / (yn1 * 4294967296 + yn0) ≤ q
theorem dg_start {u d yn1 yn0 : Nat} (hd : d < 4294967296) (h1 : 0 < yn1) : Dg u d yn1 yn0 (u / yn1) (u % yn1) :=
  ⟨by rw [Nat.mul_comm]; exact Nat.div_add_mod u yn1, dg_lo rfl hd h1⟩
theorem dg_big {u d yn1 yn0 q r : Nat} (h : Dg u d yn1 yn0 q r) (hu : u < yn1 * 4294967296 + yn0) (hd : d < 4294967296) (hq : 4294967296 ≤ q) : Dg u d yn1 yn0 (q - 1) (r + yn1) := by
  obtain ⟨h1, h2⟩ := h
  refine ⟨?_, ?_⟩
  · have : q * yn1 = (q - 1) * yn1 + yn1 := by rw [← Nat.succ_mul]; congr 1; omega
    omega
  · have : (u * 4294967296 + d) / (yn1 * 4294967296 + yn0) < 4294967296 := by
      rw [Nat.div_lt_iff_lt_mul (by omega)]
      have := Nat.mul_le_mul_right 4294967296 (Nat.succ_le_of_lt hu)
      rw [Nat.succ_mul] at this
      rw [Nat.mul_comm 4294967296 (_ + _)]
      omega
    omega
theorem dg_test {u d yn1 yn0 q r : Nat} (h : Dg u d yn1 yn0 q r) : q * (yn1 * 4294967296 + yn0) + 4294967296 * r = u * 4294967296 + q * yn0 := by
  obtain ⟨h1, h2⟩ := h
  rw [Nat.mul_add, ← Nat.mul_assoc, ← h1, Nat.add_mul]
  omega
theorem dg_more {u d yn1 yn0 q r : Nat} (h : Dg u d yn1 yn0 q r) (h0 : 0 < yn1) (hq : 4294967296 * r + d < q * yn0) : Dg u d yn1 yn0 (q - 1) (r + yn1) := by
  have ht := dg_test h
  obtain ⟨h1, h2⟩ := h
  have hq0 : 0 < q := by
    rcases Nat.eq_zero_or_pos q with rfl | h
    · omega
    · exact h
  refine ⟨?_, ?_⟩
  · have : q * yn1 = (q - 1) * yn1 + yn1 := by rw [← Nat.succ_mul]; congr 1; omega
    omega
  · have : (u * 4294967296 + d) / (yn1 * 4294967296 + yn0) < q := by
      rw [Nat.div_lt_iff_lt_mul (by omega)]
      omega
    omega
/-- the digit is found: by the test -/
theorem dg_done {u d yn1 yn0 q r : Nat} (h : Dg u d yn1 yn0 q r) (h0 : 0 < yn1) (hq : q * yn0 ≤ 4294967296 * r + d) : q = (u * 4294967296 + d) / (yn1 * 4294967296 + yn0) := by
  have ht := dg_test h
  refine Nat.le_antisymm ?_ h.ge
  rw [Nat.le_div_iff_mul_le (by omega)]
  omega
/-- the digit is found: the rest is great -/
theorem dg_full {u d yn1 yn0 q r : Nat} (h : Dg u d yn1 yn0 q r) (h0 : 0 < yn1) (hu : u < yn1 * 4294967296 + yn0) (hn0 : yn0 < 4294967296) (hr : 4294967296 ≤ r) : q < 4294967296 ∧ q = (u * 4294967296 + d) / (yn1 * 4294967296 + yn0) := by
  have hq : q < 4294967296 := by
    have h1 := h.sum
    refine Nat.lt_of_not_le fun hge => ?_
    have := Nat.mul_le_mul_right yn1 hge
    omega
  refine ⟨hq, dg_done h h0 ?_⟩
  have h1 : q * yn0 ≤ 4294967295 * 4294967295 := Nat.mul_le_mul (by omega) (by omega)
  omega
theorem dg_first {u yn1 yn0 : Nat} (hu : u < yn1 * 4294967296 + yn0) (hn0 : yn0 < 4294967296) (h1 : 2147483648 ≤ yn1) : u / yn1 ≤ 4294967298 := by
  have : u / yn1 < 4294967299 := by
    rw [Nat.div_lt_iff_lt_mul (by omega)]
    omega
  omega

theorem word_halves (x : Nat) (h : x < 18446744073709551616) : ∃ a1 a0 : Nat, a1 < 4294967296 ∧ a0 < 4294967296 ∧ x = a1 * 4294967296 + a0 ∧ (x : Int) / 4294967296 = a1 ∧ (x : Int) % 4294967296 = a0 :=
  ⟨x / 4294967296, x % 4294967296, by omega, by omega, by omega, by omega, by omega⟩
theorem or_low {a b : Nat} (i : Nat) (ha : a < 18446744073709551616) (hb : b < 18446744073709551616) (x : Nat) (hx : a = 2 ^ i * x) (hlt : b < 2 ^ i) : bits BinOp.or IntKind.u64 (a : Int) (b : Int) = ((a + b : Nat) : Int) := by
  rw [bits_or_u64_nat a b ha hb, hx, ← Nat.two_pow_add_eq_or_of_lt hlt x]
theorem bitLen_one : Lib.bitLen 1 = 1 := by decide
theorem bitLen_bds (x : Nat) (h0 : x ≠ 0) (h : x < 2 ^ 64) : ∃ k, Lib.bitLen x = k + 1 ∧ 2 ^ k ≤ x ∧ x < 2 ^ (k + 1) := by
  refine ⟨Nat.log2 x, ?_, Nat.log2_self_le h0, Nat.lt_log2_self⟩
  rw [Lib.bitLen_shift (Nat.log2 x) x (Nat.log2_self_le h0) h]
  have h1 : x / 2 ^ Nat.log2 x = 1 := by
    have hp : 0 < 2 ^ Nat.log2 x := Nat.two_pow_pos _
    refine Nat.le_antisymm ?_ ((Nat.le_div_iff_mul_le hp).2 (by rw [Nat.one_mul]; exact Nat.log2_self_le h0))
    have : x / 2 ^ Nat.log2 x < 2 := (Nat.div_lt_iff_lt_mul hp).2 (by have := @Nat.lt_log2_self x; rw [Nat.pow_succ] at this; omega)
    omega
  rw [h1, bitLen_one]
/-- a divisor below 2^34, moved to the left -/
theorem norm (y : Nat) (h0 : 0 < y) (h : y < 17179869184) : ∃ s : Nat, 30 ≤ s ∧ s < 64 ∧ (64 - (Lib.bitLen y : Int)) = s ∧ 9223372036854775808 ≤ y * 2 ^ s ∧ y * 2 ^ s < 18446744073709551616 := by
  obtain ⟨k, h1, h2, h3⟩ := bitLen_bds y (by omega) (by omega)
  have hk : k < 34 := by
    refine Nat.lt_of_not_le fun hge => ?_
    have := Nat.pow_le_pow_right (n := 2) (by omega) hge
    omega
  refine ⟨63 - k, by omega, by omega, by rw [h1]; omega, ?_, ?_⟩
  · have := Nat.mul_le_mul_right (2 ^ (63 - k)) h2
    rw [← Nat.pow_add, show k + (63 - k) = 63 by omega] at this
    exact this
  · have := Nat.mul_lt_mul_of_pos_right h3 (Nat.two_pow_pos (63 - k))
    rw [← Nat.pow_add, show k + 1 + (63 - k) = 64 by omega] at this
    exact this
end Go.Proofs.Ytmokeehpfjmgoaa
