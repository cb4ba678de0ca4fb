/- Words and numbers for the quotient of two words. Conditions: those named in each theorem. -/
import Derived.Test.YtikjdmbfjkbndaaGreatRb
namespace Go.Proofs.YtikjdmbfjkbndaaGreat
open Go.RowKit
/-- one digit of a long division -/
theorem dg_lo {u d yn1 yn0 Y : Nat} (hY : Y = yn1 * 4294967296 + yn0) (hd : d < 4294967296) (h1 : 0 < yn1) : (u * 4294967296 + d) / Y ≤ u / yn1 := by
  have hY0 : 0 < Y := by omega
  rw [Nat.le_div_iff_mul_le h1]
  have hq := Nat.div_mul_le_self (u * 4294967296 + d) Y
  generalize (u * 4294967296 + d) / Y = q at hq ⊢
  have e : q * Y = (q * yn1) * 4294967296 + q * yn0 := by rw [hY, Nat.mul_add, Nat.mul_assoc]
  have h0 := Nat.zero_le (q * yn0)
  generalize q * yn1 = a at *
  generalize q * yn0 = b at *
  omega
structure Dg (u d yn1 yn0 q r : Nat) : Prop where
  sum : q * yn1 + r = u
  ge : (u * 4294967296 + d) / (yn1 * 4294967296 + yn0) ≤ q
theorem dg_start {u d yn1 yn0 : Nat} (hd : d < 4294967296) (h1 : 0 < yn1) : Dg u d yn1 yn0 (u / yn1) (u % yn1) :=
  ⟨by rw [Nat.mul_comm]; exact Nat.div_add_mod u yn1, dg_lo rfl hd h1⟩
theorem dg_big {u d yn1 yn0 q r : Nat} (h : Dg u d yn1 yn0 q r) (hu : u < yn1 * 4294967296 + yn0) (hd : d < 4294967296) (hq : 4294967296 ≤ q) : Dg u d yn1 yn0 (q - 1) (r + yn1) := by
  obtain ⟨h1, h2⟩ := h
  refine ⟨?_, ?_⟩
  · have : q * yn1 = (q - 1) * yn1 + yn1 := by rw [← Nat.succ_mul]; congr 1; omega
    omega
  · have : (u * 4294967296 + d) / (yn1 * 4294967296 + yn0) < 4294967296 := by
      rw [Nat.div_lt_iff_lt_mul (by omega)]
      have := Nat.mul_le_mul_right 4294967296 (Nat.succ_le_of_lt hu)
      rw [Nat.succ_mul] at this
      rw [Nat.mul_comm 4294967296 (_ + _)]
      omega
    omega
theorem dg_test {u d yn1 yn0 q r : Nat} (h : Dg u d yn1 yn0 q r) : q * (yn1 * 4294967296 + yn0) + 4294967296 * r = u * 4294967296 + q * yn0 := by
  obtain ⟨h1, h2⟩ := h
  rw [Nat.mul_add, ← Nat.mul_assoc, ← h1, Nat.add_mul]
  omega
theorem dg_more {u d yn1 yn0 q r : Nat} (h : Dg u d yn1 yn0 q r) (h0 : 0 < yn1) (hq : 4294967296 * r + d < q * yn0) : Dg u d yn1 yn0 (q - 1) (r + yn1) := by
  have ht := dg_test h
  obtain ⟨h1, h2⟩ := h
  have hq0 : 0 < q := by
    rcases Nat.eq_zero_or_pos q with rfl | h
    · omega
    · exact h
  refine ⟨?_, ?_⟩
  · have : q * yn1 = (q - 1) * yn1 + yn1 := by rw [← Nat.succ_mul]; congr 1; omega
    omega
  · have : (u * 4294967296 + d) / (yn1 * 4294967296 + yn0) < q := by
      rw [Nat.div_lt_iff_lt_mul (by omega)]
      omega
    omega
/-- the digit is found: by the test -/
theorem dg_done {u d yn1 yn0 q r : Nat} (h : Dg u d yn1 yn0 q r) (h0 : 0 < yn1) (hq : q * yn0 ≤ 4294967296 * r + d) : q = (u * 4294967296 + d) / (yn1 * 4294967296 + yn0) := by
  have ht := dg_test h
  refine Nat.le_antisymm ?_ h.ge
  rw [Nat.le_div_iff_mul_le (by omega)]
  omega
/-- the digit is found: the rest is great -/
theorem dg_full {u d yn1 yn0 q r : Nat} (h : Dg u d yn1 yn0 q r) (h0 : 0 < yn1) (hu : u < yn1 * 4294967296 + yn0) (hn0 : yn0 < 4294967296) (hr : 4294967296 ≤ r) : q < 4294967296 ∧ q = (u * 4294967296 + d) / (yn1 * 4294967296 + yn0) := by
  have hq : q < 4294967296 := by
    have h1 := h.sum
    refine Nat.lt_of_not_le fun hge => ?_
    have := Nat.mul_le_mul_right yn1 hge
    omega
  refine ⟨hq, dg_done h h0 ?_⟩
  have h1 : q * yn0 ≤ 4294967295 * 4294967295 := Nat.mul_le_mul (by omega) (by omega)
  omega
theorem dg_first {u yn1 yn0 : Nat} (hu : u < yn1 * 4294967296 + yn0) (hn0 : yn0 < 4294967296) (h1 : 2147483648 ≤ yn1) : u / yn1 ≤ 4294967298 := by
  have : u / yn1 < 4294967299 := by
    rw [Nat.div_lt_iff_lt_mul (by omega)]
    omega
  omega

theorem bitLen_one : Lib.bitLen 1 = 1 := by decide
theorem bitLen_bds (x : Nat) (h0 : x ≠ 0) (h : x < 2 ^ 64) : ∃ k, Lib.bitLen x = k + 1 ∧ 2 ^ k ≤ x ∧ x < 2 ^ (k + 1) := by
  refine ⟨Nat.log2 x, ?_, Nat.log2_self_le h0, Nat.lt_log2_self⟩
  rw [Lib.bitLen_shift (Nat.log2 x) x (Nat.log2_self_le h0) h]
  have h1 : x / 2 ^ Nat.log2 x = 1 := by
    have hp : 0 < 2 ^ Nat.log2 x := Nat.two_pow_pos _
    refine Nat.le_antisymm ?_ ((Nat.le_div_iff_mul_le hp).2 (by rw [Nat.one_mul]; exact Nat.log2_self_le h0))
    have : x / 2 ^ Nat.log2 x < 2 := (Nat.div_lt_iff_lt_mul hp).2 (by have := @Nat.lt_log2_self x; rw [Nat.pow_succ] at this; omega)
    omega
  rw [h1, bitLen_one]
/-- a divisor, moved to the left -/
theorem norm (y : Nat) (h0 : 0 < y) (h : y < 18446744073709551616) : ∃ s : Nat, s < 64 ∧ (64 - (Lib.bitLen y : Int)) = s ∧ 9223372036854775808 ≤ y * 2 ^ s ∧ y * 2 ^ s < 18446744073709551616 := by
  obtain ⟨k, h1, h2, h3⟩ := bitLen_bds y (by omega) (by omega)
  have hk : k < 64 := by
    refine Nat.lt_of_not_le fun hge => ?_
    have := Nat.pow_le_pow_right (n := 2) (by omega) hge
    omega
  refine ⟨63 - k, by omega, by rw [h1]; omega, ?_, ?_⟩
  · have := Nat.mul_le_mul_right (2 ^ (63 - k)) h2
    rw [← Nat.pow_add, show k + (63 - k) = 63 by omega] at this
    exact this
  · have := Nat.mul_lt_mul_of_pos_right h3 (Nat.two_pow_pos (63 - k))
    rw [← Nat.pow_add, show k + 1 + (63 - k) = 64 by omega] at this
    exact this
end Go.Proofs.YtikjdmbfjkbndaaGreat
