/- Plain lemmas on words: a bit shifted in, division bit by bit. No condition. -/
import Derived.Test.YtikjdmbfjkbndaaGreatFx
import Derived.Laws.Bits64b
namespace Go.Proofs.YtikjdmbfjkbndaaGreat
open Go.RowKit

theorem or_low {a b : Nat} (i : Nat) (ha : a < 18446744073709551616) (hb : b < 18446744073709551616) (x : Nat) (hx : a = 2 ^ i * x) (hlt : b < 2 ^ i) : bits BinOp.or IntKind.u64 (a : Int) (b : Int) = ((a + b : Nat) : Int) := by
  rw [bits_or_u64_nat a b ha hb, hx, ← Nat.two_pow_add_eq_or_of_lt hlt x]

/-- a word shifted by one: its top bit, what is left -/
theorem shl1 (x : Nat) (h : x < 18446744073709551616) : ∃ t d : Nat, t ≤ 1 ∧ 2 * x = t * 18446744073709551616 + d ∧ d < 18446744073709551616 ∧ d % 2 = 0 ∧ (x : Int) / 9223372036854775808 = t ∧ IntKind.u64.wrap ((x : Int) * 2) = (d : Int) := by
  refine ⟨x / 9223372036854775808, 2 * (x % 9223372036854775808), by omega, by omega, by omega, by omega, by omega, ?_⟩
  rw [IntKind.wrap_u64]; omega
theorem or_bit {d t : Nat} (hd : d < 18446744073709551616) (h0 : d % 2 = 0) (ht : t ≤ 1) : ∃ s : Nat, s = d + t ∧ bits BinOp.or IntKind.u64 (d : Int) (t : Int) = (s : Int) :=
  ⟨_, rfl, or_low 1 hd (by omega) (d / 2) (by omega) (by omega)⟩

theorem div_step (B N P q c r q' R th Z Y d : Nat) (sum : (q * c + r) * B + Y = N * P) (hq : q' = 2 * q + d) (hR : R + d * c = 2 * r + th) (hZ : th * B + Z = 2 * Y) : (q' * c + R) * B + Z = N * (P * 2) := by
  have e1 : q' * c + R = 2 * (q * c + r) + th := by
    rw [hq, Nat.add_mul, Nat.mul_assoc]
    generalize q * c = X at *
    generalize d * c = V at *
    omega
  rw [e1, Nat.add_mul, Nat.mul_assoc, ← Nat.mul_assoc N P 2, ← sum]
  generalize (q * c + r) * B = U
  generalize th * B = V at *
  omega
theorem two_words' (W dh tl dl th h l : Nat) (eh : 2 * h = th * W + dh) (el : 2 * l = tl * W + dl) : th * (W * W) + ((dh + tl) * W + dl) = 2 * (h * W + l) := by
  rw [← Nat.mul_assoc, Nat.mul_add, ← Nat.mul_assoc, eh, el, Nat.add_mul, Nat.add_mul]
  generalize th * W * W = U
  generalize dh * W = V
  omega
theorem two_words (dh tl dl th h l : Nat) (eh : 2 * h = th * 18446744073709551616 + dh) (el : 2 * l = tl * 18446744073709551616 + dl) : th * 340282366920938463463374607431768211456 + ((dh + tl) * 18446744073709551616 + dl) = 2 * (h * 18446744073709551616 + l) :=
  two_words' 18446744073709551616 dh tl dl th h l eh el

/-- `k` of the bits of `N` have been divided by `c`; those that are left lie in `h`, `l` -/
structure DivInv (N c k h l q1 q0 r : Nat) : Prop where
  sum : ((q1 * 18446744073709551616 + q0) * c + r) * 340282366920938463463374607431768211456 + (h * 18446744073709551616 + l) = N * 2 ^ k
  lt : r < c
  h0 : h < 18446744073709551616
  l0 : l < 18446744073709551616
  q0b : q0 < 18446744073709551616

theorem DivInv.q_lt {N c k h l q1 q0 r : Nat} (i : DivInv N c k h l q1 q0 r) (hN : N < 340282366920938463463374607431768211456) : q1 * 18446744073709551616 + q0 < 2 ^ k := by
  have h1 := i.sum
  have h2 := i.lt
  rcases Nat.lt_or_ge (q1 * 18446744073709551616 + q0) (2 ^ k) with h | h
  · exact h
  · have h3 : 2 ^ k ≤ (q1 * 18446744073709551616 + q0) * c := Nat.le_trans h (Nat.le_mul_of_pos_right _ (by omega))
    have h4 : N * 2 ^ k ≤ 340282366920938463463374607431768211455 * 2 ^ k := Nat.mul_le_mul_right _ (by omega)
    have h5 : 0 < 2 ^ k := Nat.two_pow_pos k
    generalize (q1 * 18446744073709551616 + q0) * c = X at h1 h3
    generalize N * 2 ^ k = Y at h1 h4
    omega
theorem DivInv.q1b {N c k h l q1 q0 r : Nat} (i : DivInv N c k h l q1 q0 r) (hN : N < 340282366920938463463374607431768211456) (hk : k < 128) : q1 < 9223372036854775808 := by
  have h1 := i.q_lt hN
  have h2 : 2 ^ k ≤ 2 ^ 127 := Nat.pow_le_pow_right (by omega) (by omega)
  have h3 : (2 : Nat) ^ 127 = 170141183460469231731687303715884105728 := by decide
  omega

theorem DivInv.take {N c k h l q1 q0 r dh th dl tl dq1 dq0 tq dr tr : Nat} (i : DivInv N c k h l q1 q0 r)
    (eh : 2 * h = th * 18446744073709551616 + dh) (el : 2 * l = tl * 18446744073709551616 + dl) (eq1 : 2 * q1 = dq1) (eq0 : 2 * q0 = tq * 18446744073709551616 + dq0) (er : 2 * r = tr * 18446744073709551616 + dr)
    (bh : dh < 18446744073709551616) (ph : dh % 2 = 0) (pq : dq0 % 2 = 0) (bl : dl < 18446744073709551616) (bq : dq0 < 18446744073709551616) (t1 : th ≤ 1) (t2 : tl ≤ 1) (R : Nat) (hR : R + c = tr * 18446744073709551616 + (dr + th)) :
    DivInv N c (k + 1) (dh + tl) (dl) (dq1 + tq) (dq0 + 1) R := by
  have h2 := i.lt
  refine ⟨?_, by omega, by omega, by omega, by omega⟩
  exact div_step _ _ _ _ _ _ _ _ th _ _ 1 i.sum (by omega) (by omega) (two_words dh tl dl th h l eh el)

theorem DivInv.skip {N c k h l q1 q0 r dh th dl tl dq1 dq0 tq dr : Nat} (i : DivInv N c k h l q1 q0 r)
    (eh : 2 * h = th * 18446744073709551616 + dh) (el : 2 * l = tl * 18446744073709551616 + dl) (eq1 : 2 * q1 = dq1) (eq0 : 2 * q0 = tq * 18446744073709551616 + dq0) (er : 2 * r = dr)
    (bh : dh < 18446744073709551616) (ph : dh % 2 = 0) (bl : dl < 18446744073709551616) (bq : dq0 < 18446744073709551616) (t2 : tl ≤ 1) (hR : dr + th < c) :
    DivInv N c (k + 1) (dh + tl) (dl) (dq1 + tq) (dq0) (dr + th) := by
  refine ⟨?_, by omega, by omega, by omega, by omega⟩
  exact div_step _ _ _ _ _ _ _ _ th _ _ 0 i.sum (by omega) (by omega) (two_words dh tl dl th h l eh el)

theorem DivInv.start (hi lo c : Nat) (hc : 0 < c) (h1 : hi < 18446744073709551616) (h2 : lo < 18446744073709551616) : DivInv (hi * 18446744073709551616 + lo) c 0 hi lo 0 0 0 :=
  ⟨by simp, hc, h1, h2, by omega⟩
theorem DivInv.done {N c h l q1 q0 r : Nat} (i : DivInv N c 128 h l q1 q0 r) : (q1 * 18446744073709551616 + q0) * c + r = N ∧ r < c := by
  have h1 := i.sum
  have h2 := i.h0
  have h3 := i.l0
  have h4 : (2 : Nat) ^ 128 = 340282366920938463463374607431768211456 := by decide
  rw [h4] at h1
  refine ⟨?_, i.lt⟩
  generalize (q1 * 18446744073709551616 + q0) * c = X at h1 ⊢
  omega
end Go.Proofs.YtikjdmbfjkbndaaGreat
