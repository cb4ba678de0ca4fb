/- Numbers in words: sign, digits, value. Plain Lean, no condition. -/
import Derived.Test.YthmeifdgkodjlaaDoorTw
import Derived.Lib.Atoi
namespace Go.Proofs.YthmeifdgkodjlaaDoor
open Go

theorem decFrom_snoc : ∀ (l : List UInt8) (acc m : Nat) (c : UInt8), Lib.decFrom acc l = some m → 48 ≤ c.toNat ∧ c.toNat ≤ 57 → Lib.decFrom acc (l ++ [c]) = some (m * 10 + (c.toNat - 48))
  | [], acc, m, c, h, hc => by
    simp only [Lib.decFrom, Option.some.injEq] at h
    subst h
    simp [Lib.decFrom, Lib.digitVal, hc]
  | x :: l, acc, m, c, h, hc => by
    rw [List.cons_append]
    simp only [Lib.decFrom] at h ⊢
    cases hx : Lib.digitVal x with
    | none => rw [hx] at h; cases h
    | some d => rw [hx] at h; exact decFrom_snoc l _ m c h hc
theorem decFrom_decDigits (u : Nat) : Lib.decFrom 0 (Lib.decDigits u) = some u := by
  induction u using Nat.strongRecOn with
  | _ u ih =>
    unfold Lib.decDigits
    split
    · rename_i h10
      have e := digit_ofNat u h10
      have := decFrom_snoc [] 0 0 (UInt8.ofNat (48 + u)) rfl (by omega)
      rw [List.nil_append] at this
      rw [this]; congr 1; omega
    · rename_i h10
      have e := digit_ofNat (u % 10) (by omega)
      rw [decFrom_snoc _ 0 (u / 10) _ (ih (u / 10) (by omega)) (by omega)]
      congr 1; omega
theorem dec_len_le : ∀ (k u : Nat), 1 ≤ k → u < 10 ^ k → (Lib.decDigits u).length ≤ k
  | 0, u, h, _ => by omega
  | k + 1, u, _, h => by
    unfold Lib.decDigits
    split
    · simp
    · rename_i h10
      rw [List.length_append]
      by_cases hk : k = 0
      · subst hk; simp at h; omega
      · have := dec_len_le k (u / 10) (by omega) (by rw [Nat.pow_succ] at h; omega)
        simp; omega
theorem ds_of_neg {ds : List UInt8} {n : Int} (h : numO (45 :: ds) = some n) : ∃ u : Nat, n = -(u : Int) ∧ 1 ≤ u ∧ u ≤ 9223372036854775808 ∧ ds = Lib.decDigits u := by
  obtain ⟨⟨h1, h2⟩, h3⟩ := numO_some h
  unfold Lib.itoa at h3
  split at h3
  · rename_i hn
    exact ⟨n.natAbs, by omega, by omega, by omega, by simpa using h3.symm⟩
  · exfalso
    have hb := dec_bytes n.toNat 45 (by rw [h3]; simp)
    simp at hb
theorem ds_of_pos {ds : List UInt8} {n : Int} (hh : ∀ r, ds ≠ 45 :: r) (h : numO ds = some n) : ∃ u : Nat, n = (u : Int) ∧ u ≤ 9223372036854775807 ∧ ds = Lib.decDigits u := by
  obtain ⟨⟨h1, h2⟩, h3⟩ := numO_some h
  unfold Lib.itoa at h3
  split at h3
  · exact absurd h3.symm (hh _)
  · rename_i hn
    exact ⟨n.toNat, by omega, by omega, h3.symm⟩
/-- sign and digits -/
def Sgn (s ds : List UInt8) (neg : Bool) : Prop := (neg = true ∧ s = 45 :: ds) ∨ (neg = false ∧ s = ds ∧ ∀ r, ds ≠ 45 :: r)
theorem sgn_of {s ds : List UInt8} {neg : Bool} {n : Int} (hs : Sgn s ds neg) (h : numO s = some n) : ∃ u : Nat, ds = Lib.decDigits u ∧ u ≤ 9223372036854775808 ∧ ((neg = true ∧ n = -(u : Int) ∧ 1 ≤ u) ∨ (neg = false ∧ n = (u : Int) ∧ u ≤ 9223372036854775807)) := by
  rcases hs with ⟨hn, rfl⟩ | ⟨hn, rfl, hr⟩
  · obtain ⟨u, h1, h2, h3, h4⟩ := ds_of_neg h
    exact ⟨u, h4, h3, .inl ⟨hn, h1, h2⟩⟩
  · obtain ⟨u, h1, h2, h3⟩ := ds_of_pos hr h
    exact ⟨u, h3, by omega, .inr ⟨hn, h1, h2⟩⟩
theorem num_long {s ds : List UInt8} {neg : Bool} (hs : Sgn s ds neg) (h : 19 < ds.length) : numO s = none := by
  cases hn : numO s with
  | none => rfl
  | some n =>
    obtain ⟨u, h1, h2, _⟩ := sgn_of hs hn
    have := dec_len_le 19 u (by decide) (by have : (10 : Nat) ^ 19 = 10000000000000000000 := by decide
                                            omega)
    rw [h1] at h; omega
theorem num_byte {s ds : List UInt8} {neg : Bool} {b : UInt8} (hs : Sgn s ds neg) (hb : b ∈ ds) (h : ¬ (48 ≤ b.toNat ∧ b.toNat ≤ 57)) : numO s = none := by
  cases hn : numO s with
  | none => rfl
  | some n =>
    obtain ⟨u, h1, _⟩ := sgn_of hs hn
    rw [h1] at hb
    exact absurd (dec_bytes u b hb) h
theorem num_range {s ds : List UInt8} {neg : Bool} {m : Nat} (hs : Sgn s ds neg) (hm : Lib.decFrom 0 ds = some m) (h : 9223372036854775808 < m ∨ (m = 9223372036854775808 ∧ neg = false)) : numO s = none := by
  cases hn : numO s with
  | none => rfl
  | some n =>
    obtain ⟨u, h1, h2, h3⟩ := sgn_of hs hn
    rw [h1, decFrom_decDigits] at hm
    cases hm
    rcases h with h | ⟨h, h'⟩
    · omega
    · rcases h3 with ⟨q, _⟩ | ⟨q, _, h4⟩
      · rw [h'] at q; cases q
      · omega
theorem num_value {s ds : List UInt8} {neg : Bool} {m : Nat} (hs : Sgn s ds neg) (hm : Lib.decFrom 0 ds = some m) (h1 : m ≤ 9223372036854775808) (h2 : neg = false → m ≤ 9223372036854775807) :
    numO s = if Lib.itoa (if neg then -(m : Int) else (m : Int)) = s then some (if neg then -(m : Int) else (m : Int)) else none := by
  cases hn : numO s with
  | none =>
    rw [if_neg]
    intro he
    have : numO s = some (if neg then -(m : Int) else (m : Int)) := by
      conv => lhs; rw [← he]
      apply numO_itoa
      cases neg
      · have := h2 rfl; simp [i64]; omega
      · simp [i64]; omega
    rw [hn] at this; cases this
  | some n =>
    obtain ⟨u, h3, h4, h5⟩ := sgn_of hs hn
    rw [h3, decFrom_decDigits] at hm
    cases hm
    have hi := (numO_some hn).2
    rcases h5 with ⟨rfl, rfl, _⟩ | ⟨rfl, rfl, _⟩
    · simp only [if_true]; rw [if_pos hi]
    · simp only [Bool.false_eq_true, if_false]; rw [if_pos hi]
theorem decFrom_lt10 {l : List UInt8} {m : Nat} (h : Lib.decFrom 0 l = some m) (hl : l.length ≤ 19) : m < 10000000000000000000 := by
  have := Lib.decFrom_lt _ _ _ h
  have h2 : 10 ^ l.length ≤ 10 ^ 19 := Nat.pow_le_pow_right (by omega) hl
  simp only [Nat.zero_add, Nat.one_mul] at this
  have h3 : (10 : Nat) ^ 19 = 10000000000000000000 := by decide
  omega
end Go.Proofs.YthmeifdgkodjlaaDoor
