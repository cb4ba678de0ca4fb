/- Numbers that are read digit by digit: what is no number, and what the number is. Plain Lean, no condition. -/
import Derived.Test.YthmeifdgkodjlaaGreatDoorG2
namespace Go.Proofs.YthmeifdgkodjlaaGreatDoor

theorem decFrom_split : ∀ (l : List UInt8) (acc m : Nat) (c : UInt8), Lib.decFrom acc (l ++ [c]) = some m → ∃ m', Lib.decFrom acc l = some m' ∧ 48 ≤ c.toNat ∧ c.toNat ≤ 57 ∧ m = m' * 10 + (c.toNat - 48)
  | [], acc, m, c, h => by
    by_cases hc : 48 ≤ c.toNat ∧ c.toNat ≤ 57
    · simp [Lib.decFrom, Lib.digitVal, hc] at h
      exact ⟨acc, rfl, hc.1, hc.2, h.symm⟩
    · simp [Lib.decFrom, Lib.digitVal, hc] at h
  | x :: l, acc, m, c, h => by
    rw [List.cons_append] at h
    simp only [Lib.decFrom] at h ⊢
    cases hx : Lib.digitVal x with
    | none => rw [hx] at h; cases h
    | some d => rw [hx] at h; exact decFrom_split l _ m c h
theorem dgt_of {c : UInt8} (h0 : 48 ≤ c.toNat) (h1 : c.toNat ≤ 57) : UInt8.ofNat (48 + (c.toNat - 48)) = c := by
  rw [show 48 + (c.toNat - 48) = c.toNat by omega]
  exact UInt8.ofNat_toNat
/-- digits whose first is no zero, or one digit: they are the decimal of their number -/
theorem dec_canon (n : Nat) : ∀ (l : List UInt8) (m : Nat), l.length = n → Lib.decFrom 0 l = some m → l ≠ [] → (∀ r, l = 48 :: r → r = []) → Lib.decDigits m = l ∧ (∀ r, l ≠ 48 :: r → True) ∧ ((∃ a r, l = a :: r ∧ a ≠ 48) → 1 ≤ m) := by
  induction n with
  | zero => intro l m hl _ hn _; exact absurd (List.length_eq_zero_iff.1 hl) hn
  | succ n ih =>
    intro l m hl hd hn hz
    obtain ⟨l', c, rfl⟩ : ∃ l' c, l = l' ++ [c] := ⟨l.dropLast, l.getLast hn, (List.dropLast_concat_getLast hn).symm⟩
    obtain ⟨m', hm', c0, c1, rfl⟩ := decFrom_split l' 0 m c hd
    have hl' : l'.length = n := by simpa using hl
    by_cases h' : l' = []
    · subst h'
      simp only [Lib.decFrom, Option.some.injEq] at hm'
      subst hm'
      refine ⟨?_, fun _ _ => trivial, ?_⟩
      · rw [Lib.decDigits, dif_pos (by omega)]
        simp only [Nat.zero_mul, Nat.zero_add, List.nil_append]
        rw [dgt_of c0 c1]
      · rintro ⟨a, r, h, ha⟩
        simp only [List.nil_append, List.cons.injEq] at h
        obtain ⟨rfl, _⟩ := h
        have : c.toNat ≠ 48 := fun e => ha (UInt8.toNat_inj.1 e)
        omega
    · obtain ⟨a, r, rfl⟩ : ∃ a r, l' = a :: r := by cases l' with
        | nil => exact absurd rfl h'
        | cons a r => exact ⟨a, r, rfl⟩
      have ha : a ≠ 48 := fun e => by
        subst e
        have := hz (r ++ [c]) (by simp)
        simp at this
      obtain ⟨i1, _, i3⟩ := ih (a :: r) m' hl' hm' (by simp) (fun r' e => by
        injection e with e1 _; exact absurd e1 ha)
      have hm1 := i3 ⟨a, r, rfl, ha⟩
      refine ⟨?_, fun _ _ => trivial, fun _ => by omega⟩
      rw [Lib.decDigits, dif_neg (by omega), show (m' * 10 + (c.toNat - 48)) / 10 = m' by omega, show (m' * 10 + (c.toNat - 48)) % 10 = c.toNat - 48 by omega, i1, dgt_of c0 c1]
theorem dec_head (u : Nat) (r : List UInt8) (h : Lib.decDigits u = 48 :: r) : u = 0 ∧ r = [] := by
  have key : ∀ u : Nat, 0 < u → ∀ r, Lib.decDigits u ≠ 48 :: r := by
    intro u
    induction u using Nat.strongRecOn with
    | _ u ih =>
      intro hu r he
      rw [Lib.decDigits] at he
      split at he
      · rename_i h10
        injection he with h1 _
        have := congrArg UInt8.toNat h1
        rw [digit_ofNat u h10] at this
        simp at this; omega
      · rename_i h10
        cases hd : Lib.decDigits (u / 10) with
        | nil => exact absurd hd (by
            intro e
            have := decFrom_decDigits (u / 10)
            rw [e] at this
            simp only [Lib.decFrom, Option.some.injEq] at this
            omega)
        | cons a q =>
          rw [hd, List.cons_append] at he
          injection he with h1 _
          subst h1
          exact ih (u / 10) (by omega) (by omega) q hd
  by_cases hu : u = 0
  · subst hu
    refine ⟨rfl, ?_⟩
    rw [Lib.decDigits, dif_pos (by decide)] at h
    injection h with _ h2
    exact h2.symm
  · exact absurd h (key u (by omega) r)

theorem natU_of {l : List UInt8} {u : Nat} (h : natO l = some u) : l = Lib.decDigits u ∧ u ≤ 18446744073709551615 := by
  unfold natO at h
  split at h
  · rename_i m hm
    split at h
    · rename_i hc
      injection h with h
      subst h
      exact ⟨hc.2.symm, hc.1⟩
    · cases h
  · cases h
theorem natD {u : Nat} (h : u ≤ 18446744073709551615) : natO (Lib.decDigits u) = some u := by
  unfold natO
  rw [decFrom_decDigits]
  simp [h]
theorem nat_nil : natO [] = none := by
  cases h : natO [] with
  | none => rfl
  | some u => exact absurd (natU_of h).1.symm (dec_ne u)
theorem nat_long {l : List UInt8} (h : 20 < l.length) : natO l = none := by
  cases hn : natO l with
  | none => rfl
  | some u =>
    obtain ⟨h1, h2⟩ := natU_of hn
    have := dec_len_le 20 u (by decide) (by omega)
    rw [← h1] at this
    omega
theorem nat_zero {r : List UInt8} (h : r ≠ []) : natO (48 :: r) = none := by
  cases hn : natO (48 :: r) with
  | none => rfl
  | some u => exact absurd (dec_head u r (natU_of hn).1.symm).2 h
theorem nat_byte {l : List UInt8} {b : UInt8} (hb : b ∈ l) (h : ¬ (48 ≤ b.toNat ∧ b.toNat ≤ 57)) : natO l = none := by
  cases hn : natO l with
  | none => rfl
  | some u =>
    obtain ⟨h1, _⟩ := natU_of hn
    subst h1
    exact absurd (dec_bytes u b hb) h
theorem decFrom_mono : ∀ {l : List UInt8} {acc m : Nat}, Lib.decFrom acc l = some m → acc ≤ m
  | [], acc, m, h => by simp only [Lib.decFrom, Option.some.injEq] at h; omega
  | x :: l, acc, m, h => by
    simp only [Lib.decFrom] at h
    cases hx : Lib.digitVal x with
    | none => rw [hx] at h; cases h
    | some d => rw [hx] at h; have := decFrom_mono h; omega
theorem decFrom_app : ∀ (a r : List UInt8) (acc : Nat), Lib.decFrom acc (a ++ r) = match Lib.decFrom acc a with
    | some m => Lib.decFrom m r
    | none => none
  | [], r, acc => rfl
  | x :: a, r, acc => by
    rw [List.cons_append]
    simp only [Lib.decFrom]
    cases hx : Lib.digitVal x with
    | none => rfl
    | some d => exact decFrom_app a r _
theorem nat_big {a r : List UInt8} {m : Nat} (h : Lib.decFrom 0 a = some m) (hm : 18446744073709551615 < m) : natO (a ++ r) = none := by
  unfold natO
  rw [decFrom_app, h]
  dsimp only
  cases hr : Lib.decFrom m r with
  | none => rfl
  | some M =>
    have := decFrom_mono hr
    dsimp only
    rw [if_neg (by omega)]
theorem nat_val {l : List UInt8} {m : Nat} (h : Lib.decFrom 0 l = some m) (hm : m ≤ 18446744073709551615) (hn : l ≠ []) (hz : ∀ r, l = 48 :: r → r = []) : natO l = some m := by
  have := (dec_canon l.length l m rfl h hn hz).1
  unfold natO
  rw [h]
  dsimp only
  rw [if_pos ⟨hm, this⟩]
theorem int_neg (ds : List UInt8) : numO (45 :: ds) = match natO ds with
    | some u => if 1 ≤ u ∧ u ≤ 9223372036854775808 then some (-(u : Int)) else none
    | none => none := by
  cases hn : natO ds with
  | none =>
    dsimp only
    cases hi : numO (45 :: ds) with
    | none => rfl
    | some n =>
      obtain ⟨u, _, h1, h2, h3⟩ := ds_of_neg hi
      rw [h3, natD (by omega)] at hn
      cases hn
  | some u =>
    dsimp only
    obtain ⟨h1, h2⟩ := natU_of hn
    subst h1
    by_cases hu : 1 ≤ u ∧ u ≤ 9223372036854775808
    · rw [if_pos hu]
      have := numO_itoa (n := -(u : Int)) ⟨by omega, by omega⟩
      rwa [Lib.itoa_neg u (by omega)] at this
    · rw [if_neg hu]
      cases hi : numO (45 :: Lib.decDigits u) with
      | none => rfl
      | some n =>
        obtain ⟨v, _, h1, h3, h4⟩ := ds_of_neg hi
        have e1 := decFrom_decDigits u
        rw [h4, decFrom_decDigits] at e1
        injection e1 with e1
        omega
theorem int_pos {l : List UInt8} (hh : ∀ r, l ≠ 45 :: r) : numO l = match natO l with
    | some u => if u ≤ 9223372036854775807 then some (u : Int) else none
    | none => none := by
  cases hn : natO l with
  | none =>
    dsimp only
    cases hi : numO l with
    | none => rfl
    | some n =>
      obtain ⟨u, _, h1, h3⟩ := ds_of_pos hh hi
      rw [h3, natD (by omega)] at hn
      cases hn
  | some u =>
    dsimp only
    obtain ⟨h1, h2⟩ := natU_of hn
    subst h1
    by_cases hu : u ≤ 9223372036854775807
    · rw [if_pos hu]
      have := numO_itoa (n := (u : Int)) ⟨by omega, by omega⟩
      rwa [Lib.itoa_nonneg u] at this
    · rw [if_neg hu]
      cases hi : numO (Lib.decDigits u) with
      | none => rfl
      | some n =>
        obtain ⟨v, _, h1, h4⟩ := ds_of_pos hh hi
        have e1 := decFrom_decDigits u
        rw [h4, decFrom_decDigits] at e1
        injection e1 with e1
        omega
end Go.Proofs.YthmeifdgkodjlaaGreatDoor
