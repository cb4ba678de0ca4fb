/- parse of the reference of layer 6: the int that a word is. Condition: the length. -/
import Derived.Test.YtnfejojakikeeaaGreatDoorQ9
import Derived.Test.YtnfejojakikeeaaGreatDoorTv
namespace Go.Proofs.YtnfejojakikeeaaGreatDoor
open Go.RowKit

/-! ### plain: digits without zeros ahead -/
theorem decFrom_split : ∀ (l : List UInt8) (acc m : Nat) (c : UInt8), Lib.decFrom acc (l ++ [c]) = some m → ∃ m', Lib.decFrom acc l = some m' ∧ 48 ≤ c.toNat ∧ c.toNat ≤ 57 ∧ m = m' * 10 + (c.toNat - 48)
  | [], acc, m, c, h => by
    by_cases hc : 48 ≤ c.toNat ∧ c.toNat ≤ 57
    · simp [Lib.decFrom, Lib.digitVal, hc] at h
      exact ⟨acc, rfl, hc.1, hc.2, h.symm⟩
    · simp [Lib.decFrom, Lib.digitVal, hc] at h
  | x :: l, acc, m, c, h => by
    rw [List.cons_append] at h
    simp only [Lib.decFrom] at h ⊢
    cases hx : Lib.digitVal x with
    | none => rw [hx] at h; cases h
    | some d => rw [hx] at h; exact decFrom_split l _ m c h
theorem dgt_of {c : UInt8} (h0 : 48 ≤ c.toNat) (h1 : c.toNat ≤ 57) : UInt8.ofNat (48 + (c.toNat - 48)) = c := by
  rw [show 48 + (c.toNat - 48) = c.toNat by omega]
  exact UInt8.ofNat_toNat
/-- digits whose first is no zero, or one digit: they are the decimal of their number -/
theorem dec_canon (n : Nat) : ∀ (l : List UInt8) (m : Nat), l.length = n → Lib.decFrom 0 l = some m → l ≠ [] → (∀ r, l = 48 :: r → r = []) → Lib.decDigits m = l ∧ (∀ r, l ≠ 48 :: r → True) ∧ ((∃ a r, l = a :: r ∧ a ≠ 48) → 1 ≤ m) := by
  induction n with
  | zero => intro l m hl _ hn _; exact absurd (List.length_eq_zero_iff.1 hl) hn
  | succ n ih =>
    intro l m hl hd hn hz
    obtain ⟨l', c, rfl⟩ : ∃ l' c, l = l' ++ [c] := ⟨l.dropLast, l.getLast hn, (List.dropLast_concat_getLast hn).symm⟩
    obtain ⟨m', hm', c0, c1, rfl⟩ := decFrom_split l' 0 m c hd
    have hl' : l'.length = n := by simpa using hl
    by_cases h' : l' = []
    · subst h'
      simp only [Lib.decFrom, Option.some.injEq] at hm'
      subst hm'
      refine ⟨?_, fun _ _ => trivial, ?_⟩
      · rw [Lib.decDigits, dif_pos (by omega)]
        simp only [Nat.zero_mul, Nat.zero_add, List.nil_append]
        rw [dgt_of c0 c1]
      · rintro ⟨a, r, h, ha⟩
        simp only [List.nil_append, List.cons.injEq] at h
        obtain ⟨rfl, _⟩ := h
        have : c.toNat ≠ 48 := fun e => ha (UInt8.toNat_inj.1 e)
        omega
    · obtain ⟨a, r, rfl⟩ : ∃ a r, l' = a :: r := by cases l' with
        | nil => exact absurd rfl h'
        | cons a r => exact ⟨a, r, rfl⟩
      have ha : a ≠ 48 := fun e => by
        subst e
        have := hz (r ++ [c]) (by simp)
        simp at this
      obtain ⟨i1, _, i3⟩ := ih (a :: r) m' hl' hm' (by simp) (fun r' e => by
        injection e with e1 _; exact absurd e1 ha)
      have hm1 := i3 ⟨a, r, rfl, ha⟩
      refine ⟨?_, fun _ _ => trivial, fun _ => by omega⟩
      rw [Lib.decDigits, dif_neg (by omega), show (m' * 10 + (c.toNat - 48)) / 10 = m' by omega, show (m' * 10 + (c.toNat - 48)) % 10 = c.toNat - 48 by omega, i1, dgt_of c0 c1]
theorem dec_head (u : Nat) (r : List UInt8) (h : Lib.decDigits u = 48 :: r) : u = 0 ∧ r = [] := by
  have key : ∀ u : Nat, 0 < u → ∀ r, Lib.decDigits u ≠ 48 :: r := by
    intro u
    induction u using Nat.strongRecOn with
    | _ u ih =>
      intro hu r he
      rw [Lib.decDigits] at he
      split at he
      · rename_i h10
        injection he with h1 _
        have := congrArg UInt8.toNat h1
        rw [digit_ofNat u h10] at this
        simp at this; omega
      · rename_i h10
        cases hd : Lib.decDigits (u / 10) with
        | nil => exact absurd hd (by
            intro e
            have := decFrom_decDigits (u / 10)
            rw [e] at this
            simp only [Lib.decFrom, Option.some.injEq] at this
            omega)
        | cons a q =>
          rw [hd, List.cons_append] at he
          injection he with h1 _
          subst h1
          exact ih (u / 10) (by omega) (by omega) q hd
  by_cases hu : u = 0
  · subst hu
    refine ⟨rfl, ?_⟩
    rw [Lib.decDigits, dif_pos (by decide)] at h
    injection h with _ h2
    exact h2.symm
  · exact absurd h (key u (by omega) r)
theorem num_zero {s r : List UInt8} {neg : Bool} (hs : Sgn s (48 :: r) neg) (h : r ≠ [] ∨ neg = true) : numO s = none := by
  cases hn : numO s with
  | none => rfl
  | some n =>
    obtain ⟨u, h1, _, h3⟩ := sgn_of hs hn
    obtain ⟨h4, h5⟩ := dec_head u r h1.symm
    rcases h with h | h
    · exact absurd h5 h
    · rcases h3 with ⟨_, _, h6⟩ | ⟨h6, _⟩
      · omega
      · rw [h] at h6; cases h6
theorem num_nil {s : List UInt8} {neg : Bool} (hs : Sgn s [] neg) : numO s = none := by
  cases hn : numO s with
  | none => rfl
  | some n =>
    obtain ⟨u, h1, _⟩ := sgn_of hs hn
    have := decFrom_decDigits u
    exfalso
    have h2 := congrArg List.length h1
    rw [dec_pfx] at h2
    simp at h2
/-- the value of digits without zeros ahead -/
theorem num_canon {s ds : List UInt8} {neg : Bool} {m : Nat} (hs : Sgn s ds neg) (hm : Lib.decFrom 0 ds = some m) (hn : ds ≠ []) (hz : ∀ r, ds = 48 :: r → r = [] ∧ neg = false) (h1 : m ≤ 9223372036854775808) (h2 : neg = false → m ≤ 9223372036854775807) :
    numO s = some (if neg then -(m : Int) else (m : Int)) ∧ (neg = true → 1 ≤ m) := by
  obtain ⟨c1, _, c3⟩ := dec_canon ds.length ds m rfl hm hn (fun r e => (hz r e).1)
  have hpos : neg = true → 1 ≤ m := fun hneg => by
    cases ds with
    | nil => exact absurd rfl hn
    | cons a r =>
      refine c3 ⟨a, r, rfl, fun e => ?_⟩
      subst e
      have := (hz r rfl).2
      rw [hneg] at this; cases this
  refine ⟨?_, hpos⟩
  rw [num_value hs hm h1 h2, if_pos]
  rcases hs with ⟨rfl, rfl⟩ | ⟨rfl, rfl, _⟩
  · simp only [if_true]
    rw [Lib.itoa_neg m (hpos rfl), c1]
  · simp only [Bool.false_eq_true, if_false]
    rw [Lib.itoa_nonneg, c1]
end Go.Proofs.YtnfejojakikeeaaGreatDoor
