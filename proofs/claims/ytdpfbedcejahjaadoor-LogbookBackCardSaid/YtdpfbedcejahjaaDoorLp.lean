/- The pairs of a log, in plain Lean. No condition. -/
import Derived.Test.YtdpfbedcejahjaaDoorLg3
namespace Go.Proofs.YtdpfbedcejahjaaDoor
open Go.RowKit

/-- is `a` the sending of what `b` receives? -/
def sndB (a b : En) : Bool := decide (a.k = 1 ∧ a.n = b.p ∧ a.p = b.n ∧ a.m = b.m)
/-- the sendings of `b` among these entries -/
def prsK (b : En) (i : Nat) : List En → Nat → List (Nat × Nat)
  | [], _ => []
  | a :: r, k => if sndB a b then (k, i) :: prsK b i r (k + 1) else prsK b i r (k + 1)
theorem prsK_snoc (b : En) (i : Nat) (a : En) : ∀ (xs : List En) (k : Nat), prsK b i (xs ++ [a]) k = prsK b i xs k ++ if sndB a b then [(k + xs.length, i)] else []
  | [], k => by
    simp only [List.nil_append, prsK, List.length_nil, Nat.add_zero]
  | x :: xs, k => by
    simp only [List.cons_append, prsK, prsK_snoc b i a xs (k + 1), List.length_cons]
    have : k + 1 + xs.length = k + (xs.length + 1) := by omega
    rw [this]
    split <;> simp
/-- the pairs of the receptions in a list -/
def prsI (l : List En) : List En → Nat → List (Nat × Nat)
  | [], _ => []
  | b :: r, i => (if b.k = 2 then prsK b i l 0 else []) ++ prsI l r (i + 1)
theorem prsI_snoc (l : List En) (b : En) : ∀ (xs : List En) (i : Nat), prsI l (xs ++ [b]) i = prsI l xs i ++ if b.k = 2 then prsK b (i + xs.length) l 0 else []
  | [], i => by simp [prsI]
  | x :: xs, i => by
    simp only [List.cons_append, prsI, prsI_snoc l b xs (i + 1), List.length_cons, List.append_assoc]
    have : i + 1 + xs.length = i + (xs.length + 1) := by omega
    rw [this]
/-- the pairs of a log -/
def prs (l : List En) : List (Nat × Nat) := prsI l l 0
/-- as cells -/
def prC (p : Nat × Nat) : List Value := [.int .i64 p.1, .int .i64 p.2]

/-- the place of the last sending with this letter -/
def sentF : List En → Nat → Lt → Option Nat
  | [], _, _ => none
  | a :: r, j, t => match sentF r (j + 1) t with
    | some x => some x
    | none => if a.k = 1 ∧ ltOf a = t then some j else none
theorem sentF_snoc (a : En) (t : Lt) : ∀ (xs : List En) (j : Nat), sentF (xs ++ [a]) j t = if a.k = 1 ∧ ltOf a = t then some (j + xs.length) else sentF xs j t
  | [], j => by simp [sentF]
  | x :: xs, j => by
    simp only [List.cons_append, sentF, sentF_snoc a t xs (j + 1), List.length_cons]
    have : j + 1 + xs.length = j + (xs.length + 1) := by omega
    rw [this]
    split
    · rename_i v h; rw [← h]; split <;> simp_all
    · split at * <;> simp_all
theorem sentF_some {t : Lt} : ∀ {l : List En} {j s : Nat}, sentF l j t = some s → ∃ k a, l[k]? = some a ∧ s = j + k ∧ a.k = 1 ∧ ltOf a = t
  | [], j, s, h => by simp [sentF] at h
  | a :: r, j, s, h => by
    unfold sentF at h
    split at h
    · rename_i x hx
      cases h
      obtain ⟨k, a', h1, h2, h3, h4⟩ := sentF_some hx
      exact ⟨k + 1, a', by simpa using h1, by omega, h3, h4⟩
    · split at h
      · rename_i hc
        cases h
        exact ⟨0, a, rfl, rfl, hc.1, hc.2⟩
      · cases h
theorem sentF_none {t : Lt} : ∀ {l : List En} {j : Nat}, sentF l j t = none → ∀ a ∈ l, ¬ (a.k = 1 ∧ ltOf a = t)
  | [], j, _, a, ha => by cases ha
  | x :: r, j, h, a, ha => by
    unfold sentF at h
    split at h
    · cases h
    · rename_i hr
      split at h
      · cases h
      · rename_i hc
        rcases List.mem_cons.1 ha with rfl | ha
        · exact hc
        · exact sentF_none hr a ha
/-- no message is sent, or received, twice -/
def Uniq (l : List En) : Prop := ∀ (i j : Nat) (a b : En), i < j → l[i]? = some a → l[j]? = some b → trav b → trav a → ltOf a ≠ ltOf b
theorem ordE_uniq : ∀ (l past : List En), ordE past l = 0 → ∀ i j a b, i < j → past.length ≤ j → (past ++ l)[i]? = some a → (past ++ l)[j]? = some b → trav b → trav a → ltOf a ≠ ltOf b
  | [], past, _, i, j, a, b, hij, hp, _, h2, _, _ => by
    rw [List.append_nil, List.getElem?_eq_none hp] at h2; cases h2
  | e :: l, past, h, i, j, a, b, hij, hp, h1, h2, tb, ta => by
    unfold ordE at h
    split at h
    · cases h
    · rename_i htw
      split at h
      · cases h
      · by_cases hj : j = past.length
        · subst hj
          have hb : e = b := by simpa using h2
          subst hb
          intro hl
          refine htw ?_
          unfold tw
          rw [List.getElem?_append_left (by omega)] at h1
          have ha := List.mem_of_getElem? h1
          simp only [Bool.and_eq_true, decide_eq_true_eq, List.any_eq_true]
          exact ⟨tb, a, ha, ta, hl⟩
        · refine ordE_uniq l (past ++ [e]) h i j a b hij (by simp; omega) ?_ ?_ tb ta
          · simpa using h1
          · simpa using h2
theorem uniq_of_log {l : List En} (h : logE l = 0) : Uniq l := by
  have ho : ordE [] l = 0 := by
    unfold logE at h
    split at h
    · cases h
    · split at h
      · exact h
      · rename_i h1; exact absurd h h1
  intro i j a b hij h1 h2 tb ta
  exact ordE_uniq l [] ho i j a b hij (Nat.zero_le _) (by simpa using h1) (by simpa using h2) tb ta
theorem snd_lt {a b : En} : sndB a b = true ↔ a.k = 1 ∧ ltOf a = ⟨1, b.p, b.n, b.m⟩ := by
  simp only [sndB, decide_eq_true_eq, ltOf, Lt.mk.injEq]
  constructor
  · rintro ⟨h1, h2, h3, h4⟩; exact ⟨h1, h1, h2, h3, h4⟩
  · rintro ⟨h1, _, h2, h3, h4⟩; exact ⟨h1, h2, h3, h4⟩
theorem mem_prsK {b : En} {i : Nat} {q : Nat × Nat} : ∀ {l : List En} {k : Nat}, q ∈ prsK b i l k ↔ ∃ j a, l[j]? = some a ∧ sndB a b = true ∧ q = (k + j, i)
  | [], k => by simp [prsK]
  | x :: r, k => by
    unfold prsK
    constructor
    · intro h
      split at h
      · rename_i hx
        rcases List.mem_cons.1 h with rfl | h
        · exact ⟨0, x, rfl, hx, rfl⟩
        · obtain ⟨j, a, h1, h2, h3⟩ := mem_prsK.1 h
          exact ⟨j + 1, a, by simpa using h1, h2, by rw [h3]; congr 1; omega⟩
      · obtain ⟨j, a, h1, h2, h3⟩ := mem_prsK.1 h
        exact ⟨j + 1, a, by simpa using h1, h2, by rw [h3]; congr 1; omega⟩
    · rintro ⟨j, a, h1, h2, h3⟩
      cases j with
      | zero =>
        have : x = a := by simpa using h1
        subst this
        rw [if_pos h2, h3]; simp
      | succ j =>
        have hm : q ∈ prsK b i r (k + 1) := mem_prsK.2 ⟨j, a, by simpa using h1, h2, by rw [h3]; congr 1; omega⟩
        split
        · simp [hm]
        · exact hm
theorem prsK_none {b : En} {i : Nat} {l : List En} {k : Nat} (h : ∀ a ∈ l, sndB a b = false) : prsK b i l k = [] := by
  apply List.eq_nil_iff_forall_not_mem.2
  intro q hq
  obtain ⟨j, a, h1, h2, _⟩ := mem_prsK.1 hq
  rw [h a (List.mem_of_getElem? h1)] at h2; cases h2
theorem prsK_one {b : En} {i s : Nat} : ∀ {l : List En} {k : Nat} {a : En}, l[s]? = some a → sndB a b = true → (∀ j x, l[j]? = some x → sndB x b = true → j = s) → prsK b i l k = [(k + s, i)] := by
  induction s with
  | zero =>
    intro l k a h1 h2 h3
    cases l with
    | nil => simp at h1
    | cons x r =>
      have : x = a := by simpa using h1
      subst this
      unfold prsK
      rw [if_pos h2, prsK_none]
      · simp
      · intro y hy
        obtain ⟨j, hj⟩ := List.mem_iff_getElem?.1 hy
        cases hb : sndB y b with
        | false => rfl
        | true => have := h3 (j + 1) y (by simpa using hj) hb; omega
  | succ s ih =>
    intro l k a h1 h2 h3
    cases l with
    | nil => simp at h1
    | cons x r =>
      have hx : sndB x b = false := by
        cases hb : sndB x b with
        | false => rfl
        | true => have := h3 0 x rfl hb; omega
      unfold prsK
      rw [hx, if_neg (by simp), ih (l := r) (k := k + 1) (by simpa using h1) h2 (fun j y hj hy => by have := h3 (j + 1) y (by simpa using hj) hy; omega)]
      congr 2; omega
/-- what the look-up in the map of sendings gives -/
def prsP (l : List En) (b : En) (i : Nat) : List (Nat × Nat) := match sentF l 0 ⟨1, b.p, b.n, b.m⟩ with
  | some s => [(s, i)]
  | none => []
theorem prsP_eq {l : List En} (hu : Uniq l) (b : En) (i : Nat) : prsP l b i = prsK b i l 0 := by
  unfold prsP
  cases h : sentF l 0 ⟨1, b.p, b.n, b.m⟩ with
  | none =>
    have := sentF_none h
    rw [prsK_none]
    intro a ha
    cases hb : sndB a b with
    | false => rfl
    | true => exact absurd (snd_lt.1 hb) (this a ha)
  | some s =>
    obtain ⟨k, a, h1, h2, h3, h4⟩ := sentF_some h
    rw [Nat.zero_add] at h2
    subst h2
    have hk : sndB a b = true := snd_lt.2 ⟨h3, h4⟩
    rw [prsK_one h1 hk]
    · simp
    · intro j x hj hx
      obtain ⟨x1, x2⟩ := snd_lt.1 hx
      rcases Nat.lt_trichotomy j s with hlt | heq | hgt
      · exact absurd (x2.trans h4.symm) (hu j s x a hlt hj h1 (.inl h3) (.inl x1))
      · exact heq
      · exact absurd (h4.trans x2.symm) (hu s j a x hgt h1 hj (.inl x1) (.inl h3))
end Go.Proofs.YtdpfbedcejahjaaDoor
