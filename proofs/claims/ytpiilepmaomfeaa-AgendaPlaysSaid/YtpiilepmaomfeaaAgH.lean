/- Plain lemmas: the order of a heap, sifting up and down. No condition. -/
import Derived.Test.YtpiilepmaomfeaaAgM
namespace Go.Proofs.Ytpiilepmaomfeaa
open Go.RowKit

/-- `x` comes before `y` -/
def bef (x y : Ev) : Bool := if x.t != y.t then decide (x.t < y.t) else decide (x.i < y.i)
/-- `x` does not come before `y` -/
def ge (x y : Ev) : Prop := y.t < x.t ∨ (y.t = x.t ∧ y.i ≤ x.i)

theorem bef_false {x y : Ev} : bef x y = false ↔ ge x y := by
  unfold bef ge
  by_cases h : x.t = y.t
  · simp [h]
  · have : (x.t != y.t) = true := by simpa using h
    rw [if_pos this]; simp; omega
theorem bef_true {x y : Ev} : bef x y = true ↔ ¬ ge x y := by
  rw [← bef_false]; simp

/-- the element at a place -/
def el (l : List Ev) (i : Nat) : Ev := l.getD i ⟨0, 0, 0⟩
theorem el_some {l : List Ev} {i : Nat} (h : i < l.length) : l[i]? = some (el l i) := by simp [el, h]
theorem el_of {l : List Ev} {i : Nat} {e : Ev} (h : l[i]? = some e) : el l i = e := by simp [el, h]
theorem el_sw (l : List Ev) (i j k : Nat) (hi : i < l.length) (hj : j < l.length) : el (sw l i j) k = if k = j then el l i else if k = i then el l j else el l k := by
  unfold el
  rw [List.getD_eq_getElem?_getD, sw_get l i j k hi hj]
  split
  · simp
  · split <;> simp

def Heap (n : Nat) (f : Nat → Ev) : Prop := ∀ j, 0 < j → j < n → ge (f j) (f ((j - 1) / 2))
def UpInv (n : Nat) (f : Nat → Ev) (k : Nat) : Prop :=
  (∀ j, 0 < j → j < n → j ≠ k → ge (f j) (f ((j - 1) / 2))) ∧ (∀ j, 0 < j → j < n → (j - 1) / 2 = k → 0 < k → ge (f j) (f ((k - 1) / 2)))
def DownInv (n : Nat) (f : Nat → Ev) (k i : Nat) : Prop :=
  (∀ j, 0 < j → j < n → (j - 1) / 2 ≠ k → j ≠ i → ge (f j) (f ((j - 1) / 2))) ∧
  (∀ j, 0 < j → j < n → (j - 1) / 2 = k → 0 < k → ge (f j) (f ((k - 1) / 2))) ∧
  (k ≠ i → 0 < i → ge (f i) (f ((i - 1) / 2))) ∧ i ≤ k

theorem ge_trans {x y z : Ev} (h1 : ge x y) (h2 : ge y z) : ge x z := by unfold ge at *; omega
theorem ge_of_not {x y : Ev} (h : ¬ ge x y) : ge y x := by unfold ge at *; omega
theorem ge_refl (x : Ev) : ge x x := by unfold ge; omega

theorem up_done {n : Nat} {f : Nat → Ev} {k : Nat} (h : UpInv n f k) (hk : k = 0 ∨ ge (f k) (f ((k - 1) / 2))) : Heap n f := by
  intro j h1 h2
  by_cases hj : j = k
  · subst hj
    rcases hk with h' | h'
    · omega
    · exact h'
  · exact h.1 j h1 h2 hj

theorem up_step {n : Nat} {f f' : Nat → Ev} {k p : Nat} (h : UpInv n f k) (h0 : 0 < k) (hk : k < n) (hp : p = (k - 1) / 2) (hb : ¬ ge (f k) (f p))
    (hf : ∀ j, f' j = if j = p then f k else if j = k then f p else f j) : UpInv n f' p := by
  have hpk : p < k := by omega
  constructor
  · intro j h1 h2 h3
    rw [hf j, if_neg h3, hf ((j - 1) / 2)]
    by_cases hjk : j = k
    · subst hjk
      rw [if_pos rfl, if_pos hp.symm]
      exact ge_of_not hb
    · rw [if_neg hjk]
      have hj := h.1 j h1 h2 hjk
      by_cases h4 : (j - 1) / 2 = p
      · rw [if_pos h4]
        rw [h4] at hj
        exact ge_trans hj (ge_of_not hb)
      · rw [if_neg h4]
        by_cases h5 : (j - 1) / 2 = k
        · rw [if_pos h5]
          have := h.2 j h1 h2 h5 h0
          rw [← hp] at this
          exact this
        · rw [if_neg h5]; exact hj
  · intro j h1 h2 h3 h4
    rw [hf ((p - 1) / 2), if_neg (by omega), if_neg (by omega), hf j, if_neg (by omega)]
    have hpp := h.1 p h4 (by omega) (by omega)
    by_cases hjk : j = k
    · rw [if_pos hjk]; exact hpp
    · rw [if_neg hjk]
      have hj := h.1 j h1 h2 hjk
      rw [h3] at hj
      exact ge_trans hj hpp

theorem down_done {n : Nat} {f : Nat → Ev} {k i : Nat} (h : DownInv n f k i) (hc : ∀ j, 0 < j → j < n → (j - 1) / 2 = k → ge (f j) (f k)) : UpInv n f i := by
  obtain ⟨ha, hb, he, hik⟩ := h
  constructor
  · intro j h1 h2 h3
    by_cases h4 : (j - 1) / 2 = k
    · rw [h4]; exact hc j h1 h2 h4
    · exact ha j h1 h2 h4 h3
  · intro j h1 h2 h3 h4
    by_cases h5 : k = i
    · subst h5; exact hb j h1 h2 h3 h4
    · have := ha j h1 h2 (by omega) (by omega)
      rw [h3] at this
      exact ge_trans this (he h5 h4)

theorem down_step {n : Nat} {f f' : Nat → Ev} {k i c : Nat} (h : DownInv n f k i) (h0 : 0 < c) (hcn : c < n) (hp : (c - 1) / 2 = k) (hb : ¬ ge (f c) (f k))
    (hc : ∀ j, 0 < j → j < n → (j - 1) / 2 = k → ge (f j) (f c))
    (hf : ∀ j, f' j = if j = c then f k else if j = k then f c else f j) : DownInv n f' c i := by
  obtain ⟨ha, hbb, he, hik⟩ := h
  have hkc : k < c := by omega
  refine ⟨?_, ?_, ?_, by omega⟩
  · intro j h1 h2 h3 h4
    rw [hf ((j - 1) / 2), if_neg h3, hf j]
    by_cases h5 : j = c
    · subst h5
      rw [if_pos rfl, if_pos hp]
      exact ge_of_not hb
    · rw [if_neg h5]
      by_cases h6 : j = k
      · subst h6
        rw [if_pos rfl, if_neg (by omega)]
        exact hbb c h0 hcn hp h1
      · rw [if_neg h6]
        by_cases h7 : (j - 1) / 2 = k
        · rw [if_pos h7]; exact hc j h1 h2 h7
        · rw [if_neg h7]; exact ha j h1 h2 h7 h4
  · intro j h1 h2 h3 _
    rw [hp, hf k, if_neg (by omega), if_pos rfl, hf j, if_neg (by omega), if_neg (by omega)]
    have := ha j h1 h2 (by omega) (by omega)
    rw [h3] at this
    exact this
  · intro h1 h2
    rw [hf ((i - 1) / 2), if_neg (by omega), if_neg (by omega), hf i, if_neg (by omega)]
    by_cases h3 : i = k
    · subst h3
      rw [if_pos rfl]
      exact hbb c h0 hcn hp h2
    · rw [if_neg h3]; exact he (by omega) h2

/-- the first of a heap -/
theorem heap_min {n : Nat} {f : Nat → Ev} (h : Heap n f) : ∀ j, j < n → ge (f j) (f 0) := by
  intro j
  induction j using Nat.strongRecOn with
  | _ j ih =>
    intro hj
    by_cases h0 : j = 0
    · subst h0; exact ge_refl _
    · exact ge_trans (h j (by omega) hj) (ih ((j - 1) / 2) (by omega) (by omega))

/-- a heap whose element at `i` is replaced -/
theorem heap_replace {n : Nat} {f f' : Nat → Ev} {i : Nat} (h : Heap n f) (hi : i < n) (hf : ∀ j, j < n → j ≠ i → f' j = f j) : DownInv n f' i i := by
  refine ⟨?_, ?_, fun h => absurd rfl h, Nat.le_refl _⟩
  · intro j h1 h2 h3 h4
    rw [hf j h2 h4, hf _ (by omega) h3]; exact h j h1 h2
  · intro j h1 h2 h3 h4
    rw [hf j h2 (by omega), hf _ (by omega) (by omega)]
    have := h j h1 h2
    rw [h3] at this
    exact ge_trans this (h i h4 hi)

theorem heap_mono {n m : Nat} {f : Nat → Ev} (h : Heap n f) (hm : m ≤ n) : Heap m f := fun j h1 h2 => h j h1 (by omega)

/-- a heap with one element more at its end -/
theorem heap_push {n : Nat} {f f' : Nat → Ev} (h : Heap n f) (hf : ∀ j, j < n → f' j = f j) : UpInv (n + 1) f' n := by
  constructor
  · intro j h1 h2 h3
    rw [hf j (by omega), hf _ (by omega)]; exact h j h1 (by omega)
  · intro j h1 h2 h3 h4; omega
end Go.Proofs.Ytpiilepmaomfeaa
