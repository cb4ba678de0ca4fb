/- The pairs of a log match: plain Lean. No condition. -/
import Derived.Test.YtdpfbedcejahjaaDoorLp
namespace Go.Proofs.YtdpfbedcejahjaaDoor
open Go.RowKit

theorem mem_prsI {l : List En} {q : Nat × Nat} : ∀ {xs : List En} {i : Nat}, q ∈ prsI l xs i ↔ ∃ j b, xs[j]? = some b ∧ b.k = 2 ∧ q ∈ prsK b (i + j) l 0
  | [], i => by simp [prsI]
  | x :: r, i => by
    simp only [prsI, List.mem_append, mem_prsI (xs := r)]
    constructor
    · rintro (h | ⟨j, b, h1, h2, h3⟩)
      · split at h
        · rename_i hx; exact ⟨0, x, rfl, hx, h⟩
        · cases h
      · exact ⟨j + 1, b, by simpa using h1, h2, by rw [show i + (j + 1) = i + 1 + j by omega]; exact h3⟩
    · rintro ⟨j, b, h1, h2, h3⟩
      cases j with
      | zero =>
        have : x = b := by simpa using h1
        subst this
        exact .inl (by rw [if_pos h2]; exact h3)
      | succ j => exact .inr ⟨j, b, by simpa using h1, h2, by rw [show i + 1 + j = i + (j + 1) by omega]; exact h3⟩
theorem mem_prs {l : List En} {q : Nat × Nat} : q ∈ prs l ↔ ∃ a b, l[q.1]? = some a ∧ l[q.2]? = some b ∧ b.k = 2 ∧ sndB a b = true := by
  unfold prs
  rw [mem_prsI]
  constructor
  · rintro ⟨j, b, h1, h2, h3⟩
    obtain ⟨i, a, h4, h5, rfl⟩ := mem_prsK.1 h3
    exact ⟨a, b, by simpa using h4, by simpa using h1, h2, h5⟩
  · rintro ⟨a, b, h1, h2, h3, h4⟩
    exact ⟨q.2, b, h2, h3, mem_prsK.2 ⟨q.1, a, h1, h4, by simp⟩⟩
theorem prsI_sorted {l : List En} (hu : Uniq l) : ∀ (xs : List En) (i : Nat), (prsI l xs i).Pairwise (fun p q => p.2 < q.2)
  | [], i => by simp [prsI]
  | b :: r, i => by
    simp only [prsI]
    rw [List.pairwise_append]
    refine ⟨?_, prsI_sorted hu r (i + 1), ?_⟩
    · split
      · rw [← prsP_eq hu]; unfold prsP; split <;> simp
      · simp
    · intro p hp q hq
      have h1 : p.2 = i := by
        split at hp
        · obtain ⟨_, _, _, _, rfl⟩ := mem_prsK.1 hp; rfl
        · cases hp
      obtain ⟨j, _, _, _, h4⟩ := mem_prsI.1 hq
      obtain ⟨_, _, _, _, rfl⟩ := mem_prsK.1 h4
      simp only; omega
/-- which entries are in pairs -/
def usedL (n : Nat) (ps : List (Nat × Nat)) : List Bool := (List.range n).map fun j => ps.any fun p => decide (p.1 = j) || decide (p.2 = j)
theorem usedL_len (n : Nat) (ps : List (Nat × Nat)) : (usedL n ps).length = n := by simp [usedL]
theorem usedL_nil (n : Nat) : usedL n [] = List.replicate n false := by
  apply List.ext_getElem (by simp [usedL])
  intro i h1 h2
  simp [usedL]
theorem usedL_get {n j : Nat} (ps : List (Nat × Nat)) (h : j < n) : (usedL n ps)[j]? = some (ps.any fun p => decide (p.1 = j) || decide (p.2 = j)) := by
  simp [usedL, h]
theorem usedL_snoc (n : Nat) (ps : List (Nat × Nat)) (q : Nat × Nat) : usedL n (ps ++ [q]) = ((usedL n ps).set q.1 true).set q.2 true := by
  apply List.ext_getElem (by simp [usedL])
  intro i h1 h2
  have hi : i < n := by simpa [usedL] using h1
  simp only [List.getElem_set, usedL, List.getElem_map, List.getElem_range, List.any_append, List.any_cons, List.any_nil, Bool.or_false]
  by_cases e2 : q.2 = i
  · simp [e2]
  · by_cases e1 : q.1 = i
    · simp [e1]
    · simp [e1, e2]
/-- the facts of the pair at place `k` -/
theorem pair_facts {l : List En} (hu : Uniq l) {k : Nat} (hk : k < (prs l).length) :
    ∃ a b : En, l[(prs l)[k].1]? = some a ∧ l[(prs l)[k].2]? = some b ∧ a.k = 1 ∧ b.k = 2 ∧ a.n = b.p ∧ a.p = b.n ∧ a.m = b.m ∧
      (usedL l.length ((prs l).take k))[(prs l)[k].1]? = some false ∧ (usedL l.length ((prs l).take k))[(prs l)[k].2]? = some false ∧ (∀ j (hj : j < k), (prs l)[j].2 < (prs l)[k].2) ∧ (prs l)[k].1 ≠ (prs l)[k].2 := by
  obtain ⟨a, b, h1, h2, h3, h4⟩ := mem_prs.1 (List.getElem_mem hk)
  have hs : (prs l).Pairwise (fun p q => p.2 < q.2) := prsI_sorted hu l 0
  have hlt : ∀ j (hj : j < k), (prs l)[j].2 < (prs l)[k].2 := fun j hj => List.pairwise_iff_getElem.1 hs j k (by omega) hk hj
  have h4' := h4
  simp only [sndB, decide_eq_true_eq] at h4'
  obtain ⟨q1, q2, q3, q4⟩ := h4'
  have hna : (prs l)[k].1 < l.length := (List.getElem?_eq_some_iff.1 h1).1
  have hnb : (prs l)[k].2 < l.length := (List.getElem?_eq_some_iff.1 h2).1
  have hab : (prs l)[k].1 ≠ (prs l)[k].2 := fun e => by
    rw [e, h2] at h1; cases h1; omega
  refine ⟨a, b, h1, h2, q1, h3, q2, q3, q4, ?_, ?_, hlt, hab⟩
  · rw [usedL_get _ hna]
    congr 1
    rw [List.any_eq_false]
    intro p hp
    obtain ⟨j, hj, rfl⟩ := List.mem_iff_getElem.1 hp
    have hjk : j < k := by rw [List.length_take] at hj; omega
    rw [List.getElem_take]
    obtain ⟨a', b', g1, g2, g3, g4⟩ := mem_prs.1 (List.getElem_mem (show j < (prs l).length by omega))
    simp only [sndB, decide_eq_true_eq] at g4
    obtain ⟨r1, r2, r3, r4⟩ := g4
    have hjl := hlt j hjk
    simp only [Bool.not_eq_true, Bool.or_eq_false_iff, decide_eq_false_iff_not]
    refine ⟨fun e => ?_, fun e => ?_⟩
    · rw [e, h1] at g1
      cases g1
      refine hu _ _ b' b hjl g2 h2 (.inr h3) (.inr g3) ?_
      simp only [ltOf, Lt.mk.injEq]
      omega
    · rw [e, h1] at g2; cases g2; omega
  · rw [usedL_get _ hnb]
    congr 1
    rw [List.any_eq_false]
    intro p hp
    obtain ⟨j, hj, rfl⟩ := List.mem_iff_getElem.1 hp
    have hjk : j < k := by rw [List.length_take] at hj; omega
    rw [List.getElem_take]
    obtain ⟨a', b', g1, g2, g3, g4⟩ := mem_prs.1 (List.getElem_mem (show j < (prs l).length by omega))
    simp only [sndB, decide_eq_true_eq] at g4
    have hjl := hlt j hjk
    simp only [Bool.not_eq_true, Bool.or_eq_false_iff, decide_eq_false_iff_not]
    refine ⟨fun e => ?_, by omega⟩
    rw [e, h2] at g1; cases g1; omega
/-- a reception that is in no pair has no sending -/
theorem lone_facts {l : List En} {i : Nat} {b : En} (hi : l[i]? = some b) (hb : b.k = 2) (hun : (usedL l.length (prs l))[i]? = some false) : ∀ (j : Nat) (a : En), l[j]? = some a → ¬ (a.k = 1 ∧ a.n = b.p ∧ a.p = b.n ∧ a.m = b.m) := by
  intro j a hj hc
  have hm : (j, i) ∈ prs l := mem_prs.2 ⟨a, b, hj, hi, hb, by simpa [sndB] using hc⟩
  rw [usedL_get _ (List.getElem?_eq_some_iff.1 hi).1] at hun
  have h := Option.some.inj hun
  rw [List.any_eq_false] at h
  have := h (j, i) hm
  simp at this
end Go.Proofs.YtdpfbedcejahjaaDoor
