/- The sort's contracts in the words of rows of the call's own: numbers and candidates. Conditions: the lengths. -/
import Derived.Test.YtikjdmbfjkbndaaGreatMb
import Derived.Test.YtikjdmbfjkbndaaGreatSortF
namespace Go.Proofs.YtikjdmbfjkbndaaGreat
open Go.RowKit Go.Sort

section
variable {α : Type} [Inhabited α]
theorem putCells_take (f : α → Value) (d : Array α) (cur : Array Value) (h : d.size ≤ cur.size) : (putCells f 0 d cur).toList.take d.size = d.toList.map f := by
  apply List.ext_getElem?
  intro j
  by_cases hj : j < d.size
  · rw [List.getElem?_take_of_lt hj]
    have hc : j < cur.size := by omega
    simp [putCells, hj, hc]
  · rw [List.getElem?_eq_none (by simp; omega), List.getElem?_eq_none (by simp; omega)]
theorem putCells_size (f : α → Value) (o : Nat) (d : Array α) (cur : Array Value) : (putCells f o d cur).size = cur.size := by simp [putCells]
/-- the world behind the sort -/
theorem sorted_heap {f : α → Value} {w : World} {g n o : Nat} {cur : Array Value} {e : TypeId} {z : Nat × Nat} {d : Array α} {os : Array Obj} (h : w.heap[g]? = some (.cells cur e z)) :
    (grow (putRow f (Sort.ahead w n) g o d) os).heap[g]? = some (.cells (putCells f o d cur) e z) := by
  have hlt := got_lt h
  show ((w.heap.modify g (onCells (putCells f o d))) ++ os)[g]? = _
  rw [Array.getElem?_append_left (by simpa using hlt), Array.getElem?_modify, if_pos rfl, h]
  rfl
theorem sorted_only {f : α → Value} {w : World} {g n o : Nat} {d : Array α} {os : Array Obj} : Only [g] w (grow (putRow f (Sort.ahead w n) g o d) os) := by
  refine ⟨rfl, rfl, rfl, ?_, fun k hk hn => ?_⟩
  · show w.heap.size ≤ ((w.heap.modify g (onCells (putCells f o d))) ++ os).size
    simp
  · show ((w.heap.modify g (onCells (putCells f o d))) ++ os)[k]? = _
    rw [Array.getElem?_append_left (by simpa using hk), Array.getElem?_modify, if_neg (fun e => hn (by simp [e]))]
end
def intC (z : Int) : List Value := [.int .i64 z]
theorem intC_len (z : Int) : (intC z).length = 1 := rfl
theorem intC_one (z : Int) : ∀ u ∈ intC z, u.oneCell' = true := fun u hu => by simp [intC] at hu; subst hu; rfl
theorem flat_intC (l : List Int) : l.flatMap intC = l.map (Value.int .i64) := by
  induction l with
  | nil => rfl
  | cons x r ih => rw [List.flatMap_cons, ih]; rfl
/-- slices.Sort of the call's own numbers -/
theorem sort_own {w : World} {B : Nat} {v : Value} {l : List Int} (h : Own intC 3 1 B w v l) (hl : l.length ≤ 1000000) :
    Calls Tryz.prog 228 #[v] w fun e w' => e = .returned (.tuple #[]) ∧ Own intC 3 1 B w' v (l.mergeSort fun x y => decide (x ≤ y)) ∧ Only v.ownBlock.toList w w' := by
  rcases h with ⟨rfl, rfl⟩ | ⟨g, cap, rfl, hB, cur, hg, h1, h2, h3, h4⟩
  · refine (Tryz.slices_Sort_int_none none 0 w).mono ?_
    rintro e w' ⟨rfl, rfl⟩
    exact ⟨rfl, by rw [List.mergeSort_nil]; exact own_nil _ _, Only.refl _ _⟩
  · rw [Nat.mul_one] at h1 h4
    have hold : Holds (Value.int .i64) w g 0 l.toArray := by
      intro j hj
      rw [Nat.zero_add]
      refine ⟨?_, frozen_got hg j⟩
      have hj' : j < l.length := by simpa using hj
      rw [cell_got hg, ← Array.getElem?_toList, ← List.getElem?_take_of_lt hj', h4, flat_intC]
      simp [hj']
    refine (Tryz.slices_Sort_int g 0 cap l w hold (got_lt hg) (by omega)).mono ?_
    rintro e w' ⟨rfl, n, os, rfl⟩
    refine ⟨rfl, .inr ⟨g, cap, by simp, hB, _, sorted_heap hg, by rw [putCells_size]; omega, by simpa using h2, h3, ?_⟩, sorted_only⟩
    have := putCells_take (Value.int .i64) (l.mergeSort fun x y => decide (x ≤ y)).toArray cur (by simp; omega)
    rw [Nat.mul_one, flat_intC]
    simpa using this
/-- an element's cells, flat -/
theorem flatK_list {α : Type} [Inhabited α] (enc : α → List Value) (k : Nat) (hk : ∀ x, (enc x).length = k) (l : List α) : (flatK enc k l.toArray).toList = l.flatMap enc := by
  apply List.ext_getElem?
  intro t
  by_cases ht : t < l.length * k
  · have k0 : 0 < k := by
      rcases Nat.eq_zero_or_pos k with h | h
      · subst h; simp at ht
      · exact h
    have h1 : t / k < l.length := (Nat.div_lt_iff_lt_mul k0).2 ht
    have h2 : t % k < k := Nat.mod_lt _ k0
    have hf := flat_get enc k hk l (t / k) (t % k) l[t / k] (List.getElem?_eq_getElem h1) h2
    rw [show t / k * k + t % k = t by rw [Nat.mul_comm]; exact Nat.div_add_mod t k] at hf
    rw [hf]
    have h3 : t % k < (enc l[t / k]).length := by rw [hk]; exact h2
    simp [flatK, ht, h1, h3]
  · rw [List.getElem?_eq_none (by simp; omega), List.getElem?_eq_none (by rw [flat_length enc k hk]; omega)]
end Go.Proofs.YtikjdmbfjkbndaaGreat
