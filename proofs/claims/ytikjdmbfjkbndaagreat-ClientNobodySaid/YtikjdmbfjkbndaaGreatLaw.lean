/- What every law's frame wants: two closed facts of the program; an argument that is a slice, as a list. No condition. -/
import Derived.Test.YtikjdmbfjkbndaaGreatRowsOf
import Derived.ProofKit
import Derived.OpenShut
import Derived.Deep.Slices
import Derived.Deep.Fields
namespace Go.Proofs.YtikjdmbfjkbndaaGreat
open Go.ChangeShapes Go.WideShapes Go.ChangeAt Go.RowKit Go.Deep
theorem law_own : ownKnob Tryz.prog.godebug = none := by kernel_rfl
theorem law_laidOut : laidOutB Tryz.prog = true := by kernel_rfl

/-- a goal at which the walk is to stand -/
def Stop (p : Prop) : Prop := p
theorem stop_here {p : Prop} (h : Stop p) : p := h
theorem stop_go {p : Prop} (h : p) : Stop p := h
theorem addr_add (b o j : Nat) : (⟨b, o, none⟩ : Addr).add j = ⟨b, o + j, none⟩ := by
  unfold Addr.add
  split
  · rename_i h0; simp only [h0, Nat.add_zero]
  · rfl

/-- a store into a row of one-cell elements -/
theorem RowAt.set1 {α : Type} {f : α → Value} {e : TypeId} {w : World} {g cap : Nat} {l : List α} (h : RowAt (fun x => [f x]) e 1 w g cap l) {i : Nat} (hi : i < l.length) (x : α) :
    RowAt (fun x => [f x]) e 1 (w.setCell ⟨g, i, none⟩ (f x)) g cap (l.set i x) := by
  obtain ⟨cur, hg, h1, h2, h3, h4⟩ := h
  have hic : i < cur.size := by omega
  have hrow : RowAt (fun x => [f x]) e 1 w g cap l := ⟨cur, hg, h1, h2, h3, h4⟩
  refine RowAt.set (enc := fun x => [f x]) (s := 1) (fun _ => rfl) hi hrow hg (x := x) ?_
  rw [setCell_got (f x) hg]
  have e1 : cur.setIfInBounds i (f x) = (cur.toList.take (i * 1) ++ [f x] ++ cur.toList.drop (i * 1 + 1)).toArray := by
    apply Array.ext'
    rw [Array.toList_setIfInBounds, List.set_eq_take_append_cons_drop, if_pos (by simpa using hic)]
    simp
  rw [e1]

/-- the slice `⟨p, n, cap⟩` has the elements `l`; each takes the `s` cells that `ec` gives -/
structure VRow {α : Type} (ec : α → List Value) (s : Nat) (w : World) (p : Option Addr) (n cap : Nat) (l : List α) : Prop where
  len : l.length = n
  le : n ≤ cap
  cm : cap ≤ maxLen
  nil : p = none → cap = 0
  cell : ∀ i x, l[i]? = some x → ∃ b off, p = some ⟨b, off, none⟩ ∧ b < w.heap.size ∧ ∀ j v, (ec x)[j]? = some v → w.cell? ⟨b, off + (i * s + j), none⟩ = some v

theorem VRow.kept {α : Type} {ec : α → List Value} {s : Nat} {w w' : World} {p : Option Addr} {n cap : Nat} {l : List α} (h : VRow ec s w p n cap l) (ho : Only [] w w') : VRow ec s w' p n cap l := by
  refine ⟨h.len, h.le, h.cm, h.nil, fun i x hx => ?_⟩
  obtain ⟨b, off, hp, hb, hc⟩ := h.cell i x hx
  exact ⟨b, off, hp, Nat.lt_of_lt_of_le hb ho.size, fun j v hv => by rw [ho.cell hb (by simp)]; exact hc j v hv⟩

theorem VRow.take {α : Type} {ec : α → List Value} {s : Nat} {w : World} {p : Option Addr} {n cap : Nat} {l : List α} (h : VRow ec s w p n cap l) (k : Nat) (hk : k ≤ n) : VRow ec s w p k cap (l.take k) := by
  refine ⟨by rw [List.length_take, h.len]; omega, by have := h.le; omega, h.cm, h.nil, fun i x hx => ?_⟩
  have hik : i < k := by
    rcases Nat.lt_or_ge i k with h | h
    · exact h
    · rw [List.getElem?_take, if_neg (by omega)] at hx; cases hx
  rw [List.getElem?_take, if_pos hik] at hx
  exact h.cell i x hx

section
variable {H : Type} {enc : TypeId × Value → H} {P : Program} {w : World}

theorem vrow_of {α : Type} (ec : α → List Value) (s : Nat) (hs : ∀ x, (ec x).length = s) (hs0 : 0 < s) (G : α → Prop) {t e : TypeId} {p : Option Addr} {n cap : Nat} {d : DataW H} {ps : List MemPlace}
    (ht : P.underlying t = some (.slice e)) (hC : P.cellsOf e = s) (h : DataW.Trod enc P w 0 (fun _ => true) true t (.slice p n cap) d ps)
    (hel : ∀ fuel cs x, DataW.trod enc P w 0 (fun _ => true) true fuel e cs = some x → ∃ a, cs = ec a ∧ G a) :
    ∃ l : List α, VRow ec s w p n cap l ∧ ∀ x ∈ l, G x := by
  obtain ⟨fuel, hf⟩ := h
  rcases open_slice ht hf with ⟨h0, _⟩ | ⟨a, len, cap', m, fu, D, Pl, hcs, hb, hl, hm, hmm, hx, hi⟩
  · simp [Value.cells] at h0
    obtain ⟨rfl, rfl, rfl⟩ := h0
    exact ⟨[], ⟨rfl, Nat.le_refl _, Nat.zero_le _, fun _ => rfl, by simp⟩, by simp⟩
  · simp [Value.cells] at hcs
    obtain ⟨rfl, rfl, rfl⟩ := hcs
    have hmc : m = cap := by simpa using hmm
    subst hmc
    rw [hC] at hi
    have key : ∀ i, ∃ x : Option α, i < n → ∃ y, x = some y ∧ G y ∧ ∀ j v, (ec y)[j]? = some v → w.cell? (a.add (i * s + j)) = some v := by
      intro i
      by_cases hin : i < n
      · obtain ⟨cs', hc, ht'⟩ := hi i (by omega)
        obtain ⟨y, rfl, hg⟩ := hel _ _ _ ht'
        obtain ⟨_, hcl, hat⟩ := World.cells?_some hc
        refine ⟨some y, fun _ => ⟨y, rfl, hg, fun j v hv => ?_⟩⟩
        have hj : j < s := by have := (List.getElem?_eq_some_iff.1 hv).1; rw [hs] at this; exact this
        rw [← add_add, hat j hj]; exact hv
      · exact ⟨none, fun h => absurd h hin⟩
    obtain ⟨f, hf'⟩ := Classical.axiomOfChoice key
    have hlen : ((List.range n).filterMap f).length = n := by
      have hall : ∀ i ∈ List.range n, (f i).isSome = true := fun i hi => by
        obtain ⟨y, hy, _⟩ := hf' i (List.mem_range.1 hi); simp [hy]
      have : ∀ L : List Nat, (∀ i ∈ L, (f i).isSome = true) → (L.filterMap f).length = L.length := by
        intro L
        induction L with
        | nil => simp
        | cons x L ih =>
          intro h
          have hx := h x (by simp)
          rw [Option.isSome_iff_exists] at hx
          obtain ⟨y, hy⟩ := hx
          simp [hy, ih (fun i hi => h i (by simp [hi]))]
      rw [this _ hall]; simp
    have hget : ∀ k, k ≤ n → ((List.range k).filterMap f).length = k ∧ ∀ i, i < k → ((List.range k).filterMap f)[i]? = f i := by
      intro k
      induction k with
      | zero => intro _; simp
      | succ k ih =>
        intro hk
        obtain ⟨h1, h2⟩ := ih (by omega)
        obtain ⟨y, hy, _⟩ := hf' k (by omega)
        rw [List.range_succ, List.filterMap_append]
        simp only [List.filterMap_cons, hy, List.filterMap_nil]
        refine ⟨by simp [h1], fun i hi => ?_⟩
        by_cases hik : i < k
        · rw [List.getElem?_append_left (by omega)]; exact h2 i hik
        · have : i = k := by omega
          subst this
          rw [List.getElem?_append_right (by omega), h1]; simp [hy]
    refine ⟨(List.range n).filterMap f, ⟨hlen, hl, hm, by simp, fun i x hx => ?_⟩, fun x hx => ?_⟩
    · have hin : i < n := by have := (List.getElem?_eq_some_iff.1 hx).1; omega
      rw [(hget n (Nat.le_refl _)).2 i hin] at hx
      obtain ⟨y, hy, hg, hc⟩ := hf' i hin
      rw [hy] at hx
      cases hx
      obtain ⟨y0, _, _, hz⟩ := hf' 0 (by omega)
      have hz0 := hz 0 _ (List.getElem?_eq_getElem (by rw [hs]; exact hs0))
      simp only [Nat.zero_mul, Nat.add_zero] at hz0
      have hspot : a.spot = none := by
        have := World.cell?_spot hz0
        simpa [Addr.add] using this
      obtain ⟨b, off, spot⟩ := a
      simp only at hspot
      subst hspot
      have hadd : ∀ j, (⟨b, off, none⟩ : Addr).add j = ⟨b, off + j, none⟩ := fun j => by
        unfold Addr.add
        split
        · rename_i h0; simp only [h0, Nat.add_zero]
        · rfl
      refine ⟨b, off, rfl, ?_, fun j v hv => by rw [← hadd]; exact hc j v hv⟩
      rw [hadd] at hz0
      exact World.block_lt_of_cell? w _ hz0
    · obtain ⟨i, hi, hix⟩ := List.mem_filterMap.1 hx
      obtain ⟨y, hy, hg, _⟩ := hf' i (List.mem_range.1 hi)
      rw [hy] at hix
      cases hix
      exact hg

theorem vrow_ints {k : IntKind} {t e : TypeId} {p : Option Addr} {n cap : Nat} {d : DataW H} {ps : List MemPlace} (ht : P.underlying t = some (.slice e)) (he : P.underlying e = some (.int k)) (hC : P.cellsOf e = 1)
    (h : DataW.Trod enc P w 0 (fun _ => true) true t (.slice p n cap) d ps) : ∃ l : List Int, VRow (fun z => [.int k z]) 1 w p n cap l ∧ ∀ z ∈ l, (Lit.int k z).wf = true :=
  vrow_of _ 1 (fun _ => rfl) (by decide) _ ht hC h fun _ _ _ h => by
    obtain ⟨z, h1, _, h2⟩ := DataW.trod_int he h
    exact ⟨z, h1, h2⟩

theorem vrow_bools {t e : TypeId} {p : Option Addr} {n cap : Nat} {d : DataW H} {ps : List MemPlace} (ht : P.underlying t = some (.slice e)) (he : P.underlying e = some .bool) (hC : P.cellsOf e = 1)
    (h : DataW.Trod enc P w 0 (fun _ => true) true t (.slice p n cap) d ps) : ∃ l : List Bool, VRow (fun z => [.bool z]) 1 w p n cap l ∧ ∀ z ∈ l, True :=
  vrow_of _ 1 (fun _ => rfl) (by decide) _ ht hC h fun _ _ _ h => by
    obtain ⟨z, h1, _⟩ := DataW.trod_bool he h
    exact ⟨z, h1, trivial⟩
end
end Go.Proofs.YtikjdmbfjkbndaaGreat
