/- Plain lemmas: a heap's list of events, and the map of places that goes with it. No condition. -/
import Derived.Test.YtpiilepmaomfeaaAg1
namespace Go.Proofs.Ytpiilepmaomfeaa
open Go.RowKit

/-- exchange the elements at two places -/
def sw (l : List Ev) (i j : Nat) : List Ev := (l.set i (l.getD j ⟨0, 0, 0⟩)).set j (l.getD i ⟨0, 0, 0⟩)

theorem sw_length (l : List Ev) (i j : Nat) : (sw l i j).length = l.length := by simp [sw]

theorem getD_of {l : List Ev} {i : Nat} {e : Ev} (h : l[i]? = some e) : l.getD i ⟨0, 0, 0⟩ = e := by simp [h]

/-- the element at a place after the exchange -/
theorem sw_get (l : List Ev) (i j k : Nat) (hi : i < l.length) (hj : j < l.length) :
    (sw l i j)[k]? = if k = j then l[i]? else if k = i then l[j]? else l[k]? := by
  unfold sw
  rw [List.getElem?_set, List.getElem?_set]
  by_cases h1 : k = j
  · subst h1; simp [hi, hj]
  · by_cases h2 : k = i
    · subst h2
      simp [Ne.symm h1, h1, hi, hj]
    · simp [h1, h2, Ne.symm h1, Ne.symm h2]

theorem isKey (k : Int) : Go.WideAt.IsKeyLit (.int .i64 k) := trivial
theorem lit_ne {a b : Int} (h : a ≠ b) : Lit.int .i64 a ≠ Lit.int .i64 b := fun e => h (by injection e)

/-- the map `D` gives each event's place by its id -/
structure MOk (D : DataW Unit) (l : List Ev) : Prop where
  isMap : Maps.IsMap D
  at_ : ∀ (i : Nat) (e : Ev), l[i]? = some e → Maps.has D (.int .i64 e.i) = true ∧ D.atKey (.int .i64 e.i) (.lit (.int .i64 0)) = .lit (.int .i64 i)
  none : ∀ k : Int, (∀ e ∈ l, e.i ≠ k) → Maps.has D (.int .i64 k) = false
  wf : ∀ e ∈ l, (Lit.int .i64 e.i).wf = true

theorem MOk.apart {D : DataW Unit} {l : List Ev} (h : MOk D l) {i j : Nat} {e f : Ev} (hi : l[i]? = some e) (hj : l[j]? = some f) (hne : i ≠ j) : e.i ≠ f.i := by
  intro he
  have h1 := (h.at_ i e hi).2
  have h2 := (h.at_ j f hj).2
  rw [he, h2] at h1
  injection h1 with h3
  injection h3 with _ h4
  omega

theorem mem_sw {l : List Ev} {i j : Nat} (hi : i < l.length) (hj : j < l.length) {e : Ev} : e ∈ sw l i j ↔ e ∈ l := by
  simp only [List.mem_iff_getElem?]
  constructor
  · rintro ⟨k, hk⟩
    rw [sw_get l i j k hi hj] at hk
    split at hk
    · exact ⟨_, hk⟩
    · split at hk
      · exact ⟨_, hk⟩
      · exact ⟨_, hk⟩
  · rintro ⟨k, hk⟩
    by_cases h1 : k = i
    · subst h1; exact ⟨j, by rw [sw_get l k j j hi hj, if_pos rfl]; exact hk⟩
    · by_cases h2 : k = j
      · subst h2; refine ⟨i, ?_⟩
        rw [sw_get l i k i hi hj]
        by_cases h3 : i = k
        · exact absurd h3.symm h1
        · rw [if_neg h3, if_pos rfl]; exact hk
      · exact ⟨k, by rw [sw_get l i j k hi hj, if_neg h2, if_neg h1]; exact hk⟩

theorem MOk.sw {D : DataW Unit} {l : List Ev} (h : MOk D l) {i j : Nat} {ei ej : Ev} (hi : l[i]? = some ei) (hj : l[j]? = some ej) :
    MOk ((D.put (.int .i64 ej.i) (.lit (.int .i64 i))).put (.int .i64 ei.i) (.lit (.int .i64 j))) (sw l i j) := by
  have hil : i < l.length := (List.getElem?_eq_some_iff.1 hi).1
  have hjl : j < l.length := (List.getElem?_eq_some_iff.1 hj).1
  have hm1 : Maps.IsMap (D.put (.int .i64 ej.i) (.lit (.int .i64 i))) := h.isMap.put _ _
  refine ⟨hm1.put _ _, ?_, ?_, ?_⟩
  · intro k e hk
    rw [sw_get l i j k hil hjl] at hk
    by_cases h1 : k = j
    · subst h1
      rw [if_pos rfl, hi] at hk
      cases hk
      exact ⟨Maps.has_put_same hm1 (isKey _) _, Maps.atKey_put_same hm1 (isKey _) _ _⟩
    · rw [if_neg h1] at hk
      by_cases h2 : k = i
      · subst h2
        rw [if_pos rfl, hj] at hk
        cases hk
        have hne := h.apart hj hi (Ne.symm h1)
        exact ⟨by rw [Maps.has_put_other (lit_ne hne)]; exact Maps.has_put_same h.isMap (isKey _) _,
          by rw [Maps.atKey_put_other (lit_ne hne)]; exact Maps.atKey_put_same h.isMap (isKey _) _ _⟩
      · rw [if_neg h2] at hk
        have n1 := h.apart hk hi h2
        have n2 := h.apart hk hj h1
        rw [Maps.has_put_other (lit_ne n1), Maps.has_put_other (lit_ne n2), Maps.atKey_put_other (lit_ne n1), Maps.atKey_put_other (lit_ne n2)]
        exact h.at_ k e hk
  · intro k hk
    have hk' : ∀ e ∈ l, e.i ≠ k := fun e he => hk e ((mem_sw hil hjl).2 he)
    rw [Maps.has_put_other (lit_ne (hk' ei (List.mem_of_getElem? hi)).symm), Maps.has_put_other (lit_ne (hk' ej (List.mem_of_getElem? hj)).symm)]
    exact h.none k hk'
  · intro e he
    exact h.wf e ((mem_sw hil hjl).1 he)

/-- a bound on the entries may be made tight -/
theorem EMap.tight {w : World} {b n : Nat} {D : DataW Unit} (h : EMap w b n D) : EMap w b (Maps.size D) D := by
  obtain ⟨es, clock, hb, F, hs, rfl⟩ := h
  refine ⟨es, clock, hb, F, ?_, rfl⟩
  rw [Maps.size_eq, length_sorted]
  simp

theorem EMap.key (w : World) (b n : Nat) (D : DataW Unit) (h : EMap w b n D) : Maps.Tidy D := World.ownsMap.tidy h (Maps.int_keyed Try.underlying3)

/-- the heap in memory: the queue's block `q`, the list's block `g`, the map's block `b` -/
structure HRep (w : World) (q g cap b : Nat) (a2 a3 a4 : Value) (l : List Ev) : Prop where
  qc : w.heap[q]? = some (.cells #[.slice (some ⟨g, 0, none⟩) l.length cap, .map (some b), a2, a3, a4] 53 (0, 0))
  row : ERow w g cap l
  map : ∃ D, EMap w b l.length D ∧ MOk D l ∧ Maps.size D = l.length
  qg : q ≠ g
  le : l.length ≤ 1000000

theorem HRep.bg {w : World} {q g cap b : Nat} {a2 a3 a4 : Value} {l : List Ev} (h : HRep w q g cap b a2 a3 a4 l) : b ≠ g ∧ b ≠ q := by
  obtain ⟨D, ⟨es, clock, hb, _⟩, _⟩ := h.map
  obtain ⟨cur, hg, _⟩ := h.row
  constructor
  · rintro rfl; rw [hb] at hg; cases hg
  · rintro rfl; have := h.qc; rw [hb] at this; cases this

theorem HRep.kept {w w' : World} {S : List Nat} {q g cap b : Nat} {a2 a3 a4 : Value} {l : List Ev} (h : HRep w q g cap b a2 a3 a4 l) (ho : Only S w w') (h1 : q ∉ S) (h2 : g ∉ S) (h3 : b ∉ S) : HRep w' q g cap b a2 a3 a4 l := by
  obtain ⟨D, hD, r⟩ := h.map
  exact ⟨ho.got h.qc h1, h.row.kept ho h2, ⟨D, EMap.kept hD ho h3, r⟩, h.qg, h.le⟩
end Go.Proofs.Ytpiilepmaomfeaa
