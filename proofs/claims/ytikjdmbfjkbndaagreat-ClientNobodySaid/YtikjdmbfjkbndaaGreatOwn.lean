/- A slice that the call makes and appends to, nil at first. No condition. -/
import Derived.Test.YtikjdmbfjkbndaaGreatLaw
namespace Go.Proofs.YtikjdmbfjkbndaaGreat
open Go.RowKit

section
variable {α : Type} {enc : α → List Value} {e : TypeId} {s : Nat}

theorem RowAt.vrow (hs : ∀ x, (enc x).length = s) {w : World} {g cap n : Nat} {l : List α} (h : RowAt enc e s w g cap l) (hn : n = l.length) : VRow enc s w (some ⟨g, 0, none⟩) n cap l := by
  have h' := h
  obtain ⟨cur, hg, h1, h2, h3, h4⟩ := h'
  refine ⟨hn.symm, by omega, h3, by simp, fun i x hx => ⟨g, 0, rfl, h.lt, fun j v hv => ?_⟩⟩
  have hj : j < s := by have := (List.getElem?_eq_some_iff.1 hv).1; rw [hs] at this; exact this
  rw [Nat.zero_add, h.cell hs hx hj]; exact hv

/-- the slice `v` of the call's own (its block is `B` or a later one) has the elements `l` -/
def Own (enc : α → List Value) (e : TypeId) (s B : Nat) (w : World) (v : Value) (l : List α) : Prop :=
  (v = .slice none 0 0 ∧ l = []) ∨ ∃ g cap, v = .slice (some ⟨g, 0, none⟩) l.length cap ∧ B ≤ g ∧ RowAt enc e s w g cap l
theorem own_nil (B : Nat) (w : World) : Own enc e s B w (.slice none 0 0) [] := .inl ⟨rfl, rfl⟩
theorem Own.kept {B : Nat} {w w' : World} {v : Value} {l : List α} (h : Own enc e s B w v l) (ho : Only [] w w') : Own enc e s B w' v l := by
  rcases h with h | ⟨g, cap, h1, h2, h3⟩
  · exact .inl h
  · exact .inr ⟨g, cap, h1, h2, h3.kept ho (by simp)⟩
theorem Own.kept_below {B : Nat} {w w' : World} {v : Value} {l : List α} {S : List Nat} (h : Own enc e s B w v l) (ho : Only S w w') (hS : ∀ k ∈ S, k < B) : Own enc e s B w' v l := by
  rcases h with h | ⟨g, cap, h1, h2, h3⟩
  · exact .inl h
  · exact .inr ⟨g, cap, h1, h2, h3.kept ho (fun hm => by have := hS g hm; omega)⟩
theorem Own.vrow (hs : ∀ x, (enc x).length = s) {B : Nat} {w : World} {v : Value} {l : List α} (h : Own enc e s B w v l) : ∃ p cap, v = .slice p l.length cap ∧ VRow enc s w p l.length cap l := by
  rcases h with ⟨rfl, rfl⟩ | ⟨g, cap, h1, h2, h3⟩
  · exact ⟨none, 0, rfl, ⟨rfl, Nat.le_refl _, Nat.zero_le _, fun _ => rfl, by simp⟩⟩
  · exact ⟨_, cap, h1, h3.vrow hs rfl⟩
theorem vrow_nil (w : World) : VRow enc s w none 0 0 [] := ⟨rfl, Nat.le_refl _, Nat.zero_le _, fun _ => rfl, by simp⟩

/-- one element is appended to the call's own slice -/
theorem wpList_append_one {P : Program} {w0 w : World} {ops : Array Oper} {rest : List Oper} {o : Oper} {a : Act} {Q : Exit → Act → World → Prop} (hgd : o.guard = none) (sO xO : Operand) (t : TypeId)
    (ho : o.op = .call { callee := .builtin .append, args := #[sO, xO], argTypes := #[t, t] })
    (e : TypeId) (z : Value) (size bytes : Nat) (ht : P.underlying t = some (.slice e)) (hi : (P.info? e).map (fun i => (i.zero, i.size, i.bytes)) = some (some z, size, bytes)) (hzs : z.cells.size = size) (hsz : 0 < size)
    (enc : α → List Value) (hs : ∀ x, (enc x).length = size) (h1c : ∀ x, ∀ u ∈ enc x, u.oneCell' = true) (l : List α) (v : Value) (hv : a.eval sO = v) (hown : Own enc e size w0.heap.size w v l)
    (ad : Nat) (x : α) (hx : a.eval xO = .slice (some ⟨ad, 0, none⟩) 1 1) (hnews : ∀ j u, (enc x)[j]? = some u → w.cell? ⟨ad, j, none⟩ = some u)
    (hlen : l.length + 1 ≤ maxLen) (hby : (l.length + 1) * bytes ≤ 140737488355328) (hb : Only [] w0 w)
    (hK : ∀ v' w', Own enc e size w0.heap.size w' v' (l ++ [x]) → Only [] w0 w' → Only v.ownBlock.toList w w' → wpList P ops Q rest (a.put o.dst v') w') : wpList P ops Q (o :: rest) a w := by
  cases hi' : P.info? e with
  | none => rw [hi'] at hi; simp at hi
  | some i =>
    rw [hi'] at hi
    simp only [Option.map_some, Option.some.injEq, Prod.mk.injEq] at hi
    obtain ⟨z1, z2, z3⟩ := hi
    have hadd : ∀ j, (⟨ad, 0, none⟩ : Addr).add j = ⟨ad, j, none⟩ := fun j => by rw [addr_add]; simp
    have hfl : (l ++ [x]).flatMap enc = l.flatMap enc ++ enc x := by simp
    have hblk : w.ownsRow 0 e size v l.length (l.flatMap enc) := by
      rcases hown with ⟨rfl, rfl⟩ | ⟨g, cap, rfl, _, h3⟩
      · exact ⟨by simp, .inl ⟨rfl, rfl⟩⟩
      · exact h3.owns hs (Nat.zero_le _)
    have hge : ∀ k, v.ownBlock = some k → w0.heap.size ≤ k := by
      intro k hk
      rcases hown with ⟨rfl, rfl⟩ | ⟨g, cap, rfl, h2, _⟩
      · simp [Value.ownBlock] at hk
      · simp only [Value.ownBlock, Option.some.injEq] at hk; omega
    refine wpList_append_row hgd sO xO t ho e i z size bytes ht hi' z1 z2 z3 hzs hsz v l.length (l.flatMap enc) hv hblk ⟨ad, 0, none⟩ 1 1 (enc x) hx (by rw [hs]; omega) (fun j u hj => by rw [hadd]; exact hnews j u hj) (h1c x) hlen hby (by decide) ?_
    intro g' cap' w' hown' ho' hg'
    rw [← hfl] at hown'
    refine hK _ _ (.inr ⟨g', cap', by simp, ?_, RowAt.of_owns hown' (by simp)⟩) (hb.trans ho' (fun y hy => .inr (hge y (by simpa using hy)))) ho'
    rcases hg' with h | rfl
    · exact hge _ h
    · exact hb.size
/-- `make([]T, n)` -/
theorem wpList_make_own (enc : α → List Value) {P : Program} {w : World} {ops : Array Oper} {rest : List Oper} {o : Oper} {a : Act} {Q : Exit → Act → World → Prop}
    (hg : o.guard = none) (l c : Operand) (t : TypeId) (hop : o.op = Op.makeSlice t l c)
    (e : TypeId) (z : Value) (size bytes : Nat) (ht : P.underlying t = some (.slice e)) (hi : (P.info? e).map (fun i => (i.zero, i.size, i.bytes)) = some (some z, size, bytes))
    (hs : ∀ x, (enc x).length = size) (z0 : α) (hz : z.cells.toList = enc z0)
    (kl kc : IntKind) (L C : Int) (n : Nat) (hl : a.eval l = .int kl L) (hc : a.eval c = .int kc C) (hL : L = (n : Int)) (hC : C = (n : Int)) (b2 : bytes * n ≤ 281474976710656) (b3 : n ≤ maxLen)
    (hK : ∀ w', RowAt enc e size w' w.heap.size n (List.replicate n z0) → Only [] w w' → w'.heap.size = w.heap.size + 1 → wpList P ops Q rest (a.put o.dst (.slice (some ⟨w.heap.size, 0, none⟩) n n)) w') :
    wpList P ops Q (o :: rest) a w := by
  cases hi' : P.info? e with
  | none => rw [hi'] at hi; simp at hi
  | some i =>
    rw [hi'] at hi
    simp only [Option.map_some, Option.some.injEq, Prod.mk.injEq] at hi
    obtain ⟨z1, z2, z3⟩ := hi
    exact wpList_make_row enc hg l c t hop e i z size bytes ht hi' z1 z2 z3 hs z0 hz kl kc L C n hl hc hL hC b2 b3 hK
end
end Go.Proofs.YtikjdmbfjkbndaaGreat
