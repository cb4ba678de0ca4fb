/- Rows of structs in memory: a slice whose elements are read as data of a type of our own. No condition. -/
import Derived.Test.YtikjdmbfjkbndaaGreatBase
namespace Go.Proofs.YtikjdmbfjkbndaaGreat
open Go.RowKit

section
variable {α : Type}

theorem flat_length (enc : α → List Value) (s : Nat) (hs : ∀ x, (enc x).length = s) : ∀ l : List α, (l.flatMap enc).length = l.length * s
  | [] => by simp
  | x :: l => by rw [List.flatMap_cons, List.length_append, hs, flat_length enc s hs l, List.length_cons, Nat.succ_mul, Nat.add_comm]

theorem flat_get (enc : α → List Value) (s : Nat) (hs : ∀ x, (enc x).length = s) : ∀ (l : List α) (i j : Nat) (x : α), l[i]? = some x → j < s → (l.flatMap enc)[i * s + j]? = (enc x)[j]?
  | [], i, j, x, h, _ => by simp at h
  | y :: l, 0, j, x, h, hj => by
    simp at h; subst h
    rw [Nat.zero_mul, Nat.zero_add, List.flatMap_cons, List.getElem?_append_left (by rw [hs]; exact hj)]
  | y :: l, i + 1, j, x, h, hj => by
    have h' : l[i]? = some x := by simpa using h
    have := flat_get enc s hs l i j x h' hj
    rw [List.flatMap_cons, List.getElem?_append_right (by rw [hs, Nat.succ_mul]; omega), hs, ← this]
    congr 1
    rw [Nat.succ_mul]; omega

theorem flat_set (enc : α → List Value) (s : Nat) (hs : ∀ x, (enc x).length = s) : ∀ (l : List α) (i : Nat) (x : α), i < l.length →
    (l.flatMap enc).take (i * s) ++ enc x ++ (l.flatMap enc).drop (i * s + s) = (l.set i x).flatMap enc
  | [], i, x, h => by simp at h
  | y :: l, 0, x, _ => by
    simp only [Nat.zero_mul, List.take_zero, List.nil_append, Nat.zero_add, List.flatMap_cons, List.set_cons_zero]
    rw [show s = (enc y).length from (hs y).symm, List.drop_left]
  | y :: l, i + 1, x, h => by
    have h' : i < l.length := by simpa using h
    have ih := flat_set enc s hs l i x h'
    simp only [List.flatMap_cons, List.set_cons_succ]
    rw [← ih, show (i + 1) * s = s + i * s by rw [Nat.succ_mul, Nat.add_comm]]
    have e1 : (enc y ++ l.flatMap enc).take (s + i * s) = enc y ++ (l.flatMap enc).take (i * s) := by
      rw [List.take_append, List.take_of_length_le (by rw [hs]; omega), hs]; congr 2; omega
    have e2 : (enc y ++ l.flatMap enc).drop (s + i * s + s) = (l.flatMap enc).drop (i * s + s) := by
      rw [List.drop_append, List.drop_of_length_le (by rw [hs]; omega), hs, List.nil_append]; congr 1; omega
    rw [e1, e2]; simp only [List.append_assoc]

theorem flat_take (enc : α → List Value) (s : Nat) (hs : ∀ x, (enc x).length = s) (l : List α) (k : Nat) : (l.flatMap enc).take (k * s) = (l.take k).flatMap enc := by
  induction l generalizing k with
  | nil => simp
  | cons y l ih =>
    cases k with
    | zero => simp
    | succ k =>
      rw [List.take_succ_cons, List.flatMap_cons, List.flatMap_cons, List.take_append, hs, ← ih, List.take_of_length_le (by rw [hs, Nat.succ_mul]; omega)]
      congr 2
      rw [Nat.succ_mul]; omega
end

section
variable {α : Type} (enc : α → List Value) (e : TypeId) (s : Nat)

/-- Block `g` of `w` has the elements `l`, and room for `cap`. -/
def RowAt (w : World) (g cap : Nat) (l : List α) : Prop :=
  ∃ cur : Array Value, w.heap[g]? = some (.cells cur e (0, 0)) ∧ cur.size = cap * s ∧ l.length ≤ cap ∧ cap ≤ maxLen ∧ cur.toList.take (l.length * s) = l.flatMap enc

variable {enc e s}

theorem RowAt.lt {w : World} {g cap : Nat} {l : List α} (h : RowAt enc e s w g cap l) : g < w.heap.size := by
  obtain ⟨cur, hg, _⟩ := h; exact got_lt hg
theorem RowAt.owns {w : World} {g cap : Nat} {l : List α} (hs : ∀ x, (enc x).length = s) (h : RowAt enc e s w g cap l) {base : Nat} (hb : base ≤ g) : w.ownsRow base e s (.slice (some ⟨g, 0, none⟩) l.length cap) l.length (l.flatMap enc) := by
  obtain ⟨cur, hg, h1, h2, h3, h4⟩ := h
  exact ⟨flat_length enc s hs l, .inr ⟨g, cap, cur, rfl, hb, hg, h2, h3, h1, h4⟩⟩
theorem RowAt.of_owns {w : World} {g cap n base : Nat} {l : List α} (h : w.ownsRow base e s (.slice (some ⟨g, 0, none⟩) n cap) n (l.flatMap enc)) (hn : n = l.length) : RowAt enc e s w g cap l := by
  subst hn
  rcases h.2 with ⟨h', _⟩ | ⟨g', cap', cur, h', hb, hg, h2, h3, h1, h4⟩
  · simp at h'
  · simp only [Value.slice.injEq, Option.some.injEq, Addr.mk.injEq, and_true, true_and] at h'
    obtain ⟨rfl, rfl⟩ := h'
    exact ⟨cur, hg, h1, h2, h3, h4⟩
theorem RowAt.cell {w : World} {g cap : Nat} {l : List α} (hs : ∀ x, (enc x).length = s) (h : RowAt enc e s w g cap l) {i j : Nat} {x : α} (hi : l[i]? = some x) (hj : j < s) : w.cell? ⟨g, i * s + j, none⟩ = (enc x)[j]? := by
  obtain ⟨cur, hg, h1, h2, h3, h4⟩ := h
  have hil : i < l.length := (List.getElem?_eq_some_iff.1 hi).1
  have hlt : i * s + j < l.length * s := by
    have : (i + 1) * s ≤ l.length * s := Nat.mul_le_mul_right s hil
    rw [Nat.succ_mul] at this; omega
  rw [cell_got hg, ← flat_get enc s hs l i j x hi hj, ← h4, List.getElem?_take, if_pos hlt]
  simp
theorem RowAt.frozen {w : World} {g cap : Nat} {l : List α} (h : RowAt enc e s w g cap l) (o : Nat) : w.frozen? ⟨g, o, none⟩ = false := by
  obtain ⟨cur, hg, _⟩ := h; exact frozen_got hg o
theorem RowAt.kept {w w' : World} {S : List Nat} {g cap : Nat} {l : List α} (h : RowAt enc e s w g cap l) (ho : Only S w w') (hn : g ∉ S) : RowAt enc e s w' g cap l := by
  obtain ⟨cur, hg, r⟩ := h; exact ⟨cur, ho.got hg hn, r⟩
theorem RowAt.take {w : World} {g cap : Nat} {l : List α} (hs : ∀ x, (enc x).length = s) (h : RowAt enc e s w g cap l) (k : Nat) : RowAt enc e s w g cap (l.take k) := by
  obtain ⟨cur, hg, h1, h2, h3, h4⟩ := h
  refine ⟨cur, hg, h1, by rw [List.length_take]; omega, h3, ?_⟩
  rw [← flat_take enc s hs, ← h4, List.take_take]
  congr 1
  rw [List.length_take]
  by_cases hk : k ≤ l.length
  · rw [Nat.min_eq_left hk, Nat.min_eq_left (Nat.mul_le_mul_right s hk)]
  · rw [Nat.min_eq_right (by omega), Nat.min_eq_right (Nat.mul_le_mul_right s (by omega))]
theorem RowAt.set {w w' : World} {g cap : Nat} {l : List α} (hs : ∀ x, (enc x).length = s) {i : Nat} {x : α} (hi : i < l.length) (h : RowAt enc e s w g cap l)
    {cur : Array Value} (hg : w.heap[g]? = some (.cells cur e (0, 0))) (hg' : w'.heap[g]? = some (.cells (cur.toList.take (i * s) ++ enc x ++ cur.toList.drop (i * s + s)).toArray e (0, 0))) : RowAt enc e s w' g cap (l.set i x) := by
  obtain ⟨cur', hgc, h1, h2, h3, h4⟩ := h
  have : cur' = cur := by rw [hgc] at hg; simpa using hg
  subst this
  have hlt : i * s + s ≤ l.length * s := by
    have : (i + 1) * s ≤ l.length * s := Nat.mul_le_mul_right s hi
    rw [Nat.succ_mul] at this; omega
  have hcap : l.length * s ≤ cur'.size := by rw [h1]; exact Nat.mul_le_mul_right s h2
  refine ⟨_, hg', ?_, by simpa using h2, h3, ?_⟩
  · simp only [List.size_toArray, List.length_append, List.length_take, List.length_drop, Array.length_toList, hs]; omega
  · rw [List.length_set, ← flat_set enc s hs l i x hi, ← h4]
    simp only [List.take_append, List.length_take, Array.length_toList, List.take_take]
    rw [Nat.min_eq_left (by omega : i * s ≤ cur'.size), Nat.min_eq_right (by omega : i * s ≤ l.length * s), List.take_of_length_le (l := enc x) (by rw [hs]; omega),
      Nat.min_eq_left (by omega : i * s ≤ l.length * s), List.drop_take]
    congr 2
    simp only [List.length_append, List.length_take, Array.length_toList, hs]
    omega

/-- a store of a struct into a row -/
theorem wpList_store_row {P : Program} {w : World} {ops : Array Oper} {rest : List Oper} {o : Oper} {a : Act} {Q : Exit → Act → World → Prop} (hgd : o.guard = none) (t : TypeId) (p x : Operand) (ho : o.op = .store t p x)
    (m : Nat) (hinfo : (P.info? t).map (·.size) = some m) (g off : Nat) (hp : a.eval p = .pointer (some ⟨g, off, none⟩)) (v : Value) (hx : a.eval x = v) (hvs : v.cells.size = m) (h1b : v.cells.toList.all Value.oneCell' = true)
    (cur : Array Value) (et : TypeId) (hg : w.heap[g]? = some (.cells cur et (0, 0))) (hfit : off + m ≤ cur.size)
    (hK : ∀ w1, w1.heap[g]? = some (.cells (cur.toList.take off ++ v.cells.toList ++ cur.toList.drop (off + m)).toArray et (0, 0)) → Only [g] w w1 → w1.heap.size = w.heap.size → wpList P ops Q rest (a.put o.dst undef) w1) : wpList P ops Q (o :: rest) a w := by
  refine wpList_plain hgd fun K hK' => ?_
  have h1 : ∀ u ∈ v.cells.toList, u.oneCell' = true := List.all_eq_true.1 h1b
  have hl : v.cells.toList.length = m := by simpa using hvs
  have hst := run_storeCells_at P g off et v.cells.toList 0 cur w hg (by rw [hl]; simpa using hfit) h1
  have hsz : (sizeOf t).run P w = .ok m w := by
    cases hq : P.info? t with
    | none => simp [hq] at hinfo
    | some i => simp [sizeOf, typeInfo, hq] at hinfo ⊢; exact hinfo
  simp only [Nat.add_zero, hl] at hst
  have hrun : (Instr.storeAt t (.pointer (some ⟨g, off, none⟩)) v).run P w = .ok () (w.setRow g (cur.toList.take off ++ v.cells.toList ++ cur.toList.drop (off + m)).toArray) := by
    simp only [Instr.storeAt, storeVar, Sem.run_bind, Instr.sureAddr, Sem.run_pure, Result.andThen_ok, hsz, hvs, ne_eq, not_true_eq_false, if_false, hst]
  unfold Oper.wp
  simp only [execOp, ho, hp, hx, Sem.run_bind, hrun, Result.andThen_ok, Sem.run_pure, Oper.upon_skip]
  exact hK' _ _ (hK _ (setRow_heap w g cur _ et _ hg) ⟨rfl, rfl, rfl, by simp [World.setRow], fun k _ hk => setRow_other w g k _ (fun e => hk (by simp [e]))⟩ (by simp [World.setRow]))

/-- append to a row of the call's own: the new value's block is the old one or a new one -/
theorem run_append_row {P : Program} (w : World) (t ty e : TypeId) (i : TypeInfo) (z : Value) (size bytes : Nat) (ht : P.underlying t = some (.slice e)) (hi : P.info? e = some i) (hz : i.zero = some z)
    (hsize : i.size = size) (hby : i.bytes = bytes) (hzs : z.cells.size = size) (hsz : 0 < size)
    (v : Value) (n : Nat) (xs : List Value) (hown : w.ownsRow 0 e size v n xs)
    (a : Addr) (m c : Nat) (news : List Value) (hl : news.length = m * size) (hnews : ∀ j u, news[j]? = some u → w.cell? (a.add j) = some u) (h1 : ∀ u ∈ news, u.oneCell' = true)
    (h63 : n + m ≤ maxLen) (hbytes : (n + m) * bytes ≤ 140737488355328) (hm : 0 < m) :
    ∃ v' w', (Builtin.append_ #[t, t] ty #[v, .slice (some a) m c]).run P w = .ok v' w' ∧ w'.ownsRow 0 e size v' (n + m) (xs ++ news) ∧ w.grownBy w' v.ownBlock ∧ (v'.ownBlock = v.ownBlock ∨ v'.ownBlock = some w.heap.size) ∧ v' ≠ .slice none 0 0 := by
  obtain ⟨v', w', hr, h2, h3, h4⟩ := run_append_own (P := P) w 0 t ty e i z size bytes ht hi hz hsize hby hzs hsz v n xs hown a m c news hl hnews h1 h63 hbytes (Nat.zero_le _)
  refine ⟨v', w', hr, h2, h3, ?_, fun h => by have := (h4.1 h).2; omega⟩
  subst hsize
  subst hby
  have hsmall : n + m ≤ 9223372036854775807 := by simp only [maxLen] at h63; omega
  rcases hown.2 with ⟨rfl, rfl⟩ | ⟨g, cap, cur, rfl, hbg, hg, hnc, hcm, hcs, htake⟩
  · have hr' := run_append_nil (P := P) w t ty e i z ht hi hz a m c news hl hnews hm (by omega) (by have hb := hbytes; simp only [Nat.zero_add] at hb; omega)
    rw [hr] at hr'
    injection hr' with e1 _
    subst e1
    exact .inr rfl
  · by_cases hroom : n + m ≤ cap
    · have hfit : n * i.size + news.length ≤ cur.size := by rw [hl, hcs, ← Nat.add_mul]; exact Nat.mul_le_mul_right _ hroom
      have hr' := run_append_room (P := P) w t ty e i ht hi g n cap cur hg a m c news hl hnews h1 hroom hfit
      rw [hr] at hr'
      injection hr' with e1 _
      subst e1
      exact .inl rfl
    · have holds : ∀ j u, xs[j]? = some u → w.cell? ((⟨g, 0, none⟩ : Addr).add j) = some u := hown.cells (g := g) rfl
      have hr' := run_append_grow (P := P) w t ty e i z ht hi hz ⟨g, 0, none⟩ n cap xs hown.1 holds a m c news hl hnews (by omega) (by omega) (growslice_fits (by omega) hbytes)
      rw [hr] at hr'
      injection hr' with e1 _
      subst e1
      exact .inr rfl

theorem wpList_append_row {P : Program} {w : World} {ops : Array Oper} {rest : List Oper} {o : Oper} {a : Act} {Q : Exit → Act → World → Prop} (hgd : o.guard = none) (s x : Operand) (t : TypeId)
    (ho : o.op = .call { callee := .builtin .append, args := #[s, x], argTypes := #[t, t] })
    (e : TypeId) (i : TypeInfo) (z : Value) (size bytes : Nat) (ht : P.underlying t = some (.slice e)) (hi : P.info? e = some i) (hz : i.zero = some z)
    (hsize : i.size = size) (hby : i.bytes = bytes) (hzs : z.cells.size = size) (hsz : 0 < size)
    (v : Value) (n : Nat) (xs : List Value) (hs : a.eval s = v) (hown : w.ownsRow 0 e size v n xs)
    (ad : Addr) (m c : Nat) (news : List Value) (hx : a.eval x = .slice (some ad) m c) (hl : news.length = m * size) (hnews : ∀ j u, news[j]? = some u → w.cell? (ad.add j) = some u) (h1 : ∀ u ∈ news, u.oneCell' = true)
    (h63 : n + m ≤ maxLen) (hbytes : (n + m) * bytes ≤ 140737488355328) (hm : 0 < m)
    (h : ∀ g' cap' w', w'.ownsRow 0 e size (.slice (some ⟨g', 0, none⟩) (n + m) cap') (n + m) (xs ++ news) → Only v.ownBlock.toList w w' → (v.ownBlock = some g' ∨ g' = w.heap.size) → wpList P ops Q rest (a.put o.dst (.slice (some ⟨g', 0, none⟩) (n + m) cap')) w') : wpList P ops Q (o :: rest) a w := by
  refine wpList_plain hgd fun K hK => ?_
  obtain ⟨v', w', hr, h2, h3, h4, h5⟩ := run_append_row (P := P) w t o.type e i z size bytes ht hi hz hsize hby hzs hsz v n xs hown ad m c news hl hnews h1 h63 hbytes hm
  unfold Oper.wp execOp
  simp only [ho, resolve, invoke, builtin, Sem.run_bind, Sem.run_pure, Result.andThen_ok, List.map_toArray, List.map_cons, List.map_nil, hs, hx, hr]
  rcases h2.2 with ⟨h6, _⟩ | ⟨g', cap', cur, rfl, _⟩
  · exact absurd h6 h5
  · exact hK _ _ (h g' cap' w' h2 ((Only.refl _ w).grown h3 (by intro k hk; left; rw [hk]; simp)) (by rcases h4 with h4 | h4; exact .inl h4.symm; exact .inr (by simpa [Value.ownBlock] using h4)))

theorem made_flat {α : Type} (enc : α → List Value) (s : Nat) (hs : ∀ x, (enc x).length = s) (z0 : α) (za : Array Value) (hz : za.toList = enc z0) (n : Nat) : (madeCells za (n * s)).toList = (List.replicate n z0).flatMap enc := by
  have hsz : za.size = s := by rw [← Array.length_toList, hz, hs]
  apply List.ext_getElem?
  intro j
  by_cases hj : j < n * s
  · have hs0 : 0 < s := by
      rcases Nat.eq_zero_or_pos s with h | h
      · subst h; simp at hj
      · exact h
    have hq : j / s < n := Nat.div_lt_of_lt_mul (by rw [Nat.mul_comm]; exact hj)
    have hd : j = j / s * s + j % s := by rw [Nat.mul_comm]; exact (Nat.div_add_mod j s).symm
    have h1 := flat_get enc s hs (List.replicate n z0) (j / s) (j % s) z0 (by simp [hq]) (Nat.mod_lt _ hs0)
    rw [← hd] at h1
    rw [h1, ← hz]
    have hm : j % s < za.size := by rw [hsz]; exact Nat.mod_lt _ hs0
    simp only [madeCells, Array.toList_map, Array.toList_range, List.getElem?_map, List.getElem?_range hj, Option.map_some, hsz]
    rw [Array.getElem?_toList, Array.getElem?_eq_getElem hm, getElem!_pos za (j % s) hm]
  · rw [List.getElem?_eq_none (by simp [madeCells]; omega), List.getElem?_eq_none (by rw [flat_length enc s hs]; simp; omega)]

/-- `make([]T, n)`: a row of zero elements -/
theorem wpList_make_row {α : Type} (enc : α → List Value) {P : Program} {w : World} {ops : Array Oper} {rest : List Oper} {o : Oper} {a : Act} {Q : Exit → Act → World → Prop}
    (hg : o.guard = none) (l c : Operand) (t : TypeId) (hop : o.op = Op.makeSlice t l c)
    (e : TypeId) (i : TypeInfo) (z : Value) (size bytes : Nat) (h1 : P.underlying t = some (.slice e)) (h2 : P.info? e = some i) (h3 : i.zero = some z) (h4 : i.size = size) (h5 : i.bytes = bytes)
    (hs : ∀ x, (enc x).length = size) (z0 : α) (hz : z.cells.toList = enc z0)
    (kl kc : IntKind) (L C : Int) (n : Nat) (hl : a.eval l = .int kl L) (hc : a.eval c = .int kc C) (hL : L = (n : Int)) (hC : C = (n : Int)) (b2 : bytes * n ≤ 281474976710656) (b3 : n ≤ maxLen)
    (hK : ∀ w', RowAt enc e size w' w.heap.size n (List.replicate n z0) → Only [] w w' → w'.heap.size = w.heap.size + 1 → wpList P ops Q rest (a.put o.dst (.slice (some ⟨w.heap.size, 0, none⟩) n n)) w') :
    wpList P ops Q (o :: rest) a w := by
  refine wpList_plain hg fun K hK' => ?_
  subst h4
  subst h5
  have h63 : (n : Int) ≤ 9223372036854775807 := by simp only [maxLen] at b3; omega
  have hb' : (i.bytes : Int) * (n : Int) ≤ 281474976710656 := by
    have h : ((i.bytes * n : Nat) : Int) ≤ 281474976710656 := by omega
    rwa [Int.natCast_mul] at h
  have hr := run_make (P := P) w t e i z h1 h2 h3 kl kc n n (by omega) (Int.le_refl _) hb' h63
  simp only [Int.toNat_natCast] at hr
  subst hL
  subst hC
  unfold Oper.wp
  simp only [execOp, hop, hl, hc, Sem.run_bind, hr, Result.andThen_ok, Sem.run_pure, Oper.upon_value]
  refine hK' _ _ (hK _ ⟨_, alloc_new _ _, ?_, by simp, b3, ?_⟩ ((Only.refl [] w).alloc _) (by simp))
  · simp [madeCells]
  · rw [List.length_replicate, made_flat enc i.size hs z0 z.cells hz n, List.take_of_length_le (by rw [flat_length enc i.size hs]; simp)]

end
end Go.Proofs.YtikjdmbfjkbndaaGreat
