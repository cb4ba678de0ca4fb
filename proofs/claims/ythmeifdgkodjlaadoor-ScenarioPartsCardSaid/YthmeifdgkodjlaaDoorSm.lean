/- The reader of package scenario in memory. No condition. -/
import Derived.Test.YthmeifdgkodjlaaDoorSl
import Derived.RangeFuncOwn
namespace Go.Proofs.YthmeifdgkodjlaaDoor
open Go.RowKit

section
variable {α β : Type} {enc : α → List Value} {e : TypeId} {s : Nat} {enc' : β → List Value} {e' : TypeId} {s' : Nat}
theorem RowAt.ne {w : World} {g g' cap cap' : Nat} {l : List α} {l' : List β} (h : RowAt enc e s w g cap l) (h' : RowAt enc' e' s' w g' cap' l') (he : e ≠ e') : g ≠ g' := by
  rintro rfl
  obtain ⟨c, h1, _⟩ := h
  obtain ⟨c', h2, _⟩ := h'
  rw [h1] at h2
  cases h2
  exact he rfl
/-- the block of a slice's own row -/
theorem Own.block {B : Nat} {w : World} {v : Value} {l : List α} {k : Nat} (h : Own enc e s B w v l) (hk : v.ownBlock = some k) : B ≤ k ∧ ∃ cap, RowAt enc e s w k cap l := by
  rcases h with ⟨rfl, _⟩ | ⟨g, cap, rfl, h2, h3⟩
  · simp [Value.ownBlock] at hk
  · simp only [Value.ownBlock, Option.some.injEq] at hk
    subst hk
    exact ⟨h2, cap, h3⟩
theorem Own.keptS {B : Nat} {w w' : World} {v : Value} {l : List α} {S : List Nat} (h : Own enc e s B w v l) (ho : Only S w w') (hS : ∀ k ∈ S, v.ownBlock ≠ some k) : Own enc e s B w' v l := by
  rcases h with h | ⟨g, cap, rfl, h2, h3⟩
  · exact .inl h
  · exact .inr ⟨g, cap, rfl, h2, h3.kept ho (fun hm => hS g hm rfl)⟩
/-- rows of different types lie in different blocks -/
theorem Own.ne_of {B B' : Nat} {w : World} {v v' : Value} {l : List α} {l' : List β} (h : Own enc e s B w v l) (h' : Own enc' e' s' B' w v' l') (he : e ≠ e') : ∀ k ∈ v'.ownBlock.toList, v.ownBlock ≠ some k := by
  intro k hk hv
  have hk' : v'.ownBlock = some k := by simpa using hk
  obtain ⟨_, c1, h1⟩ := h.block hv
  obtain ⟨_, c2, h2⟩ := h'.block hk'
  exact h1.ne h2 he rfl
theorem Own.ne_box {B : Nat} {w : World} {v : Value} {l : List α} {b : Nat} {c : Array Value} {t : TypeId} (h : Own enc e s B w v l) (hb : w.heap[b]? = some (.cells c t (0, 0))) (he : e ≠ t) : v.ownBlock ≠ some b := by
  intro hv
  obtain ⟨_, c1, cur, h1, _⟩ := h.block hv
  rw [hb] at h1
  cases h1
  exact he rfl
/-- a store into one cell of an element -/
theorem RowAt.put1 (hs : ∀ x, (enc x).length = s) {w : World} {g cap i j : Nat} {l : List α} {x0 x : α} {u : Value} (h : RowAt enc e s w g cap l) (hi : l[i]? = some x0) (hj : j < s) (hx : enc x = (enc x0).set j u) :
    RowAt enc e s (w.setCell ⟨g, i * s + j, none⟩ u) g cap (l.set i x) := by
  obtain ⟨cur, hg, h1, h2, h3, h4⟩ := h
  have hil : i < l.length := (List.getElem?_eq_some_iff.1 hi).1
  have hrow : RowAt enc e s w g cap l := ⟨cur, hg, h1, h2, h3, h4⟩
  refine RowAt.set hs hil hrow hg (x := x) ?_
  rw [setCell_got u hg]
  congr 2
  have hlt : i * s + s ≤ l.length * s := by
    have : (i + 1) * s ≤ l.length * s := Nat.mul_le_mul_right s hil
    rw [Nat.succ_mul] at this; omega
  have hcap : l.length * s ≤ cur.size := by rw [h1]; exact Nat.mul_le_mul_right s h2
  have hat : ∀ q, q < s → cur.toList[i * s + q]? = (enc x0)[q]? := fun q hq => by
    rw [← flat_get enc s hs l i q x0 hi hq, ← h4, List.getElem?_take, if_pos (by omega)]
  apply Array.ext'
  apply List.ext_getElem?
  intro m
  rw [Array.toList_setIfInBounds, hx]
  have hlx : ((enc x0).set j u).length = s := by rw [List.length_set, hs]
  have hcl : cur.toList.length = cur.size := Array.length_toList
  by_cases hm : m < i * s
  · rw [List.getElem?_set_ne (by omega), List.append_assoc, List.getElem?_append_left (by rw [List.length_take]; omega), List.getElem?_take, if_pos hm]
  · by_cases hm2 : m < i * s + s
    · obtain ⟨q, rfl⟩ : ∃ q, m = i * s + q := ⟨m - i * s, by omega⟩
      have hq : q < s := by omega
      rw [List.append_assoc, List.getElem?_append_right (by rw [List.length_take]; omega), List.length_take, Nat.min_eq_left (by omega), show i * s + q - i * s = q by omega, List.getElem?_append_left (by omega)]
      by_cases hqj : q = j
      · subst hqj
        rw [List.getElem?_set_self (by omega), List.getElem?_set_self (by rw [hs]; exact hq)]
      · rw [List.getElem?_set_ne (by omega), List.getElem?_set_ne (by omega), hat q hq]
    · rw [List.getElem?_set_ne (by omega), List.getElem?_append_right (by simp only [List.length_append, List.length_take]; omega)]
      simp only [List.length_append, List.length_take, hlx]
      rw [Nat.min_eq_left (by omega), List.getElem?_drop]
      congr 1; omega
end
/-- what the reader's cell and the rows behind it hold -/
structure RdW (B b : Nat) (w : World) (x : SSt) (ns : List NdW) (ls : List LkW) (vn vl vf : Value) : Prop where
  box : w.heap[b]? = some (.cells #[vn, vl, vf, .int .i64 x.sc.un, .int .u64 x.sc.sd, .int .i64 x.at_] 81 (0, 0))
  hn : x.sc.nd = ns.map NdW.n
  hl : x.sc.lk = ls.map LkW.l
  nd : Own ndC 44 7 B w vn ns
  lk : Own lkC 55 9 B w vl ls
  ft : Own ftC 73 5 B w vf x.sc.ft
  sg : ∀ y ∈ ns, Own sgC 92 2 B w (.slice y.ps y.n.sg.length y.cs) y.n.sg
  sv : ∀ y ∈ ns, Own itC 3 1 B w (.slice y.pv y.n.sv.length y.cv) y.n.sv
  ch : ∀ y ∈ ls, Own chC 95 3 B w (.slice y.p y.l.ch.length y.c) y.l.ch
  apN : ∀ r y, ns = r ++ [y] → ∀ z ∈ r, (z.ps ≠ y.ps ∨ y.ps = none) ∧ (z.pv ≠ y.pv ∨ y.pv = none)
  apL : ∀ r y, ls = r ++ [y] → ∀ z ∈ r, z.p ≠ y.p ∨ y.p = none
/-- two worlds: one of which all blocks but the reader's lie as they lay, one of which whatever is no cells does -/
structure Two where
  wo : World
  vo : World
def Two.heap (t : Two) : Array Obj := t.wo.heap
theorem ko_nil {w w' : World} (h : Only [] w w') : KeepsOthers w w' := ⟨h.size, fun _ _ hk _ => h.got hk (by simp)⟩
/-- since the worlds `W0` the reader's block `b` alone has changed, and rows of its own -/
structure Ob (b : Nat) (W0 : Two) (w : World) : Prop where
  only : Only [b] W0.wo w
  keep : KeepsOthers W0.vo w
theorem Ob.size {b : Nat} {W0 : Two} {w : World} (h : Ob b W0 w) : W0.heap.size ≤ w.heap.size := h.only.size
theorem Ob.nil_trans {b : Nat} {W0 : Two} {w w' : World} (h : Ob b W0 w) (k : Only [] w w') : Ob b W0 w' := ⟨h.only.nil_trans k, h.keep.trans (ko_nil k)⟩
theorem Ob.setCell {b : Nat} {W0 : Two} {w : World} (h : Ob b W0 w) {p : Addr} (hp : p.block ∈ [b] ∨ W0.heap.size ≤ p.block) (u : Value) : Ob b W0 (w.setCell p u) := ⟨h.only.setCell hp u, h.keep.trans (KeepsOthers.setCell _ _ _)⟩
theorem Ob.row {b : Nat} {W0 : Two} {w w' : World} {S : List Nat} (h : Ob b W0 w) (k : Only S w w') (hs : ∀ x ∈ S, W0.heap.size ≤ x ∧ ∃ c t, w.heap[x]? = some (.cells c t (0, 0))) : Ob b W0 w' :=
  ⟨h.only.trans k (fun x hx => .inr (hs x hx).1), h.keep.trans ⟨k.size, fun x o hx ho => k.got hx (fun hm => by
    obtain ⟨_, c, t, hc⟩ := hs x hm
    rw [hx] at hc
    cases hc
    cases ho)⟩⟩
theorem Own.blockC {α : Type} {enc : α → List Value} {e : TypeId} {s B : Nat} {w : World} {v : Value} {l : List α} {k : Nat} (h : Own enc e s B w v l) (hk : v.ownBlock = some k) : B ≤ k ∧ ∃ c t, w.heap[k]? = some (.cells c t (0, 0)) := by
  obtain ⟨h1, cap, cur, h2, _⟩ := h.block hk
  exact ⟨h1, cur, _, h2⟩
/-- the reader's block is `b`; all else that has changed since the world `W0` is new -/
def RdX (W0 : Two) (b : Nat) (w : World) (x : SSt) : Prop := b < W0.heap.size ∧ Ob b W0 w ∧ ∃ ns ls vn vl vf, RdW W0.heap.size b w x ns ls vn vl vf
/-- what a method of the reader returns -/
def RdR (W0 : Two) (b : Nat) (r : Option SSt) (e : Ending) (w : World) : Prop := match r with
  | none => e = .returned (.bool false) ∧ Ob b W0 w
  | some y => e = .returned (.bool true) ∧ RdX W0 b w y
theorem RdW.kept {B b : Nat} {w w' : World} {x : SSt} {ns : List NdW} {ls : List LkW} {vn vl vf : Value} (h : RdW B b w x ns ls vn vl vf) (ho : Only [] w w') : RdW B b w' x ns ls vn vl vf :=
  ⟨ho.got h.box (by simp), h.hn, h.hl, h.nd.kept ho, h.lk.kept ho, h.ft.kept ho, fun y hy => (h.sg y hy).kept ho, fun y hy => (h.sv y hy).kept ho, fun y hy => (h.ch y hy).kept ho, h.apN, h.apL⟩
theorem RdX.kept {W0 : Two} {b : Nat} {w w' : World} {x : SSt} (h : RdX W0 b w x) (ho : Only [] w w') : RdX W0 b w' x := by
  obtain ⟨h0, h1, ns, ls, vn, vl, vf, h2⟩ := h
  exact ⟨h0, h1.nil_trans ho, ns, ls, vn, vl, vf, h2.kept ho⟩
theorem own_setB {α : Type} {enc : α → List Value} {e : TypeId} {s B b : Nat} {w w' : World} {v : Value} {l : List α} {c : Array Value} {t : TypeId} (h : Own enc e s B w v l) (hb : w.heap[b]? = some (.cells c t (0, 0))) (he : e ≠ t) (ho : Only [b] w w') : Own enc e s B w' v l :=
  h.keptS ho (fun k hk => by rw [List.mem_singleton] at hk; rw [hk]; exact h.ne_box hb he)
/-- the reader's cell is written: its numbers change -/
theorem RdW.cell {B b : Nat} {w w' : World} {x x' : SSt} {ns : List NdW} {ls : List LkW} {vn vl vf : Value} (h : RdW B b w x ns ls vn vl vf) (ho : Only [b] w w')
    (hb : w'.heap[b]? = some (.cells #[vn, vl, vf, .int .i64 x'.sc.un, .int .u64 x'.sc.sd, .int .i64 x'.at_] 81 (0, 0))) (h1 : x'.sc.nd = x.sc.nd) (h2 : x'.sc.lk = x.sc.lk) (h3 : x'.sc.ft = x.sc.ft) : RdW B b w' x' ns ls vn vl vf :=
  ⟨hb, by rw [h1, h.hn], by rw [h2, h.hl], own_setB h.nd h.box (by decide) ho, own_setB h.lk h.box (by decide) ho, by rw [h3]; exact own_setB h.ft h.box (by decide) ho,
    fun y hy => own_setB (h.sg y hy) h.box (by decide) ho, fun y hy => own_setB (h.sv y hy) h.box (by decide) ho, fun y hy => own_setB (h.ch y hy) h.box (by decide) ho, h.apN, h.apL⟩
end Go.Proofs.YthmeifdgkodjlaaDoor
