/- General lemmas on worlds and on regions that draw their order. No condition. -/
import Derived.Test.YtikjdmbfjkbndaaGreatRows
import Derived.WalkKit
import Derived.WalkSpells
import Derived.WalkLawsBesides
import Derived.Deep.Quiet
import Derived.Deep.QuietTactic
import Derived.BigQuiet
import Derived.Lib.Hide
namespace Go.Proofs.YtikjdmbfjkbndaaGreat
open Go.RowKit

/-! ### worlds that have grown -/

/-- new blocks, and a count of draws -/
structure Grow where
  bs : Array Obj
  d : Nat

@[go_sem] theorem forall_grow (p : Prop) : (∀ _ : Grow, p) ↔ p := ⟨fun h => h ⟨#[], 0⟩, fun h _ => h⟩

/-- `w` with new blocks behind its own and another count of draws -/
def plus (w : World) (x : Grow) : World := { w with heap := w.heap ++ x.bs, drawn := x.d }

@[go_sem] theorem plus_size (w : World) (x : Grow) : (plus w x).heap.size = w.heap.size + x.bs.size := by
  simp [plus]
theorem plus_block (w : World) (x : Grow) (b : Nat) (h : b < w.heap.size) : (plus w x).heap[b]? = w.heap[b]? := by
  simp [plus, Array.getElem?_append, h]
@[go_sem] theorem plus_cell (w : World) (x : Grow) (b o : Nat) (s : Option Nat) (h : b < w.heap.size) :
    (plus w x).cell? ⟨b, o, s⟩ = w.cell? ⟨b, o, s⟩ := World.cell?_of_block (plus_block w x b h)
@[go_sem] theorem plus_frozen (w : World) (x : Grow) (b o : Nat) (s : Option Nat) (h : b < w.heap.size) :
    (plus w x).frozen? ⟨b, o, s⟩ = w.frozen? ⟨b, o, s⟩ := World.frozen?_of_block (plus_block w x b h)
@[go_sem] theorem plus_plus (w : World) (x y : Grow) : plus (plus w x) y = plus w ⟨x.bs ++ y.bs, y.d⟩ := by
  simp [plus, Array.append_assoc]
@[go_sem] theorem plus_drew (w : World) (x : Grow) : (plus w x).drew = plus w ⟨x.bs, x.d + 1⟩ := rfl
theorem plus_self (w : World) : plus w ⟨#[], w.drawn⟩ = w := by simp [plus]
theorem drew_plus (w : World) : w.drew = plus w ⟨#[], w.drawn + 1⟩ := by
  unfold World.drew plus
  rw [Array.append_empty]
theorem plus_below (w : World) (x : Grow) : Below w.heap.size w (plus w x) :=
  ⟨rfl, rfl, rfl, by simp [plus], fun k hk => plus_block w x k hk⟩
theorem below_plus {w w' : World} (h : Below w.heap.size w w') : ∃ x, w' = plus w x := by
  refine ⟨⟨w'.heap.extract w.heap.size w'.heap.size, w'.drawn⟩, ?_⟩
  obtain ⟨h1, h2, h3, h4, h5⟩ := h
  cases w'; cases w
  simp only at h1 h2 h3 h4 h5
  subst h1 h2 h3
  simp only [plus, World.mk.injEq, and_true]
  apply Array.ext_getElem?
  intro i
  rw [Array.getElem?_append]
  split
  · rename_i hi
    exact h5 i hi
  · rename_i hi
    rename_i h1 _ _ _
    rw [Array.getElem?_extract]
    split
    · congr 1; omega
    · rw [Array.getElem?_eq_none]; omega
theorem below_iff_plus {w w' : World} : Below w.heap.size w w' ↔ ∃ x, w' = plus w x :=
  ⟨below_plus, fun ⟨_, h⟩ => h ▸ plus_below _ _⟩

/-- a callee that makes memory, met in a world that has grown -/
theorem Calls.plus_of {P : Program} {f : FuncId} {args : Array Value} {w : World} {x : Grow} {v : Value}
    (h : Calls P f args (plus w x) fun e w' => e = .returned v ∧ Below (plus w x).heap.size (plus w x) w') :
    Calls P f args (plus w x) fun e w'' => e = .returned v ∧ ∃ x, w'' = plus w x :=
  h.mono fun _ _ ⟨he, hb⟩ => ⟨he, by
    obtain ⟨y, rfl⟩ := below_plus hb
    exact ⟨_, plus_plus w x y⟩⟩

/-! ### only some blocks have changed -/

/-- Of the blocks of `w` only those of `S` may have changed. -/
structure Only (S : List Nat) (w w' : World) : Prop where
  os : w'.os = w.os
  tape : w'.tape = w.tape
  output : w'.output = w.output
  size : w.heap.size ≤ w'.heap.size
  block : ∀ k, k < w.heap.size → k ∉ S → w'.heap[k]? = w.heap[k]?

theorem Only.refl (S : List Nat) (w : World) : Only S w w := ⟨rfl, rfl, rfl, Nat.le_refl _, fun _ _ _ => rfl⟩
theorem Only.trans {S S' : List Nat} {a b c : World} (h : Only S a b) (k : Only S' b c) (hs : ∀ x ∈ S', x ∈ S ∨ a.heap.size ≤ x) : Only S a c :=
  ⟨k.os.trans h.os, k.tape.trans h.tape, k.output.trans h.output, Nat.le_trans h.size k.size, fun i hi hn =>
    (k.block i (Nat.lt_of_lt_of_le hi h.size) (fun hm => by rcases hs i hm with h' | h'; exact hn h'; omega)).trans (h.block i hi hn)⟩
theorem Only.mono {S S' : List Nat} {a b : World} (h : Only S a b) (hs : ∀ x ∈ S, x ∈ S' ∨ a.heap.size ≤ x) : Only S' a b :=
  ⟨h.os, h.tape, h.output, h.size, fun i hi hn => h.block i hi (fun hm => by rcases hs i hm with h' | h'; exact hn h'; omega)⟩
theorem Only.of_below {B : Nat} {w w' : World} (h : Below B w w') (hB : w.heap.size ≤ B) (S : List Nat) : Only S w w' :=
  ⟨h.os, h.tape, h.output, h.size, fun k hk _ => h.block k (by omega)⟩
theorem Only.below {S : List Nat} {B : Nat} {w w' : World} (h : Only S w w') (hB : B ≤ w.heap.size) (hS : ∀ x ∈ S, B ≤ x) : Below B w w' :=
  ⟨h.os, h.tape, h.output, h.size, fun k hk => h.block k (by omega) (fun hm => by have := hS k hm; omega)⟩
theorem Only.alloc {S : List Nat} {a w : World} (h : Only S a w) (o : Obj) : Only S a (w.alloc o) :=
  h.trans (S' := []) ⟨rfl, rfl, rfl, by simp, fun k hk _ => Below.heap_alloc _ _ _ hk⟩ (by simp)
theorem Only.setCell {S : List Nat} {a w : World} (h : Only S a w) {p : Addr} (hp : p.block ∈ S ∨ a.heap.size ≤ p.block) (u : Value) : Only S a (w.setCell p u) :=
  h.trans (S' := [p.block]) ⟨rfl, rfl, rfl, by simp [World.setCell], fun k _ hn => Below.heap_setCell _ _ _ _ (by simpa using hn)⟩ (by simpa using hp)
theorem Only.drew {S : List Nat} {a w : World} (h : Only S a w) : Only S a w.drew := ⟨h.os, h.tape, h.output, h.size, h.block⟩
theorem Only.plus {S : List Nat} {a w : World} (h : Only S a w) (x : Grow) : Only S a (plus w x) :=
  h.trans (Only.of_below (plus_below w x) (Nat.le_refl _) []) (by simp)
theorem Only.grown {S : List Nat} {a w w' : World} {row : Option Nat} (h : Only S a w) (hg : w.grownBy w' row) (hr : ∀ k, row = some k → k ∈ S ∨ a.heap.size ≤ k) : Only S a w' :=
  h.trans (S' := row.toList) ⟨hg.os, hg.tape, hg.output, hg.size, fun k hk hn => hg.block k hk (fun e => hn (by rw [← e]; simp))⟩ (fun x hx => hr x (by simpa using hx))
theorem Only.cell {S : List Nat} {w w' : World} (h : Only S w w') {b o : Nat} {s : Option Nat} (hb : b < w.heap.size) (hn : b ∉ S) : w'.cell? ⟨b, o, s⟩ = w.cell? ⟨b, o, s⟩ :=
  World.cell?_of_block (h.block b hb hn)
theorem Only.frozen {S : List Nat} {w w' : World} (h : Only S w w') {b o : Nat} {s : Option Nat} (hb : b < w.heap.size) (hn : b ∉ S) : w'.frozen? ⟨b, o, s⟩ = w.frozen? ⟨b, o, s⟩ :=
  World.frozen?_of_block (h.block b hb hn)
theorem Only.got {S : List Nat} {w w' : World} (h : Only S w w') {b : Nat} {o : Obj} (hb : w.heap[b]? = some o) (hn : b ∉ S) : w'.heap[b]? = some o := by
  rw [h.block b (Array.getElem?_eq_some_iff.1 hb).1 hn]; exact hb
theorem got_lt {w : World} {b : Nat} {o : Obj} (h : w.heap[b]? = some o) : b < w.heap.size := (Array.getElem?_eq_some_iff.1 h).1
theorem cell_got {w : World} {b : Nat} {c : Array Value} {t : TypeId} {z : Nat × Nat} (h : w.heap[b]? = some (.cells c t z)) (o : Nat) : w.cell? ⟨b, o, none⟩ = c[o]? := by
  simp [World.cell?, h]
theorem frozen_got {w : World} {b : Nat} {c : Array Value} {t : TypeId} (h : w.heap[b]? = some (.cells c t (0, 0))) (o : Nat) : w.frozen? ⟨b, o, none⟩ = false := by
  simp [World.frozen?, h]

/-- the worlds that differ from `w` in the blocks of `S` and in new ones alone -/
structure OnlyW (S : List Nat) (w : World) where
  val : World
  ok : Only S w val
@[go_sem] theorem forall_onlyW (S : List Nat) (w : World) (p : Prop) : (∀ _ : OnlyW S w, p) ↔ p := ⟨fun h => h ⟨w, Only.refl S w⟩, fun h _ => h⟩
@[go_sem] theorem OnlyW.cell {S : List Nat} {w : World} (y : OnlyW S w) (b o : Nat) (s : Option Nat) (hb : b < w.heap.size) (hn : b ∉ S) : y.val.cell? ⟨b, o, s⟩ = w.cell? ⟨b, o, s⟩ := y.ok.cell hb hn
@[go_sem] theorem OnlyW.frozen {S : List Nat} {w : World} (y : OnlyW S w) (b o : Nat) (s : Option Nat) (hb : b < w.heap.size) (hn : b ∉ S) : y.val.frozen? ⟨b, o, s⟩ = w.frozen? ⟨b, o, s⟩ := y.ok.frozen hb hn
/-- the class of these worlds -/
abbrev OnlyC (S : List Nat) (w : World) : World → Prop := fun w' => ∃ y : OnlyW S w, w' = y.val
theorem onlyC {S : List Nat} {w w' : World} (h : Only S w w') : OnlyC S w w' := ⟨⟨w', h⟩, rfl⟩
theorem only_of_C {S : List Nat} {w w' : World} (h : OnlyC S w w') : Only S w w' := by obtain ⟨y, rfl⟩ := h; exact y.ok

theorem alloc_abs {G : World → Prop} {w : World} {o : Obj} (h : ∀ w0, w0.heap[w.heap.size]? = some o → Only [] w w0 → w0.heap.size = w.heap.size + 1 → G w0) : G (w.alloc o) :=
  h _ (by show (w.heap.push o)[w.heap.size]? = _; simp) ((Only.refl [] w).alloc o) (by simp)
/-- go on with a world of which only `R` is known -/
theorem wabs {G : World → Prop} {W : World} (R : World → Prop) (hR : R W) (h : ∀ w0, R w0 → G w0) : G W := h _ hR
theorem alloc_old {w : World} {o o' : Obj} {b : Nat} (h : w.heap[b]? = some o) : (w.alloc o').heap[b]? = some o := by
  rw [Below.heap_alloc _ _ _ (got_lt h)]; exact h
theorem alloc_new (w : World) (o : Obj) : (w.alloc o).heap[w.heap.size]? = some o := by
  show (w.heap.push o)[w.heap.size]? = _
  simp
theorem size_setCell (w : World) (a : Addr) (v : Value) : (w.setCell a v).heap.size = w.heap.size := by simp [World.setCell]
theorem allocd_abs {G : World → Prop} {w : World} {o : Obj} (h : ∀ w0, w0.heap[w.heap.size]? = some o → Only [] w w0 → w0.heap.size = w.heap.size + 1 → G w0) : G (w.alloc o).drew :=
  h _ (by show (w.heap.push o)[w.heap.size]? = _; simp) ((Only.refl [] w).alloc o).drew (by simp)
theorem setCell_got {w : World} {b o : Nat} {c : Array Value} {t : TypeId} {z : Nat × Nat} (v : Value) (h : w.heap[b]? = some (.cells c t z)) : (w.setCell ⟨b, o, none⟩ v).heap[b]? = some (.cells (c.setIfInBounds o v) t z) := by
  have hb := got_lt h
  simp only [World.setCell, Array.getElem?_modify, if_true, h, Option.map_some]
  simp
theorem two_new_first (w : World) (o1 o2 : Obj) : ((w.alloc o1).alloc o2).drew.heap[w.heap.size]? = some o1 := by
  show ((w.heap.push o1).push o2)[w.heap.size]? = _
  simp [Array.getElem?_push]
theorem two_new_second (w : World) (o1 o2 : Obj) : ((w.alloc o1).alloc o2).drew.heap[w.heap.size + 1]? = some o2 := by
  show ((w.heap.push o1).push o2)[w.heap.size + 1]? = _
  rw [Array.getElem?_push, if_pos (by simp)]
theorem only_of_plus {w w1 : World} (h : ∃ x, w1 = plus w x) : Only [] w w1 := by
  obtain ⟨x, rfl⟩ := h; exact (Only.refl [] w).plus x
theorem only_of_below {w w' : World} (h : Below w.heap.size w w') : Only [] w w' := Only.of_below h (Nat.le_refl _) []
theorem Only.nil_below {w w' : World} (h : Only [] w w') : Below w.heap.size w w' := h.below (Nat.le_refl _) (by simp)
theorem Only.nil_trans {S : List Nat} {a b c : World} (h : Only S a b) (k : Only [] b c) : Only S a c := h.trans k (by simp)
theorem Only.nil_left {S : List Nat} {a b c : World} (h : Only [] a b) (k : Only S b c) : Only S a c := (h.mono (S' := S) (by simp)).trans k (fun _ h => .inl h)
theorem Only.weak {S S' : List Nat} {a b : World} (h : Only S a b) (hs : ∀ x ∈ S, x ∈ S') : Only S' a b := h.mono (fun x hx => .inl (hs x hx))

/-! ### a region that draws its order: some operations are quiet in a class of worlds, in whatever order; the others come after all of them, one by one -/
section
variable {P : Program} {ops : Array Oper} {md : Region.Mode} {C : World → Prop}

theorem getD_both {listed : Array Bool} {i : Nat} (h : listed.getD i true = false) : listed.getD i false = false := by
  rcases Nat.lt_or_ge i listed.size with h' | h'
  · simp [h'] at h ⊢; exact h
  · simp [Array.getElem?_eq_none h'] at h
theorem getD_replicate_false (m j : Nat) : (Array.replicate m false).getD j false = false := by
  rcases Nat.lt_or_ge j m with h | h
  · simp [h]
  · simp [h]

/-- operation `j` waits for operation `i`, perhaps through others -/
def needs (md : Region.Mode) (ops : Array Oper) : Nat → Nat → Nat → Bool
  | 0, _, _ => false
  | f + 1, j, i => match ops[j]? with
    | some oj => oj.after.any fun e => Region.binds md e && (e.on == i || needs md ops f e.on i)
    | none => false

theorem needs_listed {listed : Array Bool} (hc : ∀ j oj, ops[j]? = some oj → listed.getD j false = true → ∀ e ∈ oj.after, Region.binds md e = true → listed.getD e.on false = true) {i : Nat} :
    ∀ (f j : Nat) (oj : Oper), ops[j]? = some oj → (∀ e ∈ oj.after, Region.binds md e = true → listed.getD e.on false = true) → needs md ops f j i = true → listed.getD i false = true
  | 0, _, _, _, _, h => by simp [needs] at h
  | f + 1, j, oj, hj, hall, h => by
    simp only [needs, hj] at h
    obtain ⟨e, he, hb⟩ := Array.any_eq_true'.1 h
    simp only [Bool.and_eq_true, Bool.or_eq_true, beq_iff_eq] at hb
    obtain ⟨hbe, h' | h'⟩ := hb
    · subst h'; exact hall e he hbe
    · have hl := hall e he hbe
      cases ho : ops[e.on]? with
      | none =>
        cases f with
        | zero => simp [needs] at h'
        | succ f => simp [needs, ho] at h'
      | some o => exact needs_listed hc f e.on o ho (hc e.on o ho hl) h'

structure HInv (md : Region.Mode) (ops : Array Oper) (tl : List Nat) (listed : Array Bool) : Prop where
  size : listed.size = ops.size
  closed : ∀ j oj, ops[j]? = some oj → listed.getD j false = true → ∀ e ∈ oj.after, Region.binds md e = true → listed.getD e.on false = true

theorem HInv.set {tl : List Nat} {i : Nat} {listed : Array Bool} (inv : HInv md ops tl listed) (hi : i ∈ Region.ready md ops listed) : HInv md ops tl (listed.setIfInBounds i true) := by
  obtain ⟨_, oi, hoi, hall⟩ := mem_ready.1 hi
  refine ⟨by simp [inv.size], fun j oj hj hl e he hb => ?_⟩
  by_cases hij : i = j
  · subst hij
    have : oj = oi := Option.some.inj (hj.symm.trans hoi)
    subst this
    exact getD_set_true (hall e he hb)
  · rw [getD_set_ne false hij] at hl
    exact getD_set_true (inv.closed j oj hj hl e he hb)

/-- every operation of the tail waits for each of the head -/
def headTail (md : Region.Mode) (ops : Array Oper) (hd tl : List Nat) : Bool := tl.all fun t => hd.all fun i => needs md ops ops.size t i

theorem tail_not_ready {hd tl : List Nat} {listed : Array Bool} (hB : headTail md ops hd tl = true) (inv : HInv md ops tl listed) {i : Nat} (hi : i ∈ hd) (hun : listed.getD i true = false) {t : Nat} (ht : t ∈ tl) : t ∉ Region.ready md ops listed := by
  intro hr
  obtain ⟨_, ot, hot, hall⟩ := mem_ready.1 hr
  have h1 := List.all_eq_true.1 (List.all_eq_true.1 hB t ht) i hi
  have := needs_listed inv.closed _ t ot hot hall h1
  rw [getD_both hun] at this
  cases this

def wpAnyH (P : Program) (md : Region.Mode) (ops : Array Oper) (C : World → Prop) (tl : List Nat) (L : Array Bool → Act → Prop) : Nat → Array Bool → Act → Prop
  | 0, listed, a => L listed a
  | f + 1, listed, a =>
    Region.ready md ops listed ≠ [] ∧ ∀ i ∈ Region.ready md ops listed, i ∉ tl ∧ qOp P ops C i (wpAnyH P md ops C tl L f (listed.setIfInBounds i true)) a

theorem wpAny_of_wpAnyH {tl : List Nat} {g : Nat} {L : Array Bool → Act → Prop} {Q' : Exit → Act → World → Prop} (hL : ∀ listed a w, C w → L listed a → wpAny P md ops Q' g listed a w) :
    ∀ (f : Nat) (listed : Array Bool) (a : Act) (w : World), C w → wpAnyH P md ops C tl L f listed a → wpAny P md ops Q' (f + g) listed a w
  | 0, listed, a, w, hw, h => by rw [Nat.zero_add]; exact hL _ _ _ hw h
  | f + 1, listed, a, w, hw, h => by
    rw [show f + 1 + g = (f + g) + 1 by omega]
    exact ⟨fun h0 => absurd h0 h.1, fun i hi => wpOp_of_qOp hw (fun a' w' hw' h' => wpAny_of_wpAnyH hL f _ a' w' hw' h') (h.2 i hi).2⟩

theorem wpAnyH_first {hd tl : List Nat} {i : Nat} {oi : Oper} {v : Value} {L : Array Bool → Act → Prop} (hi : ops[i]? = some oi) (hsel : ∀ (j : Nat) (o : Oper) cs b, ops[j]? = some o → o.op ≠ .select cs b)
    (hB : headTail md ops hd tl = true) (hin : i ∈ hd)
    (hdone : ∀ listed a, L listed a → ∀ j ∈ Region.ready md ops listed, j ∈ tl) :
    ∀ (f : Nat) (listed : Array Bool) (a : Act), HInv md ops tl listed →
      (∀ j oj, ops[j]? = some oj → j ≠ i → listed.getD j true = false → (∀ e ∈ oj.after, Region.binds md e = true → e.on ≠ i) → oi.apart ops oj = true) →
      i ∈ Region.ready md ops listed → YieldsIn P ops C oi v a →
      wpAnyH P md ops C tl L f (listed.setIfInBounds i true) (a.put oi.dst v) → wpAnyH P md ops C tl L (f + 1) listed a := by
  intro f
  induction f with
  | zero =>
    intro listed a inv _ hr hy H
    have hun := (mem_ready.1 hr).1
    refine ⟨fun h => (by rw [h] at hr; cases hr), fun j hj => ?_⟩
    have hjn : j ∉ tl := fun ht => tail_not_ready hB inv hin hun ht hj
    refine ⟨hjn, ?_⟩
    by_cases hji : j = i
    · subst hji; exact hy.qOp hi H
    · exact absurd (hdone _ _ H j (ready_mono hj hji)) hjn
  | succ f ih =>
    intro listed a inv hfree hr hy H
    have hun := (mem_ready.1 hr).1
    refine ⟨fun h => (by rw [h] at hr; cases hr), fun j hj => ?_⟩
    have hjn : j ∉ tl := fun ht => tail_not_ready hB inv hin hun ht hj
    refine ⟨hjn, ?_⟩
    by_cases hji : j = i
    · subst hji; exact hy.qOp hi H
    · have h1 := (H.2 j (ready_mono hj hji)).2
      obtain ⟨hjun, oj, hoj, hall⟩ := mem_ready.1 hj
      have hnot : ∀ e ∈ oj.after, Region.binds md e = true → e.on ≠ i := fun e he hb heq => by
        have h1 := hall e he hb
        rw [heq, getD_both hun] at h1
        cases h1
      have h2 := qOp_put hoj (hfree j oj hoj hji hjun hnot) (fun cs b => hsel i oi cs b hi) (fun cs b => hsel j oj cs b hoj) hy h1
      have hfree' : ∀ k ok, ops[k]? = some ok → k ≠ i → (listed.setIfInBounds j true).getD k true = false →
          (∀ e ∈ ok.after, Region.binds md e = true → e.on ≠ i) → oi.apart ops ok = true := fun k ok hk hki hun hno => by
        refine hfree k ok hk hki ?_ hno
        by_cases hjk : j = k
        · subst hjk; exact hjun
        · rw [getD_set_ne true hjk] at hun; exact hun
      refine qOp_mono (fun a' h3 => ih (listed.setIfInBounds j true) a' (inv.set hj) hfree' (ready_mono hr (Ne.symm hji)) h3.1 ?_) h2
      rw [Array.setIfInBounds_comm _ _ hji]
      exact h3.2

def seqL (md : Region.Mode) (ops : Array Oper) : List Nat → Array Bool → Bool
  | [], listed => (Region.ready md ops listed).isEmpty
  | k :: tl, listed => decide (Region.ready md ops listed = [k]) && seqL md ops tl (listed.setIfInBounds k true)

theorem wpAny_of_seqL {Q' : Exit → Act → World → Prop} : ∀ (tl : List Nat) (l : List Oper) (listed : Array Bool) (a : Act) (w : World), (l.map some = tl.map (fun i => ops[i]?)) →
    seqL md ops tl listed = true → wpList P ops Q' l a w → wpAny P md ops Q' tl.length listed a w
  | [], [], _, _, _, _, hB, h => ⟨by simpa [seqL] using hB, h⟩
  | [], _ :: _, _, _, _, hl, _, _ => by simp at hl
  | _ :: _, [], _, _, _, hl, _, _ => by simp at hl
  | k :: tl, o :: l, listed, a, w, hl, hB, h => by
    simp only [List.map_cons, List.cons.injEq] at hl
    obtain ⟨h0, hl⟩ := hl
    simp only [seqL, Bool.and_eq_true, decide_eq_true_eq] at hB
    refine ⟨fun h1 => (by rw [hB.1] at h1; cases h1), fun i hi => ?_⟩
    rw [hB.1] at hi
    have hik : i = k := by simpa using hi
    subst hik
    have hw : wpOp P ops Q' i (wpList P ops Q' l) a w := by unfold wpOp; simp only [← h0]; exact h
    exact wpOp_mono (fun a' w' h' => wpAny_of_seqL tl l _ a' w' hl hB.2 h') hw

def headL (md : Region.Mode) (ops : Array Oper) (tl : List Nat) : List Nat → Array Bool → Bool
  | [], listed => seqL md ops tl listed
  | k :: hd, listed => (Region.ready md ops listed).contains k && Region.free md ops listed k && headL md ops tl hd (listed.setIfInBounds k true)

theorem seqL_ready {tl : List Nat} {listed : Array Bool} (h : seqL md ops tl listed = true) : ∀ j ∈ Region.ready md ops listed, j ∈ tl := by
  cases tl with
  | nil => intro j hj; simp only [seqL, List.isEmpty_iff] at h; rw [h] at hj; cases hj
  | cons k tl =>
    intro j hj
    simp only [seqL, Bool.and_eq_true, decide_eq_true_eq] at h
    rw [h.1] at hj
    have : j = k := by simpa using hj
    simp [this]

theorem wpAnyH_lex {hd0 tl : List Nat} {Lq : Act → Prop} (hsel : Region.noSelect ops = true) (hB : headTail md ops hd0 tl = true) :
    ∀ (hd : List Nat) (l : List Oper) (listed : Array Bool) (a : Act), (l.map some = hd.map (fun i => ops[i]?)) → (∀ i ∈ hd, i ∈ hd0) → HInv md ops tl listed →
    headL md ops tl hd listed = true → wpQuiet P ops C Lq l a →
    wpAnyH P md ops C tl (fun listed' a' => seqL md ops tl listed' = true ∧ Lq a') hd.length listed a
  | [], [], listed, a, _, _, _, hH, h => ⟨by simpa [headL] using hH, h⟩
  | [], _ :: _, _, _, hl, _, _, _, _ => by simp at hl
  | _ :: _, [], _, _, hl, _, _, _, _ => by simp at hl
  | k :: hd, o :: l, listed, a, hl, hm, inv, hH, h => by
    simp only [List.map_cons, List.cons.injEq] at hl
    obtain ⟨h0, hl⟩ := hl
    simp only [headL, Bool.and_eq_true] at hH
    obtain ⟨⟨hr, hf⟩, hH'⟩ := hH
    have hr' : k ∈ Region.ready md ops listed := by simpa using hr
    have hst : qOp P ops C k (wpQuiet P ops C Lq l) a := by unfold qOp; simp only [← h0]; exact h
    obtain ⟨v, hy, hK⟩ := yieldsIn_of_qOp h0.symm hst
    exact wpAnyH_first h0.symm (Region.noSelect_spec hsel) hB (hm k (by simp)) (fun listed' a' hL => seqL_ready hL.1) hd.length listed a inv (Region.free_spec h0.symm hf) hr' hy
      (wpAnyH_lex hsel hB hd l _ _ hl (fun i hi => hm i (by simp [hi])) (inv.set hr') hH' hK)

/-- the Bool over a region: the head's operations `hd` in this order, then those of the tail `tl` -/
def headTailB (ops : Array Oper) (hd tl : List Nat) : Bool :=
  Region.noSelect ops && headTail .any ops hd tl && headL .any ops tl hd (Array.replicate ops.size false) && decide (hd.length + tl.length = ops.size)

theorem wp_region_head {id : Nat} {Q : Exit → Act → World → Prop} {a : Act} {w : World} {l : List Oper} (hd tl : List Nat) (lh lt : List Oper) (hm : P.follows .mixedOrders = true) (hB : headTailB l.toArray hd tl = true)
    (hlh : lh.map some = hd.map (fun i => l.toArray[i]?)) (hlt : lt.map some = tl.map (fun i => l.toArray[i]?))
    (hC : C { w with drawn := w.drawn + 1 })
    (h : wpQuiet P l.toArray C (fun a' => ∀ w', C w' → wpList P l.toArray Q lt a' w') lh a) : (Code.region id l.toArray true).wp P Q a w := by
  simp only [headTailB, Bool.and_eq_true, decide_eq_true_eq] at hB
  obtain ⟨⟨⟨hsel, hht⟩, hH⟩, hlen⟩ := hB
  have inv0 : HInv .any l.toArray tl (Array.replicate l.toArray.size false) :=
    ⟨by simp, fun j oj _ hl => (by rw [getD_replicate_false] at hl; cases hl)⟩
  have H := wpAnyH_lex (md := .any) (C := C) hsel hht hd lh _ a hlh (fun _ h => h) inv0 hH h
  refine wp_region_any hm ?_
  have := wpAny_of_wpAnyH (Q' := Q) (g := tl.length) (fun listed a' w' hw' hL => wpAny_of_seqL (md := .any) (Q' := Q) tl lt listed a' w' hlt hL.1 (hL.2 w' hw')) _ _ _ _ hC H
  rw [hlen] at this
  exact this

/-- the operations of the list `l` with the numbers `ns` -/
def pick (l : List Oper) (ns : List Nat) : List Oper := ns.map fun i => l.getD i default

theorem pick_some (l : List Oper) (ns : List Nat) (h : ns.all (fun i => decide (i < l.length)) = true) : (pick l ns).map some = ns.map (fun i => l.toArray[i]?) := by
  simp only [pick, List.map_map]
  refine List.map_congr_left fun i hi => ?_
  have := of_decide_eq_true (List.all_eq_true.1 h i hi)
  simp [this]

def headTailOk (l : List Oper) (hd tl : List Nat) : Bool := headTailB l.toArray hd tl && hd.all (fun i => decide (i < l.length)) && tl.all (fun i => decide (i < l.length))

/-- the class: the world has grown, and draws were made -/
theorem wp_region_grown {id : Nat} {Q : Exit → Act → World → Prop} {a : Act} {w : World} {l : List Oper} (hd tl : List Nat) (hm : P.follows .mixedOrders = true) (hB : headTailOk l hd tl = true)
    (h : wpQuiet P l.toArray (fun w' => ∃ x, w' = plus w x) (fun a' => ∀ w', (∃ x, w' = plus w x) → wpList P l.toArray Q (pick l tl) a' w') (pick l hd) a) : (Code.region id l.toArray true).wp P Q a w := by
  simp only [headTailOk, Bool.and_eq_true] at hB
  exact wp_region_head hd tl (pick l hd) (pick l tl) hm hB.1.1 (pick_some l hd hB.1.2) (pick_some l tl hB.2) ⟨⟨#[], w.drawn + 1⟩, by simp [plus]⟩ h
end

/-- a call, in a quiet head, by its contract; `hrun` says which function it is -/
theorem wpQuiet_enter {P : Program} {ops : Array Oper} {C : World → Prop} {Q : Act → Prop} {a : Act} {o : Oper} {rest : List Oper} (hg : o.guard = none) (f : FuncId) (args : Array Value)
    (hrun : ∀ w, (execOp a.eval o).run P w = .ok (.enter f args) w) (v : Value) (hcall : ∀ w', C w' → Calls P f args w' fun e w'' => e = .returned v ∧ C w'')
    (h : wpQuiet P ops C Q rest (a.put o.dst v)) : wpQuiet P ops C Q (o :: rest) a := by
  refine wpQuiet_step fun K hK => ?_
  simp only [Region.wanted, hg, if_true]
  refine ⟨v, fun w' hw' => ?_, hK _ h⟩
  unfold Oper.quietAt
  rw [hrun w']
  exact ⟨rfl, hcall w' hw'⟩

/-- the same outside such regions -/
theorem wpList_enter {P : Program} {ops : Array Oper} {Q : Exit → Act → World → Prop} {a : Act} {w : World} {o : Oper} {rest : List Oper} (hg : o.guard = none) (f : FuncId) (args : Array Value)
    (hrun : (execOp a.eval o).run P w = .ok (.enter f args) w) {R : Ending → World → Prop} (hcall : Calls P f args w R)
    (h : ∀ e w', R e w' → ∃ v, e = .returned v ∧ wpList P ops Q rest (a.put o.dst v) w') : wpList P ops Q (o :: rest) a w := by
  refine wpList_plain hg fun K hK => ?_
  unfold Oper.wp
  rw [hrun]
  refine hcall.mono fun e w' hR => ?_
  obtain ⟨v, rfl, h'⟩ := h e w' hR
  exact hK _ _ h'

/-- a callee that makes memory, in the class of a grown world -/
theorem grown_calls {P : Program} {f : FuncId} {args : Array Value} {w : World} {v : Value} (h : ∀ w', (∃ x, w' = plus w x) → Calls P f args w' fun e w'' => e = .returned v ∧ Below w'.heap.size w' w'') :
    ∀ w', (∃ x, w' = plus w x) → Calls P f args w' fun e w'' => e = .returned v ∧ ∃ x, w'' = plus w x := by
  rintro w' ⟨x, rfl⟩
  exact Calls.plus_of (h _ ⟨x, rfl⟩)

end Go.Proofs.YtikjdmbfjkbndaaGreat
