/- Texts of one chain: Base, RowsOf, Law, Own, Mp, Calm. Conditions: those named in each theorem. -/
import Derived.Test.YtppjhbjmfkiejaaGreatRows
import Derived.WalkKit
import Derived.WalkSpells
import Derived.WalkLawsBesides
import Derived.Deep.Quiet
import Derived.Deep.QuietTactic
import Derived.BigQuiet
import Derived.Lib.Hide
import Derived.ProofKit
import Derived.OpenShut
import Derived.Deep.Slices
import Derived.Deep.Fields
import Derived.MapKept
import Derived.WideKeyRuns
namespace Go.Proofs.YtppjhbjmfkiejaaGreat
open List (all_eq_true flatMap_cons getElem?_map length_append length_take map_cons take_of_length_le)
theorem aA {p:Prop} (h:p):RowKit.Hid p:=h
theorem eY {p:Prop} [Decidable p] (h:p):decide p=true:=decide_eq_true h
theorem dL {p:Prop} [Decidable p] (h:¬p):decide p=false:=decide_eq_false h
section
open Go.RowKit
structure Grow where
 bs:Array Obj
 d:Nat
@[go_sem] theorem forall_grow (p:Prop):(∀ _:Grow,p)↔p:=⟨fun h=>h ⟨#[],0⟩,fun h _=>h⟩
def plus (w:World) (x:Grow):World:={ w with heap:=w.heap ++ x.bs,drawn:=x.d }
@[go_sem] theorem plus_size (w:World) (x:Grow):(plus w x).heap.size=w.heap.size+x.bs.size:=by
 simp[plus]
theorem uI (w:World) (x:Grow) (b:Nat) (h:b<w.heap.size):(plus w x).heap[b]? = w.heap[b]? :=by
 simp[plus,Array.getElem?_append,h]
@[go_sem] theorem plus_cell (w:World) (x:Grow) (b o:Nat) (s:Option Nat) (h:b<w.heap.size) :
 (plus w x).cell? ⟨b,o,s⟩=w.cell? ⟨b,o,s⟩:=World.cell?_of_block (uI w x b h)
@[go_sem] theorem plus_frozen (w:World) (x:Grow) (b o:Nat) (s:Option Nat) (h:b<w.heap.size) :
 (plus w x).frozen? ⟨b,o,s⟩=w.frozen? ⟨b,o,s⟩:=World.frozen?_of_block (uI w x b h)
@[go_sem] theorem TN (w:World) (x y:Grow):plus (plus w x) y=plus w ⟨x.bs ++ y.bs,y.d⟩:=by
 simp[plus,Array.append_assoc]
@[go_sem] theorem plus_drew (w:World) (x:Grow):(plus w x).drew=plus w ⟨x.bs,x.d+1⟩:=rfl
theorem NA (w:World) (x:Grow):Below w.heap.size w (plus w x):=
 ⟨rfl,rfl,rfl,by simp[plus],fun k hk=>uI w x k hk⟩
theorem OY {w w':World} (h:Below w.heap.size w w'):∃ x,w'=plus w x:=by
 refine⟨⟨w'.heap.extract w.heap.size w'.heap.size,w'.drawn⟩,?_⟩;obtain⟨h1,h2,h3,h4,h5⟩:=h
 cases w';cases w
 simp only at h1 h2 h3 h4 h5;subst h1 h2 h3;simp only[plus,World.mk.injEq,and_true];apply Array.ext_getElem?
 intro i;rw[Array.getElem?_append];split
 ·rename_i hi
  exact h5 i hi
 ·rename_i hi
  rename_i h1 _ _ _
  rw[Array.getElem?_extract];split
  ·congr 1;omega
  ·rw[Array.getElem?_eq_none];omega
theorem Calls.QD {P:Program} {f:FuncId} {args:Array Value} {w:World} {x:Grow} {v:Value}
  (h:Calls P f args (plus w x) fun e w'=>e=.returned v/\Below (plus w x).heap.size (plus w x) w') :
  Calls P f args (plus w x) fun e w''=>e=.returned v/\∃ x,w''=plus w x:=
 h.mono fun _ _ ⟨he,hb⟩=>⟨he,by
  obtain⟨y,rfl⟩:=OY hb;exact⟨_,TN w x y⟩⟩
structure Oy (S:List Nat) (w w':World):Prop where
 os:w'.os=w.os
 tape:w'.tape=w.tape
 output:w'.output=w.output
 size:w.heap.size<=w'.heap.size
 block:∀ k,k<w.heap.size->k ∉ S->w'.heap[k]? = w.heap[k]?
theorem Oy.refl (S:List Nat) (w:World):Oy S w w:=⟨rfl,rfl,rfl,Nat.le_refl _,fun _ _ _=>rfl⟩
theorem aR (S:List Nat) (w:World):Oy S w w:=Oy.refl S w
theorem Oy.trans {S S':List Nat} {a b c:World} (h:Oy S a b) (k:Oy S' b c) (hs:∀ x∈S',x∈S\/a.heap.size<=x):Oy S a c:=
 ⟨k.os.trans h.os,k.tape.trans h.tape,k.output.trans h.output,Nat.le_trans h.size k.size,fun i hi hn =>
  (k.block i (Nat.lt_of_lt_of_le hi h.size) (fun hm=>by rcases hs i hm with h'|h';exact hn h';omega)).trans (h.block i hi hn)⟩
theorem Oy.mono {S S':List Nat} {a b:World} (h:Oy S a b) (hs:∀ x∈S,x∈S'\/a.heap.size<=x):Oy S' a b:=
 ⟨h.os,h.tape,h.output,h.size,fun i hi hn=>h.block i hi (fun hm=>by rcases hs i hm with h'|h';exact hn h';omega)⟩
theorem Oy.of_below {B:Nat} {w w':World} (h:Below B w w') (hB:w.heap.size<=B) (S:List Nat):Oy S w w':=
 ⟨h.os,h.tape,h.output,h.size,fun k hk _=>h.block k (by omega)⟩
theorem Oy.below {S:List Nat} {B:Nat} {w w':World} (h:Oy S w w') (hB:B<=w.heap.size) (hS:∀ x∈S,B<=x):Below B w w':=
 ⟨h.os,h.tape,h.output,h.size,fun k hk=>h.block k (by omega) (fun hm=>by have:=hS k hm;omega)⟩
theorem Oy.alloc {S:List Nat} {a w:World} (h:Oy S a w) (o:Obj):Oy S a (w.alloc o):=
 h.trans (S':=[]) ⟨rfl,rfl,rfl,by simp,fun k hk _=>Below.heap_alloc _ _ _ hk⟩ (by simp)
theorem Oy.setCell {S:List Nat} {a w:World} (h:Oy S a w) {p:Addr} (hp:p.block∈S\/a.heap.size<=p.block) (u:Value):Oy S a (w.setCell p u):=
 h.trans (S':=[p.block]) ⟨rfl,rfl,rfl,by simp[World.setCell],fun k _ hn=>Below.heap_setCell _ _ _ _ (by simpa using hn)⟩ (by simpa using hp)
theorem Oy.drew {S:List Nat} {a w:World} (h:Oy S a w):Oy S a w.drew:=⟨h.os,h.tape,h.output,h.size,h.block⟩
theorem Oy.plus {S:List Nat} {a w:World} (h:Oy S a w) (x:Grow):Oy S a (plus w x):=
 h.trans (Oy.of_below (NA w x) (Nat.le_refl _) []) (by simp)
theorem Oy.grown {S:List Nat} {a w w':World} {row:Option Nat} (h:Oy S a w) (hg:w.grownBy w' row) (hr:∀ k,row=some k->k∈S\/a.heap.size<=k):Oy S a w':=
 h.trans (S':=row.toList) ⟨hg.os,hg.tape,hg.output,hg.size,fun k hk hn=>hg.block k hk (fun e=>hn (by rw[<-e];simp))⟩ (fun x hx=>hr x (by simpa using hx))
theorem Oy.cell {S:List Nat} {w w':World} (h:Oy S w w') {b o:Nat} {s:Option Nat} (hb:b<w.heap.size) (hn:b ∉ S):w'.cell? ⟨b,o,s⟩=w.cell? ⟨b,o,s⟩:=
 World.cell?_of_block (h.block b hb hn)
theorem Oy.frozen {S:List Nat} {w w':World} (h:Oy S w w') {b o:Nat} {s:Option Nat} (hb:b<w.heap.size) (hn:b ∉ S):w'.frozen? ⟨b,o,s⟩=w.frozen? ⟨b,o,s⟩:=
 World.frozen?_of_block (h.block b hb hn)
theorem Oy.got {S:List Nat} {w w':World} (h:Oy S w w') {b:Nat} {o:Obj} (hb:w.heap[b]? = some o) (hn:b ∉ S):w'.heap[b]? = some o:=by
 rw[h.block b (Array.getElem?_eq_some_iff.1 hb).1 hn];exact hb
theorem aF {w:World} {b:Nat} {o:Obj} (h:w.heap[b]? = some o):b<w.heap.size:=(Array.getElem?_eq_some_iff.1 h).1
theorem aC {w:World} {b:Nat} {c:Array Value} {t:TypeId} {z:Nat × Nat} (h:w.heap[b]? = some (.cells c t z)) (o:Nat):w.cell? ⟨b,o,none⟩=c[o]? :=by
 simp[World.cell?,h]
theorem aM {w:World} {b:Nat} {c:Array Value} {t:TypeId} (h:w.heap[b]? = some (.cells c t (0,0))) (o:Nat):w.frozen? ⟨b,o,none⟩=false:=by
 simp[World.frozen?,h]
structure DY (S:List Nat) (w:World) where
 val:World
 ok:Oy S w val
@[go_sem] theorem forall_onlyW (S:List Nat) (w:World) (p:Prop):(∀ _:DY S w,p)↔p:=⟨fun h=>h ⟨w,aR S w⟩,fun h _=>h⟩
@[go_sem] theorem DY.cell {S:List Nat} {w:World} (y:DY S w) (b o:Nat) (s:Option Nat) (hb:b<w.heap.size) (hn:b ∉ S):y.val.cell? ⟨b,o,s⟩=w.cell? ⟨b,o,s⟩:=y.ok.cell hb hn
@[go_sem] theorem DY.frozen {S:List Nat} {w:World} (y:DY S w) (b o:Nat) (s:Option Nat) (hb:b<w.heap.size) (hn:b ∉ S):y.val.frozen? ⟨b,o,s⟩=w.frozen? ⟨b,o,s⟩:=y.ok.frozen hb hn
abbrev OnlyC (S:List Nat) (w:World):World->Prop:=fun w'=>∃ y:DY S w,w'=y.val
theorem bC {S:List Nat} {w w':World} (h:Oy S w w'):OnlyC S w w':=⟨⟨w',h⟩,rfl⟩
theorem E8 {S:List Nat} {w w':World} (h:OnlyC S w w'):Oy S w w':=by obtain⟨y,rfl⟩:=h;exact y.ok
theorem aG {G:World->Prop} {w:World} {o:Obj} (h:∀ w0,w0.heap[w.heap.size]? = some o->Oy [] w w0->w0.heap.size=w.heap.size+1->G w0):G (w.alloc o):=
 h _ (by show (w.heap.push o)[w.heap.size]? = _;simp) ((aR [] w).alloc o) (by simp)
theorem kZ {G:World->Prop} {W:World} (R:World->Prop) (hR:R W) (h:∀ w0,R w0->G w0):G W:=h _ hR
theorem alloc_old {w:World} {o o':Obj} {b:Nat} (h:w.heap[b]? = some o):(w.alloc o').heap[b]? = some o:=by
 rw[Below.heap_alloc _ _ _ (aF h)];exact h
theorem bG (w:World) (o:Obj):(w.alloc o).heap[w.heap.size]? = some o:=by
 show (w.heap.push o)[w.heap.size]? = _
 simp
theorem size_setCell (w:World) (a:Addr) (v:Value):(w.setCell a v).heap.size=w.heap.size:=by simp[World.setCell]
theorem DW {G:World->Prop} {w:World} {o:Obj} (h:∀ w0,w0.heap[w.heap.size]? = some o->Oy [] w w0->w0.heap.size=w.heap.size+1->G w0):G (w.alloc o).drew:=
 h _ (by show (w.heap.push o)[w.heap.size]? = _;simp) ((aR [] w).alloc o).drew (by simp)
theorem aH {w:World} {b o:Nat} {c:Array Value} {t:TypeId} {z:Nat × Nat} (v:Value) (h:w.heap[b]? = some (.cells c t z)):(w.setCell ⟨b,o,none⟩ v).heap[b]? = some (.cells (c.setIfInBounds o v) t z):=by
 have hb:=aF h;simp only[World.setCell,Array.getElem?_modify,if_true,h,Option.map_some];simp
theorem tO (w:World) (o1 o2:Obj):((w.alloc o1).alloc o2).drew.heap[w.heap.size]? = some o1:=by
 show ((w.heap.push o1).push o2)[w.heap.size]? = _
 simp[Array.getElem?_push]
theorem qK (w:World) (o1 o2:Obj):((w.alloc o1).alloc o2).drew.heap[w.heap.size+1]? = some o2:=by
 show ((w.heap.push o1).push o2)[w.heap.size+1]? = _
 rw[Array.getElem?_push,if_pos (by simp)]
theorem aN {w w1:World} (h:∃ x,w1=plus w x):Oy [] w w1:=by
 obtain⟨x,rfl⟩:=h;exact (aR [] w).plus x
theorem Oy.xC {w w':World} (h:Oy [] w w'):Below w.heap.size w w':=h.below (Nat.le_refl _) (by simp)
theorem Oy.aB {S:List Nat} {a b c:World} (h:Oy S a b) (k:Oy [] b c):Oy S a c:=h.trans k (by simp)
theorem Oy.fB {S:List Nat} {a b c:World} (h:Oy [] a b) (k:Oy S b c):Oy S a c:=(h.mono (S':=S) (by simp)).trans k (fun _ h=>.inl h)
theorem Oy.weak {S S':List Nat} {a b:World} (h:Oy S a b) (hs:∀ x∈S,x∈S'):Oy S' a b:=h.mono (fun x hx=>.inl (hs x hx))
section
variable {P:Program} {ops:Array Oper} {md:Region.Mode} {C:World->Prop}
theorem getD_both {listed:Array Bool} {i:Nat} (h:listed.getD i true=false):listed.getD i false=false:=by
 rcases Nat.lt_or_ge i listed.size with h'|h'
 ·simp[h'] at h |-;exact h
 ·simp[Array.getElem?_eq_none h'] at h
theorem getD_replicate_false (m j:Nat):(Array.replicate m false).getD j false=false:=by
 rcases Nat.lt_or_ge j m with h|h
 ·simp[h]
 ·simp[h]
def needs (md:Region.Mode) (ops:Array Oper):Nat->Nat->Nat->Bool
 | 0,_,_=>false
 | f+1,j,i=>match ops[j]? with
  | some oj=>oj.after.any fun e=>Region.binds md e && (e.on == i || needs md ops f e.on i)
  | none=>false
theorem oP {listed:Array Bool} (hc:∀ j oj,ops[j]? = some oj->listed.getD j false=true->∀ e∈oj.after,Region.binds md e=true->listed.getD e.on false=true) {i:Nat} :
  ∀ (f j:Nat) (oj:Oper),ops[j]? = some oj->(∀ e∈oj.after,Region.binds md e=true->listed.getD e.on false=true)->needs md ops f j i=true->listed.getD i false=true
 | 0,_,_,_,_,h=>by simp[needs] at h
 | f+1,j,oj,hj,hall,h=>by
  simp only[needs,hj] at h;obtain⟨e,he,hb⟩:=Array.any_eq_true'.1 h;simp only[Bool.and_eq_true,Bool.or_eq_true,beq_iff_eq] at hb;obtain⟨hbe,h'|h'⟩:=hb
  ·subst h';exact hall e he hbe
  ·have hl:=hall e he hbe
   cases ho:ops[e.on]? with
   | none =>
    cases f with
    | zero=>simp[needs] at h'
    | succ f=>simp[needs,ho] at h'
   | some o=>exact oP hc f e.on o ho (hc e.on o ho hl) h'
structure jL (md:Region.Mode) (ops:Array Oper) (tl:List Nat) (listed:Array Bool):Prop where
 size:listed.size=ops.size
 closed:∀ j oj,ops[j]? = some oj->listed.getD j false=true->∀ e∈oj.after,Region.binds md e=true->listed.getD e.on false=true
theorem jL.set {tl:List Nat} {i:Nat} {listed:Array Bool} (inv:jL md ops tl listed) (hi:i∈Region.ready md ops listed):jL md ops tl (listed.setIfInBounds i true):=by
 obtain⟨_,oi,hoi,hall⟩:=mem_ready.1 hi;refine⟨by simp[inv.size],fun j oj hj hl e he hb=>?_⟩;by_cases hij:i=j
 ·subst hij
  have:oj=oi:=Option.some.inj (hj.symm.trans hoi);subst this;exact getD_set_true (hall e he hb)
 ·rw[getD_set_ne false hij] at hl
  exact getD_set_true (inv.closed j oj hj hl e he hb)
def fI (md:Region.Mode) (ops:Array Oper) (hd tl:List Nat):Bool:=tl.all fun t=>hd.all fun i=>needs md ops ops.size t i
theorem qM {hd tl:List Nat} {listed:Array Bool} (hB:fI md ops hd tl=true) (inv:jL md ops tl listed) {i:Nat} (hi:i∈hd) (hun:listed.getD i true=false) {t:Nat} (ht:t∈tl):t ∉ Region.ready md ops listed:=by
 intro hr;obtain⟨_,ot,hot,hall⟩:=mem_ready.1 hr;have h1:=all_eq_true.1 (all_eq_true.1 hB t ht) i hi;have:=oP inv.closed _ t ot hot hall h1;rw[getD_both hun] at this
 cases this
def wpAnyH (P:Program) (md:Region.Mode) (ops:Array Oper) (C:World->Prop) (tl:List Nat) (L:Array Bool->Act->Prop):Nat->Array Bool->Act->Prop
 | 0,listed,a=>L listed a
 | f+1,listed,a =>
  Region.ready md ops listed≠[]/\∀ i∈Region.ready md ops listed,i ∉ tl/\qOp P ops C i (wpAnyH P md ops C tl L f (listed.setIfInBounds i true)) a
theorem pR {tl:List Nat} {g:Nat} {L:Array Bool->Act->Prop} {Q':Exit->Act->World->Prop} (hL:∀ listed a w,C w->L listed a->wpAny P md ops Q' g listed a w) :
  ∀ (f:Nat) (listed:Array Bool) (a:Act) (w:World),C w->wpAnyH P md ops C tl L f listed a->wpAny P md ops Q' (f+g) listed a w
 | 0,listed,a,w,hw,h=>by rw[Nat.zero_add];exact hL _ _ _ hw h
 | f+1,listed,a,w,hw,h=>by
  rw[show f+1+g=(f+g)+1 by omega];exact⟨fun h0=>absurd h0 h.1,fun i hi=>wpOp_of_qOp hw (fun a' w' hw' h'=>pR hL f _ a' w' hw' h') (h.2 i hi).2⟩
theorem wpAnyH_first {hd tl:List Nat} {i:Nat} {oi:Oper} {v:Value} {L:Array Bool->Act->Prop} (hi:ops[i]? = some oi) (hsel:∀ (j:Nat) (o:Oper) cs b,ops[j]? = some o->o.op≠ .select cs b)
  (hB:fI md ops hd tl=true) (hin:i∈hd)
  (hdone:∀ listed a,L listed a->∀ j∈Region.ready md ops listed,j∈tl) :
  ∀ (f:Nat) (listed:Array Bool) (a:Act),jL md ops tl listed ->
   (∀ j oj,ops[j]? = some oj->j≠i->listed.getD j true=false->(∀ e∈oj.after,Region.binds md e=true->e.on≠i)->oi.apart ops oj=true) ->
   i∈Region.ready md ops listed->YieldsIn P ops C oi v a ->
   wpAnyH P md ops C tl L f (listed.setIfInBounds i true) (a.put oi.dst v)->wpAnyH P md ops C tl L (f+1) listed a:=by
 intro f;induction f with
 | zero =>
  intro listed a inv _ hr hy H;have hun:=(mem_ready.1 hr).1;refine⟨fun h=>(by rw[h] at hr;cases hr),fun j hj=>?_⟩;have hjn:j ∉ tl:=fun ht=>qM hB inv hin hun ht hj;refine⟨hjn,?_⟩;by_cases hji:j=i
  ·subst hji;exact hy.qOp hi H
  ·exact absurd (hdone _ _ H j (ready_mono hj hji)) hjn
 | succ f ih =>
  intro listed a inv hfree hr hy H;have hun:=(mem_ready.1 hr).1;refine⟨fun h=>(by rw[h] at hr;cases hr),fun j hj=>?_⟩;have hjn:j ∉ tl:=fun ht=>qM hB inv hin hun ht hj;refine⟨hjn,?_⟩;by_cases hji:j=i
  ·subst hji;exact hy.qOp hi H
  ·have h1:=(H.2 j (ready_mono hj hji)).2
   obtain⟨hjun,oj,hoj,hall⟩:=mem_ready.1 hj
   have hnot:∀ e∈oj.after,Region.binds md e=true->e.on≠i:=fun e he hb heq=>by
    have h1:=hall e he hb;rw[heq,getD_both hun] at h1
    cases h1
   have h2:=qOp_put hoj (hfree j oj hoj hji hjun hnot) (fun cs b=>hsel i oi cs b hi) (fun cs b=>hsel j oj cs b hoj) hy h1
   have hfree':∀ k ok,ops[k]? = some ok->k≠i->(listed.setIfInBounds j true).getD k true=false ->
     (∀ e∈ok.after,Region.binds md e=true->e.on≠i)->oi.apart ops ok=true:=fun k ok hk hki hun hno=>by
    refine hfree k ok hk hki ?_ hno;by_cases hjk:j=k
    ·subst hjk;exact hjun
    ·rw[getD_set_ne true hjk] at hun;exact hun
   refine qOp_mono (fun a' h3=>ih (listed.setIfInBounds j true) a' (inv.set hj) hfree' (ready_mono hr (Ne.symm hji)) h3.1 ?_) h2;rw[Array.setIfInBounds_comm _ _ hji];exact h3.2
def GR (md:Region.Mode) (ops:Array Oper):List Nat->Array Bool->Bool
 | [],listed=>(Region.ready md ops listed).isEmpty
 | k::tl,listed=>decide (Region.ready md ops listed=[k]) && GR md ops tl (listed.setIfInBounds k true)
theorem tN {Q':Exit->Act->World->Prop}:∀ (tl:List Nat) (l:List Oper) (listed:Array Bool) (a:Act) (w:World),(l.map some=tl.map (fun i=>ops[i]?)) ->
  GR md ops tl listed=true->wpList P ops Q' l a w->wpAny P md ops Q' tl.length listed a w
 | [],[],_,_,_,_,hB,h=>⟨by simpa [GR] using hB,h⟩
 | [],_::_,_,_,_,hl,_,_=>by simp at hl
 | _::_,[],_,_,_,hl,_,_=>by simp at hl
 | k::tl,o::l,listed,a,w,hl,hB,h=>by
  simp only[map_cons,List.cons.injEq] at hl;obtain⟨h0,hl⟩:=hl;simp only[GR,Bool.and_eq_true,decide_eq_true_eq] at hB;refine⟨fun h1=>(by rw[hB.1] at h1;cases h1),fun i hi=>?_⟩;rw[hB.1] at hi;have hik:i=k:=by simpa using hi
  subst hik;have hw:wpOp P ops Q' i (wpList P ops Q' l) a w:=by unfold wpOp;simp only[<-h0];exact h
  exact wpOp_mono (fun a' w' h'=>tN tl l _ a' w' hl hB.2 h') hw
def KX (md:Region.Mode) (ops:Array Oper) (tl:List Nat):List Nat->Array Bool->Bool
 | [],listed=>GR md ops tl listed
 | k::hd,listed=>(Region.ready md ops listed).contains k && Region.free md ops listed k && KX md ops tl hd (listed.setIfInBounds k true)
theorem MU {tl:List Nat} {listed:Array Bool} (h:GR md ops tl listed=true):∀ j∈Region.ready md ops listed,j∈tl:=by
 cases tl with
 | nil=>intro j hj;simp only[GR,List.isEmpty_iff] at h;rw[h] at hj;cases hj
 | cons k tl =>
  intro j hj;simp only[GR,Bool.and_eq_true,decide_eq_true_eq] at h;rw[h.1] at hj;have:j=k:=by simpa using hj
  simp[this]
theorem AY {hd0 tl:List Nat} {Lq:Act->Prop} (hsel:Region.noSelect ops=true) (hB:fI md ops hd0 tl=true) :
  ∀ (hd:List Nat) (l:List Oper) (listed:Array Bool) (a:Act),(l.map some=hd.map (fun i=>ops[i]?))->(∀ i∈hd,i∈hd0)->jL md ops tl listed ->
  KX md ops tl hd listed=true->wpQuiet P ops C Lq l a ->
  wpAnyH P md ops C tl (fun listed' a'=>GR md ops tl listed'=true/\Lq a') hd.length listed a
 | [],[],listed,a,_,_,_,hH,h=>⟨by simpa [KX] using hH,h⟩
 | [],_::_,_,_,hl,_,_,_,_=>by simp at hl
 | _::_,[],_,_,hl,_,_,_,_=>by simp at hl
 | k::hd,o::l,listed,a,hl,hm,inv,hH,h=>by
  simp only[map_cons,List.cons.injEq] at hl;obtain⟨h0,hl⟩:=hl;simp only[KX,Bool.and_eq_true] at hH;obtain⟨⟨hr,hf⟩,hH'⟩:=hH;have hr':k∈Region.ready md ops listed:=by simpa using hr
  have hst:qOp P ops C k (wpQuiet P ops C Lq l) a:=by unfold qOp;simp only[<-h0];exact h
  obtain⟨v,hy,hK⟩:=yieldsIn_of_qOp h0.symm hst
  exact wpAnyH_first h0.symm (Region.noSelect_spec hsel) hB (hm k (by simp)) (fun listed' a' hL=>MU hL.1) hd.length listed a inv (Region.free_spec h0.symm hf) hr' hy
   (AY hsel hB hd l _ _ hl (fun i hi=>hm i (by simp[hi])) (inv.set hr') hH' hK)
def xI (ops:Array Oper) (hd tl:List Nat):Bool:=
 Region.noSelect ops && fI .any ops hd tl && KX .any ops tl hd (Array.replicate ops.size false) && decide (hd.length+tl.length=ops.size)
theorem AP {id:Nat} {Q:Exit->Act->World->Prop} {a:Act} {w:World} {l:List Oper} (hd tl:List Nat) (lh lt:List Oper) (hm:P.follows .mixedOrders=true) (hB:xI l.toArray hd tl=true)
  (hlh:lh.map some=hd.map (fun i=>l.toArray[i]?)) (hlt:lt.map some=tl.map (fun i=>l.toArray[i]?))
  (hC:C { w with drawn:=w.drawn+1 })
  (h:wpQuiet P l.toArray C (fun a'=>∀ w',C w'->wpList P l.toArray Q lt a' w') lh a):(Code.region id l.toArray true).wp P Q a w:=by
 simp only[xI,Bool.and_eq_true,decide_eq_true_eq] at hB;obtain⟨⟨⟨hsel,hht⟩,hH⟩,hlen⟩:=hB
 have inv0:jL .any l.toArray tl (Array.replicate l.toArray.size false):=
  ⟨by simp,fun j oj _ hl=>(by rw[getD_replicate_false] at hl;cases hl)⟩
 have H:=AY (md:=.any) (C:=C) hsel hht hd lh _ a hlh (fun _ h=>h) inv0 hH h;refine wp_region_any hm ?_;have:=pR (Q':=Q) (g:=tl.length) (fun listed a' w' hw' hL=>tN (md:=.any) (Q':=Q) tl lt listed a' w' hlt hL.1 (hL.2 w' hw')) _ _ _ _ hC H;rw[hlen] at this;exact this
def pick (l:List Oper) (ns:List Nat):List Oper:=ns.map fun i=>l.getD i default
theorem bV:(∀ (l:List Oper) (is:List Nat),pick l is=is.map fun i=>l.getD i default)/\(∀ (f:Nat->Oper) a l,(a::l).map f=f a::l.map f)/\(∀ f:Nat->Oper,[].map f=[])/\(∀ (x:Oper) xs n d,(x::xs).getD (n+1) d=xs.getD n d)/\(∀ (x:Oper) xs d,(x::xs).getD 0 d=x):=⟨fun _ _=>rfl,fun _ _ _=>rfl,fun _=>rfl,fun _ _ _ _=>rfl,fun _ _ _=>rfl⟩
theorem eD:(∀ (a b:Nat) l,a∈b::l<->a=b\/a∈l)/\(∀ a:Nat,a∈([]:List Nat)<->False)/\(∀ p:Prop,(p\/False)=p)/\(∀ (p:Nat->Prop) a',(∀ a,a=a'->p a)<->p a'):=⟨fun _ _ _=>List.mem_cons,fun _=>by simp,fun _=>by simp,fun _ _=>by simp⟩
theorem gT (l:List Oper) (ns:List Nat) (h:ns.all (fun i=>decide (i<l.length))=true):(pick l ns).map some=ns.map (fun i=>l.toArray[i]?):=by
 simp only[pick,List.map_map];refine List.map_congr_left fun i hi=>?_;have:=of_decide_eq_true (all_eq_true.1 h i hi);simp[this]
def oU (l:List Oper) (hd tl:List Nat):Bool:=xI l.toArray hd tl && hd.all (fun i=>decide (i<l.length)) && tl.all (fun i=>decide (i<l.length))
theorem aP {id:Nat} {Q:Exit->Act->World->Prop} {a:Act} {w:World} {l:List Oper} (hd tl:List Nat) (hm:P.follows .mixedOrders=true) (hB:oU l hd tl=true)
  (h:wpQuiet P l.toArray (fun w'=>∃ x,w'=plus w x) (fun a'=>∀ w',(∃ x,w'=plus w x)->wpList P l.toArray Q (pick l tl) a' w') (pick l hd) a):(Code.region id l.toArray true).wp P Q a w:=by
 simp only[oU,Bool.and_eq_true] at hB;exact AP hd tl (pick l hd) (pick l tl) hm hB.1.1 (gT l hd hB.1.2) (gT l tl hB.2) ⟨⟨#[],w.drawn+1⟩,by simp[plus]⟩ h
end
theorem gF {P:Program} {ops:Array Oper} {C:World->Prop} {Q:Act->Prop} {a:Act} {o:Oper} {rest:List Oper} (hg:o.guard=none) (f:FuncId) (args:Array Value)
  (hrun:∀ w,(execOp a.eval o).run P w=.ok (.enter f args) w) (v:Value) (hcall:∀ w',C w'->Calls P f args w' fun e w''=>e=.returned v/\C w'')
  (h:wpQuiet P ops C Q rest (a.put o.dst v)):wpQuiet P ops C Q (o::rest) a:=by
 refine wpQuiet_step fun K hK=>?_;simp only[Region.wanted,hg,if_true];refine⟨v,fun w' hw'=>?_,hK _ h⟩;unfold Oper.quietAt;rw[hrun w'];exact⟨rfl,hcall w' hw'⟩
theorem gL {P:Program} {f:FuncId} {args:Array Value} {w:World} {v:Value} (h:∀ w',(∃ x,w'=plus w x)->Calls P f args w' fun e w''=>e=.returned v/\Below w'.heap.size w' w'') :
  ∀ w',(∃ x,w'=plus w x)->Calls P f args w' fun e w''=>e=.returned v/\∃ x,w''=plus w x:=by
 rintro w' ⟨x,rfl⟩;exact Calls.QD (h _ ⟨x,rfl⟩)
end
section
open Go.RowKit
section
variable {α:Type}
theorem dK (enc:α->List Value) (s:Nat) (hs:∀ x,(enc x).length=s):∀ l:List α,(l.flatMap enc).length=l.length*s
 | []=>by simp
 | x::l=>by rw[flatMap_cons,length_append,hs,dK enc s hs l,List.length_cons,Nat.succ_mul,Nat.add_comm]
theorem flat_get (enc:α->List Value) (s:Nat) (hs:∀ x,(enc x).length=s):∀ (l:List α) (i j:Nat) (x:α),l[i]? = some x->j<s->(l.flatMap enc)[i*s+j]? = (enc x)[j]?
 | [],i,j,x,h,_=>by simp at h
 | y::l,0,j,x,h,hj=>by
  simp at h;subst h;rw[Nat.zero_mul,Nat.zero_add,flatMap_cons,List.getElem?_append_left (by rw[hs];exact hj)]
 | y::l,i+1,j,x,h,hj=>by
  have h':l[i]? = some x:=by simpa using h
  have:=flat_get enc s hs l i j x h' hj;rw[flatMap_cons,List.getElem?_append_right (by rw[hs,Nat.succ_mul];omega),hs,<-this];congr 1
  rw[Nat.succ_mul];omega
theorem K4 (enc:α->List Value) (s:Nat) (hs:∀ x,(enc x).length=s):∀ (l:List α) (i:Nat) (x:α),i<l.length ->
  (l.flatMap enc).take (i*s) ++ enc x ++ (l.flatMap enc).drop (i*s+s)=(l.set i x).flatMap enc
 | [],i,x,h=>by simp at h
 | y::l,0,x,_=>by
  simp only[Nat.zero_mul,List.take_zero,List.nil_append,Nat.zero_add,flatMap_cons,List.set_cons_zero];rw[show s=(enc y).length from (hs y).symm,List.drop_left]
 | y::l,i+1,x,h=>by
  have h':i<l.length:=by simpa using h
  have ih:=K4 enc s hs l i x h';simp only[flatMap_cons,List.set_cons_succ];rw[<-ih,show (i+1)*s=s+i*s by rw[Nat.succ_mul,Nat.add_comm]]
  have e1:(enc y ++ l.flatMap enc).take (s+i*s)=enc y ++ (l.flatMap enc).take (i*s):=by
   rw[List.take_append,take_of_length_le (by rw[hs];omega),hs];congr 2;omega
  have e2:(enc y ++ l.flatMap enc).drop (s+i*s+s)=(l.flatMap enc).drop (i*s+s):=by
   rw[List.drop_append,List.drop_of_length_le (by rw[hs];omega),hs,List.nil_append];congr 1;omega
  rw[e1,e2];simp only[List.append_assoc]
theorem FI (enc:α->List Value) (s:Nat) (hs:∀ x,(enc x).length=s) (l:List α) (k:Nat):(l.flatMap enc).take (k*s)=(l.take k).flatMap enc:=by
 induction l generalizing k with
 | nil=>simp
 | cons y l ih =>
  cases k with
  | zero=>simp
  | succ k =>
   rw[List.take_succ_cons,flatMap_cons,flatMap_cons,List.take_append,hs,<-ih,take_of_length_le (by rw[hs,Nat.succ_mul];omega)];congr 2
   rw[Nat.succ_mul];omega
end
section
variable {α:Type} (enc:α->List Value) (e:TypeId) (s:Nat)
def aO (w:World) (g cap:Nat) (l:List α):Prop:=
 ∃ cur:Array Value,w.heap[g]? = some (.cells cur e (0,0))/\cur.size=cap*s/\l.length<=cap/\cap<=maxLen/\cur.toList.take (l.length*s)=l.flatMap enc
variable {enc e s}
theorem aO.lt {w:World} {g cap:Nat} {l:List α} (h:aO enc e s w g cap l):g<w.heap.size:=by
 obtain⟨cur,hg,_⟩:=h;exact aF hg
theorem aO.owns {w:World} {g cap:Nat} {l:List α} (hs:∀ x,(enc x).length=s) (h:aO enc e s w g cap l) {base:Nat} (hb:base<=g):w.ownsRow base e s (.slice (some ⟨g,0,none⟩) l.length cap) l.length (l.flatMap enc):=by
 obtain⟨cur,hg,h1,h2,h3,h4⟩:=h;exact⟨dK enc s hs l,.inr ⟨g,cap,cur,rfl,hb,hg,h2,h3,h1,h4⟩⟩
theorem aO.kN {w:World} {g cap n base:Nat} {l:List α} (h:w.ownsRow base e s (.slice (some ⟨g,0,none⟩) n cap) n (l.flatMap enc)) (hn:n=l.length):aO enc e s w g cap l:=by
 subst hn;rcases h.2 with ⟨h',_⟩|⟨g',cap',cur,h',hb,hg,h2,h3,h1,h4⟩
 ·simp at h'
 ·simp only[Value.slice.injEq,Option.some.injEq,Addr.mk.injEq,and_true,true_and] at h'
  obtain⟨rfl,rfl⟩:=h';exact⟨cur,hg,h1,h2,h3,h4⟩
theorem aO.cell {w:World} {g cap:Nat} {l:List α} (hs:∀ x,(enc x).length=s) (h:aO enc e s w g cap l) {i j:Nat} {x:α} (hi:l[i]? = some x) (hj:j<s):w.cell? ⟨g,i*s+j,none⟩=(enc x)[j]? :=by
 obtain⟨cur,hg,h1,h2,h3,h4⟩:=h;have hil:i<l.length:=(List.getElem?_eq_some_iff.1 hi).1
 have hlt:i*s+j<l.length*s:=by
  have:(i+1)*s<=l.length*s:=Nat.mul_le_mul_right s hil;rw[Nat.succ_mul] at this;omega
 rw[aC hg,<-flat_get enc s hs l i j x hi hj,<-h4,List.getElem?_take,if_pos hlt];simp
theorem aO.frozen {w:World} {g cap:Nat} {l:List α} (h:aO enc e s w g cap l) (o:Nat):w.frozen? ⟨g,o,none⟩=false:=by
 obtain⟨cur,hg,_⟩:=h;exact aM hg o
theorem aO.kept {w w':World} {S:List Nat} {g cap:Nat} {l:List α} (h:aO enc e s w g cap l) (ho:Oy S w w') (hn:g ∉ S):aO enc e s w' g cap l:=by
 obtain⟨cur,hg,r⟩:=h;exact⟨cur,ho.got hg hn,r⟩
theorem aO.take {w:World} {g cap:Nat} {l:List α} (hs:∀ x,(enc x).length=s) (h:aO enc e s w g cap l) (k:Nat):aO enc e s w g cap (l.take k):=by
 obtain⟨cur,hg,h1,h2,h3,h4⟩:=h;refine⟨cur,hg,h1,by rw[length_take];omega,h3,?_⟩;rw[<-FI enc s hs,<-h4,List.take_take];congr 1
 rw[length_take];by_cases hk:k<=l.length
 ·rw[Nat.min_eq_left hk,Nat.min_eq_left (Nat.mul_le_mul_right s hk)]
 ·rw[Nat.min_eq_right (by omega),Nat.min_eq_right (Nat.mul_le_mul_right s (by omega))]
theorem aO.set {w w':World} {g cap:Nat} {l:List α} (hs:∀ x,(enc x).length=s) {i:Nat} {x:α} (hi:i<l.length) (h:aO enc e s w g cap l)
  {cur:Array Value} (hg:w.heap[g]? = some (.cells cur e (0,0))) (hg':w'.heap[g]? = some (.cells (cur.toList.take (i*s) ++ enc x ++ cur.toList.drop (i*s+s)).toArray e (0,0))):aO enc e s w' g cap (l.set i x):=by
 obtain⟨cur',hgc,h1,h2,h3,h4⟩:=h;have:cur'=cur:=by rw[hgc] at hg;simpa using hg
 subst this
 have hlt:i*s+s<=l.length*s:=by
  have:(i+1)*s<=l.length*s:=Nat.mul_le_mul_right s hi;rw[Nat.succ_mul] at this;omega
 have hcap:l.length*s<=cur'.size:=by rw[h1];exact Nat.mul_le_mul_right s h2
 refine⟨_,hg',?_,by simpa using h2,h3,?_⟩
 ·simp only[List.size_toArray,length_append,length_take,List.length_drop,Array.length_toList,hs];omega
 ·rw[List.length_set,<-K4 enc s hs l i x hi,<-h4]
  simp only[List.take_append,length_take,Array.length_toList,List.take_take]
  rw[Nat.min_eq_left (by omega:i*s<=cur'.size),Nat.min_eq_right (by omega:i*s<=l.length*s),take_of_length_le (l:=enc x) (by rw[hs];omega),
   Nat.min_eq_left (by omega:i*s<=l.length*s),List.drop_take]
  congr 2
  simp only[length_append,length_take,Array.length_toList,hs];omega
theorem wpList_store_row {P:Program} {w:World} {ops:Array Oper} {rest:List Oper} {o:Oper} {a:Act} {Q:Exit->Act->World->Prop} (hgd:o.guard=none) (t:TypeId) (p x:Operand) (ho:o.op=.store t p x)
  (m:Nat) (hinfo:(P.info? t).map (·.size)=some m) (g off:Nat) (hp:a.eval p=.pointer (some ⟨g,off,none⟩)) (v:Value) (hx:a.eval x=v) (hvs:v.cells.size=m) (h1b:v.cells.toList.all Value.oneCell'=true)
  (cur:Array Value) (et:TypeId) (hg:w.heap[g]? = some (.cells cur et (0,0))) (hfit:off+m<=cur.size)
  (hK:∀ w1,w1.heap[g]? = some (.cells (cur.toList.take off ++ v.cells.toList ++ cur.toList.drop (off+m)).toArray et (0,0))->Oy [g] w w1->w1.heap.size=w.heap.size->wpList P ops Q rest (a.put o.dst undef) w1):wpList P ops Q (o::rest) a w:=by
 refine wpList_plain hgd fun K hK'=>?_;have h1:∀ u∈v.cells.toList,u.oneCell'=true:=all_eq_true.1 h1b;have hl:v.cells.toList.length=m:=by simpa using hvs
 have hst:=run_storeCells_at P g off et v.cells.toList 0 cur w hg (by rw[hl];simpa using hfit) h1
 have hsz:(sizeOf t).run P w=.ok m w:=by
  cases hq:P.info? t with
  | none=>simp[hq] at hinfo
  | some i=>simp[sizeOf,typeInfo,hq] at hinfo |-;exact hinfo
 simp only[Nat.add_zero,hl] at hst
 have hrun:(Instr.storeAt t (.pointer (some ⟨g,off,none⟩)) v).run P w=.ok () (w.setRow g (cur.toList.take off ++ v.cells.toList ++ cur.toList.drop (off+m)).toArray):=by
  simp only[Instr.storeAt,storeVar,Sem.run_bind,Instr.sureAddr,Sem.run_pure,Result.andThen_ok,hsz,hvs,ne_eq,not_true_eq_false,if_false,hst]
 unfold Oper.wp;simp only[execOp,ho,hp,hx,Sem.run_bind,hrun,Result.andThen_ok,Sem.run_pure,Oper.upon_skip];exact hK' _ _ (hK _ (setRow_heap w g cur _ et _ hg) ⟨rfl,rfl,rfl,by simp[World.setRow],fun k _ hk=>setRow_other w g k _ (fun e=>hk (by simp[e]))⟩ (by simp[World.setRow]))
theorem BI {P:Program} (w:World) (t ty e:TypeId) (i:TypeInfo) (z:Value) (size bytes:Nat) (ht:P.underlying t=some (.slice e)) (hi:P.info? e=some i) (hz:i.zero=some z)
  (hsize:i.size=size) (hby:i.bytes=bytes) (hzs:z.cells.size=size) (hsz:0<size)
  (v:Value) (n:Nat) (xs:List Value) (hown:w.ownsRow 0 e size v n xs)
  (a:Addr) (m c:Nat) (news:List Value) (hl:news.length=m*size) (hnews:∀ j u,news[j]? = some u->w.cell? (a.add j)=some u) (h1:∀ u∈news,u.oneCell'=true)
  (h63:n+m<=maxLen) (hbytes:(n+m)*bytes<=140737488355328) (hm:0<m) :
  ∃ v' w',(Builtin.append_ #[t,t] ty #[v,.slice (some a) m c]).run P w=.ok v' w'/\w'.ownsRow 0 e size v' (n+m) (xs ++ news)/\w.grownBy w' v.ownBlock/\(v'.ownBlock=v.ownBlock\/v'.ownBlock=some w.heap.size)/\v'≠ .slice none 0 0:=by
 obtain⟨v',w',hr,h2,h3,h4⟩:=run_append_own (P:=P) w 0 t ty e i z size bytes ht hi hz hsize hby hzs hsz v n xs hown a m c news hl hnews h1 h63 hbytes (Nat.zero_le _);refine⟨v',w',hr,h2,h3,?_,fun h=>by have:=(h4.1 h).2;omega⟩;subst hsize;subst hby;have hsmall:n+m<=9223372036854775807:=by simp only[maxLen] at h63;omega
 rcases hown.2 with ⟨rfl,rfl⟩|⟨g,cap,cur,rfl,hbg,hg,hnc,hcm,hcs,htake⟩
 ·have hr':=run_append_nil (P:=P) w t ty e i z ht hi hz a m c news hl hnews hm (by omega) (by have hb:=hbytes;simp only[Nat.zero_add] at hb;omega)
  rw[hr] at hr';injection hr' with e1 _
  subst e1;exact .inr rfl
 ·by_cases hroom:n+m<=cap
  ·have hfit:n*i.size+news.length<=cur.size:=by rw[hl,hcs,<-Nat.add_mul];exact Nat.mul_le_mul_right _ hroom
   have hr':=run_append_room (P:=P) w t ty e i ht hi g n cap cur hg a m c news hl hnews h1 hroom hfit;rw[hr] at hr';injection hr' with e1 _
   subst e1;exact .inl rfl
  ·have holds:∀ j u,xs[j]? = some u->w.cell? ((⟨g,0,none⟩:Addr).add j)=some u:=hown.cells (g:=g) rfl
   have hr':=run_append_grow (P:=P) w t ty e i z ht hi hz ⟨g,0,none⟩ n cap xs hown.1 holds a m c news hl hnews (by omega) (by omega) (growslice_fits (by omega) hbytes);rw[hr] at hr';injection hr' with e1 _
   subst e1;exact .inr rfl
theorem dB {P:Program} {w:World} {ops:Array Oper} {rest:List Oper} {o:Oper} {a:Act} {Q:Exit->Act->World->Prop} (hgd:o.guard=none) (s x:Operand) (t:TypeId)
  (ho:o.op=.call { callee:=.builtin .append,args:=#[s,x],argTypes:=#[t,t] })
  (e:TypeId) (i:TypeInfo) (z:Value) (size bytes:Nat) (ht:P.underlying t=some (.slice e)) (hi:P.info? e=some i) (hz:i.zero=some z)
  (hsize:i.size=size) (hby:i.bytes=bytes) (hzs:z.cells.size=size) (hsz:0<size)
  (v:Value) (n:Nat) (xs:List Value) (hs:a.eval s=v) (hown:w.ownsRow 0 e size v n xs)
  (ad:Addr) (m c:Nat) (news:List Value) (hx:a.eval x=.slice (some ad) m c) (hl:news.length=m*size) (hnews:∀ j u,news[j]? = some u->w.cell? (ad.add j)=some u) (h1:∀ u∈news,u.oneCell'=true)
  (h63:n+m<=maxLen) (hbytes:(n+m)*bytes<=140737488355328) (hm:0<m)
  (h:∀ g' cap' w',w'.ownsRow 0 e size (.slice (some ⟨g',0,none⟩) (n+m) cap') (n+m) (xs ++ news)->Oy v.ownBlock.toList w w'->(v.ownBlock=some g'\/g'=w.heap.size)->wpList P ops Q rest (a.put o.dst (.slice (some ⟨g',0,none⟩) (n+m) cap')) w'):wpList P ops Q (o::rest) a w:=by
 refine wpList_plain hgd fun K hK=>?_;obtain⟨v',w',hr,h2,h3,h4,h5⟩:=BI (P:=P) w t o.type e i z size bytes ht hi hz hsize hby hzs hsz v n xs hown ad m c news hl hnews h1 h63 hbytes hm;unfold Oper.wp execOp;simp only[ho,resolve,invoke,builtin,Sem.run_bind,Sem.run_pure,Result.andThen_ok,List.map_toArray,map_cons,List.map_nil,hs,hx,hr];rcases h2.2 with ⟨h6,_⟩|⟨g',cap',cur,rfl,_⟩
 ·exact absurd h6 h5
 ·exact hK _ _ (h g' cap' w' h2 ((aR _ w).grown h3 (by intro k hk;left;rw[hk];simp)) (by rcases h4 with h4|h4;exact .inl h4.symm;exact .inr (by simpa [Value.ownBlock] using h4)))
theorem UJ {α:Type} (enc:α->List Value) (s:Nat) (hs:∀ x,(enc x).length=s) (z0:α) (za:Array Value) (hz:za.toList=enc z0) (n:Nat):(madeCells za (n*s)).toList=(List.replicate n z0).flatMap enc:=by
 have hsz:za.size=s:=by rw[<-Array.length_toList,hz,hs]
 apply List.ext_getElem?
 intro j;by_cases hj:j<n*s
 ·have hs0:0<s:=by
   rcases Nat.eq_zero_or_pos s with h|h
   ·subst h;simp at hj
   ·exact h
  have hq:j / s<n:=Nat.div_lt_of_lt_mul (by rw[Nat.mul_comm];exact hj);have hd:j=j / s*s+j % s:=by rw[Nat.mul_comm];exact (Nat.div_add_mod j s).symm
  have h1:=flat_get enc s hs (List.replicate n z0) (j / s) (j % s) z0 (by simp[hq]) (Nat.mod_lt _ hs0);rw[<-hd] at h1;rw[h1,<-hz];have hm:j % s<za.size:=by rw[hsz];exact Nat.mod_lt _ hs0
  simp only[madeCells,Array.toList_map,Array.toList_range,getElem?_map,List.getElem?_range hj,Option.map_some,hsz];rw[Array.getElem?_toList,Array.getElem?_eq_getElem hm,getElem!_pos za (j % s) hm]
 ·rw[List.getElem?_eq_none (by simp[madeCells];omega),List.getElem?_eq_none (by rw[dK enc s hs];simp;omega)]
theorem wpList_make_row {α:Type} (enc:α->List Value) {P:Program} {w:World} {ops:Array Oper} {rest:List Oper} {o:Oper} {a:Act} {Q:Exit->Act->World->Prop}
  (hg:o.guard=none) (l c:Operand) (t:TypeId) (hop:o.op=Op.makeSlice t l c)
  (e:TypeId) (i:TypeInfo) (z:Value) (size bytes:Nat) (h1:P.underlying t=some (.slice e)) (h2:P.info? e=some i) (h3:i.zero=some z) (h4:i.size=size) (h5:i.bytes=bytes)
  (hs:∀ x,(enc x).length=size) (z0:α) (hz:z.cells.toList=enc z0)
  (kl kc:IntKind) (L C:Int) (n:Nat) (hl:a.eval l=.int kl L) (hc:a.eval c=.int kc C) (hL:L=(n:Int)) (hC:C=(n:Int)) (b2:bytes*n<=281474976710656) (b3:n<=maxLen)
  (hK:∀ w',aO enc e size w' w.heap.size n (List.replicate n z0)->Oy [] w w'->w'.heap.size=w.heap.size+1->wpList P ops Q rest (a.put o.dst (.slice (some ⟨w.heap.size,0,none⟩) n n)) w') :
  wpList P ops Q (o::rest) a w:=by
 refine wpList_plain hg fun K hK'=>?_;subst h4;subst h5;have h63:(n:Int)<=9223372036854775807:=by simp only[maxLen] at b3;omega
 have hb':(i.bytes:Int)*(n:Int)<=281474976710656:=by
  have h:((i.bytes*n:Nat):Int)<=281474976710656:=by omega
  rwa [Int.natCast_mul] at h
 have hr:=run_make (P:=P) w t e i z h1 h2 h3 kl kc n n (by omega) (Int.le_refl _) hb' h63;simp only[Int.toNat_natCast] at hr;subst hL;subst hC;unfold Oper.wp;simp only[execOp,hop,hl,hc,Sem.run_bind,hr,Result.andThen_ok,Sem.run_pure,Oper.upon_value];refine hK' _ _ (hK _ ⟨_,bG _ _,?_,by simp,b3,?_⟩ ((aR [] w).alloc _) (by simp))
 ·simp[madeCells]
 ·rw[List.length_replicate,UJ enc i.size hs z0 z.cells hz n,take_of_length_le (by rw[dK enc i.size hs];simp)]
end
end
section
open Go.ChangeShapes Go.WideShapes Go.ChangeAt Go.RowKit Go.Deep
theorem law_own:ownKnob Tryz.prog.godebug=none:=by kernel_rfl
theorem qZ:laidOutB Tryz.prog=true:=by kernel_rfl
def Stop (p:Prop):Prop:=p
theorem aW {p:Prop} (h:Stop p):p:=h
theorem bH {p:Prop} (h:p):Stop p:=h
theorem addr_add (b o j:Nat):(⟨b,o,none⟩:Addr).add j=⟨b,o+j,none⟩:=by
 unfold Addr.add;split
 ·rename_i h0;simp only[h0,Nat.add_zero]
 ·rfl
theorem aO.set1 {α:Type} {f:α->Value} {e:TypeId} {w:World} {g cap:Nat} {l:List α} (h:aO (fun x=>[f x]) e 1 w g cap l) {i:Nat} (hi:i<l.length) (x:α) :
  aO (fun x=>[f x]) e 1 (w.setCell ⟨g,i,none⟩ (f x)) g cap (l.set i x):=by
 obtain⟨cur,hg,h1,h2,h3,h4⟩:=h;have hic:i<cur.size:=by omega
 have hrow:aO (fun x=>[f x]) e 1 w g cap l:=⟨cur,hg,h1,h2,h3,h4⟩;refine aO.set (enc:=fun x=>[f x]) (s:=1) (fun _=>rfl) hi hrow hg (x:=x) ?_;rw[aH (f x) hg]
 have e1:cur.setIfInBounds i (f x)=(cur.toList.take (i*1) ++ [f x] ++ cur.toList.drop (i*1+1)).toArray:=by
  apply Array.ext'
  rw[Array.toList_setIfInBounds,List.set_eq_take_append_cons_drop,if_pos (by simpa using hic)];simp
 rw[e1]
structure aU {α:Type} (ec:α->List Value) (s:Nat) (w:World) (p:Option Addr) (n cap:Nat) (l:List α):Prop where
 len:l.length=n
 le:n<=cap
 cm:cap<=maxLen
 nil:p=none->cap=0
 cell:∀ i x,l[i]? = some x->∃ b off,p=some ⟨b,off,none⟩/\b<w.heap.size/\∀ j v,(ec x)[j]? = some v->w.cell? ⟨b,off+(i*s+j),none⟩=some v
theorem aU.kept {α:Type} {ec:α->List Value} {s:Nat} {w w':World} {p:Option Addr} {n cap:Nat} {l:List α} (h:aU ec s w p n cap l) (ho:Oy [] w w'):aU ec s w' p n cap l:=by
 refine⟨h.len,h.le,h.cm,h.nil,fun i x hx=>?_⟩;obtain⟨b,off,hp,hb,hc⟩:=h.cell i x hx;exact⟨b,off,hp,Nat.lt_of_lt_of_le hb ho.size,fun j v hv=>by rw[ho.cell hb (by simp)];exact hc j v hv⟩
theorem aU.take {α:Type} {ec:α->List Value} {s:Nat} {w:World} {p:Option Addr} {n cap:Nat} {l:List α} (h:aU ec s w p n cap l) (k:Nat) (hk:k<=n):aU ec s w p k cap (l.take k):=by
 refine⟨by rw[length_take,h.len];omega,by have:=h.le;omega,h.cm,h.nil,fun i x hx=>?_⟩
 have hik:i<k:=by
  rcases Nat.lt_or_ge i k with h|h
  ·exact h
  ·rw[List.getElem?_take,if_neg (by omega)] at hx;cases hx
 rw[List.getElem?_take,if_pos hik] at hx;exact h.cell i x hx
section
variable {H:Type} {enc:TypeId × Value->H} {P:Program} {w:World}
theorem rR {α:Type} (ec:α->List Value) (s:Nat) (hs:∀ x,(ec x).length=s) (hs0:0<s) (G:α->Prop) {t e:TypeId} {p:Option Addr} {n cap:Nat} {d:DataW H} {ps:List MemPlace}
  (ht:P.underlying t=some (.slice e)) (hC:P.cellsOf e=s) (h:DataW.Trod enc P w 0 (fun _=>true) true t (.slice p n cap) d ps)
  (hel:∀ fuel cs x,DataW.trod enc P w 0 (fun _=>true) true fuel e cs=some x->∃ a,cs=ec a/\G a) :
  ∃ l:List α,aU ec s w p n cap l/\∀ x∈l,G x:=by
 obtain⟨fuel,hf⟩:=h;rcases open_slice ht hf with ⟨h0,_⟩|⟨a,len,cap',m,fu,D,Pl,hcs,hb,hl,hm,hmm,hx,hi⟩
 ·simp[Value.cells] at h0
  obtain⟨rfl,rfl,rfl⟩:=h0;exact⟨[],⟨rfl,Nat.le_refl _,Nat.zero_le _,fun _=>rfl,by simp⟩,by simp⟩
 ·simp[Value.cells] at hcs
  obtain⟨rfl,rfl,rfl⟩:=hcs;have hmc:m=cap:=by simpa using hmm
  subst hmc;rw[hC] at hi
  have key:∀ i,∃ x:Option α,i<n->∃ y,x=some y/\G y/\∀ j v,(ec y)[j]? = some v->w.cell? (a.add (i*s+j))=some v:=by
   intro i;by_cases hin:i<n
   ·obtain⟨cs',hc,ht'⟩:=hi i (by omega)
    obtain⟨y,rfl,hg⟩:=hel _ _ _ ht';obtain⟨_,hcl,hat⟩:=World.cells?_some hc;refine⟨some y,fun _=>⟨y,rfl,hg,fun j v hv=>?_⟩⟩;have hj:j<s:=by have:=(List.getElem?_eq_some_iff.1 hv).1;rw[hs] at this;exact this
    rw[<-add_add,hat j hj];exact hv
   ·exact⟨none,fun h=>absurd h hin⟩
  obtain⟨f,hf'⟩:=Classical.axiomOfChoice key
  have hlen:((List.range n).filterMap f).length=n:=by
   have hall:∀ i∈List.range n,(f i).isSome=true:=fun i hi=>by
    obtain⟨y,hy,_⟩:=hf' i (List.mem_range.1 hi);simp[hy]
   have:∀ L:List Nat,(∀ i∈L,(f i).isSome=true)->(L.filterMap f).length=L.length:=by
    intro L;induction L with
    | nil=>simp
    | cons x L ih =>
     intro h;have hx:=h x (by simp);rw[Option.isSome_iff_exists] at hx;obtain⟨y,hy⟩:=hx;simp[hy,ih (fun i hi=>h i (by simp[hi]))]
   rw[this _ hall];simp
  have hget:∀ k,k<=n->((List.range k).filterMap f).length=k/\∀ i,i<k->((List.range k).filterMap f)[i]? = f i:=by
   intro k;induction k with
   | zero=>intro _;simp
   | succ k ih =>
    intro hk;obtain⟨h1,h2⟩:=ih (by omega);obtain⟨y,hy,_⟩:=hf' k (by omega);rw[List.range_succ,List.filterMap_append];simp only[List.filterMap_cons,hy,List.filterMap_nil];refine⟨by simp[h1],fun i hi=>?_⟩;by_cases hik:i<k
    ·rw[List.getElem?_append_left (by omega)];exact h2 i hik
    ·have:i=k:=by omega
     subst this;rw[List.getElem?_append_right (by omega),h1];simp[hy]
  refine⟨(List.range n).filterMap f,⟨hlen,hl,hm,by simp,fun i x hx=>?_⟩,fun x hx=>?_⟩
  ·have hin:i<n:=by have:=(List.getElem?_eq_some_iff.1 hx).1;omega
   rw[(hget n (Nat.le_refl _)).2 i hin] at hx;obtain⟨y,hy,hg,hc⟩:=hf' i hin;rw[hy] at hx
   cases hx
   obtain⟨y0,_,_,hz⟩:=hf' 0 (by omega);have hz0:=hz 0 _ (List.getElem?_eq_getElem (by rw[hs];exact hs0));simp only[Nat.zero_mul,Nat.add_zero] at hz0
   have hspot:a.spot=none:=by
    have:=World.cell?_spot hz0;simpa [Addr.add] using this
   obtain⟨b,off,spot⟩:=a;simp only at hspot;subst hspot
   have hadd:∀ j,(⟨b,off,none⟩:Addr).add j=⟨b,off+j,none⟩:=fun j=>by
    unfold Addr.add;split
    ·rename_i h0;simp only[h0,Nat.add_zero]
    ·rfl
   refine⟨b,off,rfl,?_,fun j v hv=>by rw[<-hadd];exact hc j v hv⟩;rw[hadd] at hz0;exact World.block_lt_of_cell? w _ hz0
  ·obtain⟨i,hi,hix⟩:=List.mem_filterMap.1 hx
   obtain⟨y,hy,hg,_⟩:=hf' i (List.mem_range.1 hi);rw[hy] at hix
   cases hix
   exact hg
theorem SX {k:IntKind} {t e:TypeId} {p:Option Addr} {n cap:Nat} {d:DataW H} {ps:List MemPlace} (ht:P.underlying t=some (.slice e)) (he:P.underlying e=some (.int k)) (hC:P.cellsOf e=1)
  (h:DataW.Trod enc P w 0 (fun _=>true) true t (.slice p n cap) d ps):∃ l:List Int,aU (fun z=>[.int k z]) 1 w p n cap l/\∀ z∈l,(Lit.int k z).wf=true:=
 rR _ 1 (fun _=>rfl) (by decide) _ ht hC h fun _ _ _ h=>by
  obtain⟨z,h1,_,h2⟩:=DataW.trod_int he h;exact⟨z,h1,h2⟩
end
end
section
open Go.RowKit
section
variable {α:Type} {enc:α->List Value} {e:TypeId} {s:Nat}
theorem aO.dI (hs:∀ x,(enc x).length=s) {w:World} {g cap n:Nat} {l:List α} (h:aO enc e s w g cap l) (hn:n=l.length):aU enc s w (some ⟨g,0,none⟩) n cap l:=by
 have h':=h;obtain⟨cur,hg,h1,h2,h3,h4⟩:=h';refine⟨hn.symm,by omega,h3,by simp,fun i x hx=>⟨g,0,rfl,h.lt,fun j v hv=>?_⟩⟩;have hj:j<s:=by have:=(List.getElem?_eq_some_iff.1 hv).1;rw[hs] at this;exact this
 rw[Nat.zero_add,h.cell hs hx hj];exact hv
def Own (enc:α->List Value) (e:TypeId) (s B:Nat) (w:World) (v:Value) (l:List α):Prop:=
 (v=.slice none 0 0/\l=[])\/∃ g cap,v=.slice (some ⟨g,0,none⟩) l.length cap/\B<=g/\aO enc e s w g cap l
theorem bR (B:Nat) (w:World):Own enc e s B w (.slice none 0 0) []:=.inl ⟨rfl,rfl⟩
theorem Own.kept {B:Nat} {w w':World} {v:Value} {l:List α} (h:Own enc e s B w v l) (ho:Oy [] w w'):Own enc e s B w' v l:=by
 rcases h with h|⟨g,cap,h1,h2,h3⟩
 ·exact .inl h
 ·exact .inr ⟨g,cap,h1,h2,h3.kept ho (by simp)⟩
theorem Own.lT {B:Nat} {w w':World} {v:Value} {l:List α} {S:List Nat} (h:Own enc e s B w v l) (ho:Oy S w w') (hS:∀ k∈S,k<B):Own enc e s B w' v l:=by
 rcases h with h|⟨g,cap,h1,h2,h3⟩
 ·exact .inl h
 ·exact .inr ⟨g,cap,h1,h2,h3.kept ho (fun hm=>by have:=hS g hm;omega)⟩
theorem Own.dI (hs:∀ x,(enc x).length=s) {B:Nat} {w:World} {v:Value} {l:List α} (h:Own enc e s B w v l):∃ p cap,v=.slice p l.length cap/\aU enc s w p l.length cap l:=by
 rcases h with ⟨rfl,rfl⟩|⟨g,cap,h1,h2,h3⟩
 ·exact⟨none,0,rfl,⟨rfl,Nat.le_refl _,Nat.zero_le _,fun _=>rfl,by simp⟩⟩
 ·exact⟨_,cap,h1,h3.dI hs rfl⟩
theorem vB (w:World):aU enc s w none 0 0 []:=⟨rfl,Nat.le_refl _,Nat.zero_le _,fun _=>rfl,by simp⟩
theorem bK {P:Program} {w0 w:World} {ops:Array Oper} {rest:List Oper} {o:Oper} {a:Act} {Q:Exit->Act->World->Prop} (hgd:o.guard=none) (sO xO:Operand) (t:TypeId)
  (ho:o.op=.call { callee:=.builtin .append,args:=#[sO,xO],argTypes:=#[t,t] })
  (e:TypeId) (z:Value) (size bytes:Nat) (ht:P.underlying t=some (.slice e)) (hi:(P.info? e).map (fun i=>(i.zero,i.size,i.bytes))=some (some z,size,bytes)) (hzs:z.cells.size=size) (hsz:0<size)
  (enc:α->List Value) (hs:∀ x,(enc x).length=size) (h1c:∀ x,∀ u∈enc x,u.oneCell'=true) (l:List α) (v:Value) (hv:a.eval sO=v) (hown:Own enc e size w0.heap.size w v l)
  (ad:Nat) (x:α) (hx:a.eval xO=.slice (some ⟨ad,0,none⟩) 1 1) (hnews:∀ j u,(enc x)[j]? = some u->w.cell? ⟨ad,j,none⟩=some u)
  (hlen:l.length+1<=maxLen) (hby:(l.length+1)*bytes<=140737488355328) (hb:Oy [] w0 w)
  (hK:∀ v' w',Own enc e size w0.heap.size w' v' (l ++ [x])->Oy [] w0 w'->Oy v.ownBlock.toList w w'->wpList P ops Q rest (a.put o.dst v') w'):wpList P ops Q (o::rest) a w:=by
 cases hi':P.info? e with
 | none=>rw[hi'] at hi;simp at hi
 | some i =>
  rw[hi'] at hi;simp only[Option.map_some,Option.some.injEq,Prod.mk.injEq] at hi;obtain⟨z1,z2,z3⟩:=hi;have hadd:∀ j,(⟨ad,0,none⟩:Addr).add j=⟨ad,j,none⟩:=fun j=>by rw[addr_add];simp
  have hfl:(l ++ [x]).flatMap enc=l.flatMap enc ++ enc x:=by simp
  have hblk:w.ownsRow 0 e size v l.length (l.flatMap enc):=by
   rcases hown with ⟨rfl,rfl⟩|⟨g,cap,rfl,_,h3⟩
   ·exact⟨by simp,.inl ⟨rfl,rfl⟩⟩
   ·exact h3.owns hs (Nat.zero_le _)
  have hge:∀ k,v.ownBlock=some k->w0.heap.size<=k:=by
   intro k hk;rcases hown with ⟨rfl,rfl⟩|⟨g,cap,rfl,h2,_⟩
   ·simp[Value.ownBlock] at hk
   ·simp only[Value.ownBlock,Option.some.injEq] at hk;omega
  refine dB hgd sO xO t ho e i z size bytes ht hi' z1 z2 z3 hzs hsz v l.length (l.flatMap enc) hv hblk ⟨ad,0,none⟩ 1 1 (enc x) hx (by rw[hs];omega) (fun j u hj=>by rw[hadd];exact hnews j u hj) (h1c x) hlen hby (by decide) ?_;intro g' cap' w' hown' ho' hg';rw[<-hfl] at hown';refine hK _ _ (.inr ⟨g',cap',by simp,?_,aO.kN hown' (by simp)⟩) (hb.trans ho' (fun y hy=>.inr (hge y (by simpa using hy)))) ho';rcases hg' with h|rfl
  ·exact hge _ h
  ·exact hb.size
theorem wpList_make_own (enc:α->List Value) {P:Program} {w:World} {ops:Array Oper} {rest:List Oper} {o:Oper} {a:Act} {Q:Exit->Act->World->Prop}
  (hg:o.guard=none) (l c:Operand) (t:TypeId) (hop:o.op=Op.makeSlice t l c)
  (e:TypeId) (z:Value) (size bytes:Nat) (ht:P.underlying t=some (.slice e)) (hi:(P.info? e).map (fun i=>(i.zero,i.size,i.bytes))=some (some z,size,bytes))
  (hs:∀ x,(enc x).length=size) (z0:α) (hz:z.cells.toList=enc z0)
  (kl kc:IntKind) (L C:Int) (n:Nat) (hl:a.eval l=.int kl L) (hc:a.eval c=.int kc C) (hL:L=(n:Int)) (hC:C=(n:Int)) (b2:bytes*n<=281474976710656) (b3:n<=maxLen)
  (hK:∀ w',aO enc e size w' w.heap.size n (List.replicate n z0)->Oy [] w w'->w'.heap.size=w.heap.size+1->wpList P ops Q rest (a.put o.dst (.slice (some ⟨w.heap.size,0,none⟩) n n)) w') :
  wpList P ops Q (o::rest) a w:=by
 cases hi':P.info? e with
 | none=>rw[hi'] at hi;simp at hi
 | some i =>
  rw[hi'] at hi;simp only[Option.map_some,Option.some.injEq,Prod.mk.injEq] at hi;obtain⟨z1,z2,z3⟩:=hi;exact wpList_make_row enc hg l c t hop e i z size bytes ht hi' z1 z2 z3 hs z0 hz kl kc L C n hl hc hL hC b2 b3 hK
end
end
section
open Go.RowKit
section
variable {K V:Type} [DecidableEq K]
def gI (k:K):List MapEntry->List K->Nat->Option (Nat × Value)
 | e::es,k'::ks,i=>if k=k' then some (i,e.val) else gI k es ks (i+1)
 | _,_,_=>none
structure FZ (P:Program) (KT:TypeId) (kE:K->Value):Prop where
 check:∀ (e:Bool) (k:K) (w:World),(Instr.checkKey e 10000 KT (kE k)).run P w=.ok () w
 find:∀ (k:K) (es:List MapEntry) (ks:List K) (w:World),es.map (·.key)=ks.map kE->(Instr.findKey KT (kE k) es).run P w=.ok (gI k es ks 0) w
 bits:∀ k,Instr.sameBits 10000 (kE k) (kE k)=true
def look (k:K):List (K × V)->Option V
 | []=>none
 | p::r=>if k=p.1 then some p.2 else look k r
def yZ (k:K) (v:V):List (K × V)->List (K × V)
 | []=>[(k,v)]
 | p::r=>if k=p.1 then (k,v)::r else p::yZ k v r
theorem ZW (k:K) (v:V) (l:List (K × V)) (k':K):look k' (yZ k v l)=if k'=k then some v else look k' l:=by
 induction l with
 | nil=>simp[yZ,look]
 | cons p r ih =>
  unfold yZ;by_cases h:k=p.1
  ·rw[if_pos h]
   simp only[look];by_cases h':k'=k
   ·simp[h']
   ·rw[if_neg h',if_neg h',if_neg (fun e=>h' (e.trans h.symm))]
  ·rw[if_neg h]
   simp only[look,ih];by_cases h':k'=p.1
   ·rw[if_pos h',if_neg (fun e=>h (e.symm.trans h')),if_pos h']
   ·rw[if_neg h',if_neg h']
def MapL (kE:K->Value) (vE:V->Value) (w:World) (b:Nat) (l:List (K × V)):Prop:=
 ∃ es clock,w.heap[b]? = some (.map es clock)/\es.toList.map (·.key)=l.map (fun p=>kE p.1)/\es.toList.map (·.val)=l.map (fun p=>vE p.2)
def mI (kE:K->Value) (vE:V->Value) (w:World) (b:Nat) (f:K->Option V):Prop:=∃ l,MapL kE vE w b l/\∀ k,f k=look k l
variable {kE:K->Value} {vE:V->Value}
theorem mI.kept {w w':World} {b:Nat} {f:K->Option V} {S:List Nat} (h:mI kE vE w b f) (ho:Oy S w w') (hn:b ∉ S):mI kE vE w' b f:=by
 obtain⟨l,⟨es,c,h1,h2,h3⟩,h4⟩:=h;exact⟨l,⟨es,c,ho.got h1 hn,h2,h3⟩,h4⟩
theorem mI.lt {w:World} {b:Nat} {f:K->Option V} (h:mI kE vE w b f):b<w.heap.size:=by
 obtain⟨l,⟨es,c,h1,_⟩,_⟩:=h;exact aF h1
theorem qY {w:World} {b:Nat} {c:Nat} (h:w.heap[b]? = some (.map #[] c)):mI kE vE w b (fun _=>none):=⟨[],⟨#[],c,h,rfl,rfl⟩,fun _=>rfl⟩
theorem vZ (k:K):∀ (l:List (K × V)) (es:List MapEntry) (i:Nat),es.map (·.val)=l.map (fun p=>vE p.2) ->
  (gI k es (l.map (·.1)) i).map (·.2)=(look k l).map vE
 | [],es,i,_=>by cases es<;>simp[gI,look]
 | p::l,[],i,h=>by simp at h
 | p::l,e::es,i,h=>by
  simp only[map_cons,List.cons.injEq] at h;simp only[map_cons,gI,look];split
  ·simp[h.1]
  ·exact vZ k l es (i+1) h.2
theorem pF (k:K):∀ (l:List (K × V)) (es:List MapEntry) (i:Nat),es.length=l.length->gI k es (l.map (·.1)) i=none->∀ v,yZ k v l=l ++ [(k,v)]
 | [],_,_,_,_,_=>rfl
 | p::l,[],_,h,_,_=>by simp at h
 | p::l,e::es,i,h,hf,v=>by
  simp only[map_cons,gI] at hf;split at hf
  ·cases hf
  ·rename_i hne
   rw[yZ,if_neg hne,pF k l es (i+1) (by simpa using h) hf v,List.cons_append]
theorem vY (k:K):∀ (l:List (K × V)) (es:List MapEntry) (i j:Nat) (x:Value),es.length=l.length->gI k es (l.map (·.1)) i=some (j,x) ->
  ∃ n,j=i+n/\n<l.length/\(∀ v,yZ k v l=l.set n (k,v))/\(l[n]?).map (·.1)=some k
 | [],[],_,_,_,_,hf=>by simp[gI] at hf
 | [],_::_,_,_,_,h,_=>by simp at h
 | p::l,[],_,_,_,h,_=>by simp at h
 | p::l,e::es,i,j,x,h,hf=>by
  simp only[map_cons,gI] at hf;split at hf
  ·rename_i he
   simp only[Option.some.injEq,Prod.mk.injEq] at hf;refine⟨0,by omega,by simp,fun v=>?_,by simp[he]⟩;rw[yZ,if_pos he];rfl
  ·rename_i hne
   obtain⟨n,h1,h2,h3,h4⟩:=vY k l es (i+1) j x (by simpa using h) hf;refine⟨n+1,by omega,by simpa using h2,fun v=>?_,by simpa using h4⟩;rw[yZ,if_neg hne,h3 v];rfl
theorem kM {P:Program} {w:World} {t KT ET:TypeId} {b:Nat} {f:K->Option V} {z:Value} (O:FZ P KT kE) (ht:P.underlying t=some (.map KT ET)) (hz:(zeroValue ET).run P w=.ok z w)
  (h:mI kE vE w b f) (k:K) (ok:Bool) :
  (Instr.lookup t (.map (some b)) (kE k) ok).run P w=.ok (if ok then .tuple #[((f k).map vE).getD z,.bool (f k).isSome] else ((f k).map vE).getD z) w:=by
 obtain⟨l,⟨es,c,h1,h2,h3⟩,h4⟩:=h;have hfind:=O.find k es.toList (l.map (·.1)) w (by rw[h2,List.map_map];rfl);have hl:=vZ (vE:=vE) k l es.toList 0 h3;rw[<-h4 k] at hl
 cases hp:gI k es.toList (l.map (·.1)) 0 with
 | none =>
  rw[hp] at hfind hl
  have hn:f k=none:=by
   cases hq:f k with
   | none=>rfl
   | some v=>rw[hq] at hl;simp at hl
  simp[Instr.lookup,run_underlying ht,MapKept.run_getObj_map h1,O.check,hfind,hz,hn,Result.andThen]
 | some q =>
  rw[hp] at hfind hl
  cases hq:f k with
  | none=>rw[hq] at hl;simp at hl
  | some v =>
   rw[hq] at hl;simp only[Option.map_some,Option.some.injEq] at hl;obtain⟨j,x⟩:=q;simp only at hl;subst hl;simp[Instr.lookup,run_underlying ht,MapKept.run_getObj_map h1,O.check,hfind,Result.andThen]
theorem vM {P:Program} {w:World} {t KT ET:TypeId} {b:Nat} {f:K->Option V} (O:FZ P KT kE) (ht:P.underlying t=some (.map KT ET)) (h:mI kE vE w b f) (k:K) (v:V) :
  ∃ w',(Instr.mapUpdate t (.map (some b)) (kE k) (vE v)).run P w=.ok () w'/\mI kE vE w' b (fun k'=>if k'=k then some v else f k')/\Oy [b] w w'/\w'.heap.size=w.heap.size:=by
 obtain⟨l,⟨es,c,h1,h2,h3⟩,h4⟩:=h;have hlen:es.toList.length=l.length:=by have:=congrArg List.length h2;simpa using this
 have hfind:=O.find k es.toList (l.map (·.1)) w (by rw[h2,List.map_map];rfl)
 have hset:∀ o:Obj,Oy [b] w { w with heap:=w.heap.setIfInBounds b o }:=fun o =>
  ⟨rfl,rfl,rfl,by simp,fun j _ hj=>by
   simp only[List.mem_singleton] at hj;simp[Ne.symm hj]⟩
 have hlt:=aF h1;have hf:∀ k',(if k'=k then some v else f k')=look k' (yZ k v l):=fun k'=>by rw[ZW,h4 k']
 cases hp:gI k es.toList (l.map (·.1)) 0 with
 | none =>
  rw[hp] at hfind;refine⟨_,by simp[Instr.mapUpdate,run_underlying ht,MapKept.run_getObj_map h1,O.check,hfind,MapKept.run_setObj_map _ h1,Result.andThen];rfl,⟨yZ k v l,⟨es.push ⟨kE k,vE v,c⟩,c+1,by simp[hlt],?_,?_⟩,hf⟩,hset _,by simp⟩
  ·rw[pF k l es.toList 0 hlen hp v];simp[h2]
  ·rw[pF k l es.toList 0 hlen hp v];simp[h3]
 | some q =>
  obtain⟨j,x⟩:=q;rw[hp] at hfind;obtain⟨n,e1,e2,e3,e4⟩:=vY k l es.toList 0 j x hlen hp;have hjn:j=n:=by omega
  subst hjn
  have hkey:(es[j]?).map (·.key)=some (kE k):=by
   have:=congrArg (fun m=>m[j]?) h2;simp only[getElem?_map,Array.getElem?_toList] at this;rw[this]
   cases hq:l[j]? with
   | none=>rw[hq] at e4;cases e4
   | some p=>rw[hq] at e4;simp at e4;simp[e4]
  have hstay:(Instr.keyThatStays (kE k) (kE k)).run P w=.ok (kE k) w:=by simp[Instr.keyThatStays,O.bits]
  refine⟨_,by simp[Instr.mapUpdate,run_underlying ht,MapKept.run_getObj_map h1,O.check,hfind,hkey,hstay,MapKept.run_setObj_map _ h1,Result.andThen];rfl,⟨yZ k v l,⟨es.modify j fun e=>{ e with key:=kE k,val:=vE v },c,by simp[hlt],?_,?_⟩,hf⟩,hset _,by simp⟩
  ·rw[e3 v]
   apply List.ext_getElem?
   intro i;have:=congrArg (fun m=>m[i]?) h2;simp only[getElem?_map,Array.getElem?_toList,Array.getElem?_modify,List.getElem?_set] at this |-;by_cases hij:j=i
   ·subst hij
    have hjl:j<es.size:=by rw[<-Array.length_toList,hlen];exact e2
    simp[e2,hjl]
   ·simp[hij,this]
  ·rw[e3 v]
   apply List.ext_getElem?
   intro i;have:=congrArg (fun m=>m[i]?) h3;simp only[getElem?_map,Array.getElem?_toList,Array.getElem?_modify,List.getElem?_set] at this |-;by_cases hij:j=i
   ·subst hij
    have hjl:j<es.size:=by rw[<-Array.length_toList,hlen];exact e2
    simp[e2,hjl]
   ·simp[hij,this]
theorem jZ {P:Program} {w:World} {ops:Array Oper} {rest:List Oper} {o:Oper} {a:Act} {Q:Exit->Act->World->Prop} (hg:o.guard=none) (m x:Operand) (t:TypeId) (ok:Bool) (hop:o.op=Op.lookup t m x ok)
  (KT ET:TypeId) (O:FZ P KT kE) (ht:P.underlying t=some (.map KT ET)) (z:Value) (hz:(zeroValue ET).run P w=.ok z w) (b:Nat) (f:K->Option V) (hm:a.eval m=.map (some b)) (h:mI kE vE w b f) (k:K) (hx:a.eval x=kE k)
  (hK:wpList P ops Q rest (a.put o.dst (if ok then .tuple #[((f k).map vE).getD z,.bool (f k).isSome] else ((f k).map vE).getD z)) w):wpList P ops Q (o::rest) a w:=by
 refine wpList_plain hg fun K' hK'=>?_;have hrun:=kM O ht hz h k ok;unfold Oper.wp;simp only[execOp,hop,hm,hx,Sem.run_bind,hrun,Result.andThen_ok,Sem.run_pure,Oper.upon_value];exact hK' _ _ hK
theorem iI {P:Program} {w:World} {ops:Array Oper} {rest:List Oper} {o:Oper} {a:Act} {Q:Exit->Act->World->Prop} (hg:o.guard=none) (m x v:Operand) (t:TypeId) (hop:o.op=Op.mapUpdate t m x v)
  (KT ET:TypeId) (O:FZ P KT kE) (ht:P.underlying t=some (.map KT ET)) (b:Nat) (f:K->Option V) (hm:a.eval m=.map (some b)) (h:mI kE vE w b f) (k:K) (hx:a.eval x=kE k) (u:V) (hv:a.eval v=vE u)
  (hK:∀ w',mI kE vE w' b (fun k'=>if k'=k then some u else f k')->Oy [b] w w'->w'.heap.size=w.heap.size->wpList P ops Q rest (a.put o.dst undef) w'):wpList P ops Q (o::rest) a w:=by
 refine wpList_plain hg fun K' hK'=>?_;obtain⟨w',hrun,h1,h2,h3⟩:=vM O ht h k u;unfold Oper.wp;simp only[execOp,hop,hm,hx,hv,Sem.run_bind,hrun,Result.andThen_ok,Sem.run_pure,Oper.upon_skip];exact hK' _ _ (hK w' h1 h2 h3)
theorem eF {P:Program} {KT:TypeId} {q:IntKind} (hk:P.underlying KT=some (.int q)):FZ P KT (fun n:Int=>Value.int q n) where
 check e k w:=MapKept.run_checkKey hk (by simp[MapKept.IsKey]) e 9999
 find k es ks w h:=by
  refine MapKept.run_findKey hk ?_
  have:∀ (es:List MapEntry) (ks:List Int) (i:Nat),es.map (·.key)=ks.map (fun n:Int=>Value.int q n)->Instr.findNow (.int q) (.int q k) es i=some (gI k es ks i):=by
   intro es;induction es with
   | nil=>intro ks i _;cases ks<;>rfl
   | cons e es ih =>
    intro ks i h
    cases ks with
    | nil=>simp at h
    | cons k' ks =>
     simp only[map_cons,List.cons.injEq] at h;simp only[Instr.findNow,h.1,Instr.sameNow,if_true,gI];by_cases hkk:k=k'
     ·simp[hkk]
     ·have:(k == k')=false:=by simp[hkk]
      simp only[this,if_neg hkk];exact ih ks (i+1) h.2
  exact this es ks 0 h
 bits k:=by simp[Instr.sameBits]
end
end
section
open Go.RowKit
def bA (R:Act->World->Prop):Exit->Act->World->Prop
 | .normal,a,w=>R a w
 | _,_,_=>False
section
variable {P:Program} {ops:Array Oper} {md:Region.Mode} {C:World->Prop} {R:Act->World->Prop}
def late (tl:List Nat) (listed:Array Bool):Prop:=∃ t∈tl,listed.getD t false=true
def fD (P:Program) (md:Region.Mode) (ops:Array Oper) (tl:List Nat) (C:World->Prop) (R:Act->World->Prop):Nat->Array Bool->Act->World->Prop
 | 0,listed,a,w=>(late tl listed\/C w)/\Region.ready md ops listed=[]/\R a w
 | f+1,listed,a,w=>(late tl listed\/C w)/\(Region.ready md ops listed=[]->R a w) /\
  ∀ i∈Region.ready md ops listed,wpOp P ops (bA R) i (fD P md ops tl C R f (listed.setIfInBounds i true)) a w
theorem AV {tl:List Nat}:∀ (f:Nat) (listed:Array Bool) (a:Act) (w:World),fD P md ops tl C R f listed a w->wpAny P md ops (bA R) f listed a w
 | 0,_,_,_,h=>⟨h.2.1,h.2.2⟩
 | f+1,_,_,_,h=>⟨h.2.1,fun i hi=>wpOp_mono (fun a' w' h'=>AV f _ a' w' h') (h.2.2 i hi)⟩
def CallsC (P:Program) (C:World->Prop) (o:Oper) (v:Value) (a:Act):Prop:=
 ∀ w,C w->∃ f args,(execOp a.eval o).run P w=.ok (.enter f args) w/\Calls P f args w fun e w'=>e=.returned v/\w=w'
def dR (P:Program) (ops:Array Oper) (C:World->Prop) (o:Oper) (v:Value) (a:Act):Prop:=
 (Region.wanted o (yielded ops a.tmps)=true/\((∀ w,C w->(execOp a.eval o).run P w=.ok (.value v) w)\/CallsC P C o v a)) \/
 (Region.wanted o (yielded ops a.tmps)=false/\v=undef)
theorem dR.wpOp {i:Nat} {o:Oper} {v:Value} {a:Act} {Q:Exit->Act->World->Prop} (hi:ops[i]? = some o) (hy:dR P ops C o v a)
  {K:Act->World->Prop} {w:World} (hw':C w) (h:K (a.put o.dst v) w):wpOp P ops Q i K a w:=by
 unfold Go.wpOp;simp only[hi];rcases hy with ⟨hw,hv⟩|⟨hw,rfl⟩
 ·rcases hv with hv|hv
  ·simp only[hw,if_true,Oper.wp,hv w hw',Oper.upon];exact .inl h
  ·obtain⟨f,args,hr,hc⟩:=hv w hw'
   simp only[hw,if_true,Oper.wp,hr,Oper.upon];refine .inl (hc.mono fun e w'' he=>?_);obtain⟨rfl,rfl⟩:=he;exact h
 ·simp only[hw,Bool.false_eq_true,if_false];exact h
theorem dR.of_same {o:Oper} {v:Value} {a a':Act} (hy:dR P ops C o v a) (he:execOp a'.eval o=execOp a.eval o)
  (hw:Region.wanted o (yielded ops a'.tmps)=Region.wanted o (yielded ops a.tmps)):dR P ops C o v a':=by
 unfold dR CallsC at *;rw[he,hw];exact hy
theorem SS {j:Nat} {oi oj:Oper} {v:Value} (hj:ops[j]? = some oj) (hap:oi.apart ops oj=true)
  (hsi:∀ cs b,oi.op≠ .select cs b) (hsj:∀ cs b,oj.op≠ .select cs b) {K:Act->World->Prop} {a:Act} {w:World}
  (hy:dR P ops C oi v a) (h:wpOp P ops (bA R) j K (a.put oi.dst v) w) :
  wpOp P ops (bA R) j (fun a' w'=>dR P ops C oi v a'/\K (a'.put oi.dst v) w') a w:=by
 obtain⟨h1,h2,h3⟩:=Oper.apart_spec hap
 have keep:∀ (a:Act),dR P ops C oi v a->∀ u,dR P ops C oi v (a.put oj.dst u):=fun a hy u =>
  hy.of_same (execOp_put oi hsi a oj.dst u h3) (wanted_put oi a oj.dst u h3)
 have keepD:∀ d,dR P ops C oi v { a with defers:=d::a.defers }:=fun d=>hy.of_same rfl rfl;unfold wpOp at *;simp only[hj] at *;rw[wanted_put oj a oi.dst v h1] at h;split
 ·rename_i hw
  simp only[hw,if_true] at h;rcases h with h|⟨hasks,a0,w0,hlets⟩
  case inr=>exact hlets.elim
  refine .inl ?_;unfold Oper.wp at *;rw[execOp_put oj hsj a oi.dst v h1] at h;generalize (execOp a.eval oj).run P w=r at *
  cases r with
  | ok n w' =>
   cases n<;>simp only[Oper.upon] at h |-
   case value u=>exact⟨keep a hy u,by rw[<-Act.put_comm a v u h2];exact h⟩
   case skip=>exact⟨keep a hy _,by rw[<-Act.put_comm a v undef h2];exact h⟩
   case defer d =>
    refine⟨keep _ (keepD d) _,?_⟩;rw[<-Act.put_comm _ v undef h2,<-Act.put_defers];exact h
   case enter f args =>
    refine Calls.mono h fun e w'' he=>?_
    cases e with
    | returned u=>exact⟨keep a hy u,by rw[<-Act.put_comm a v u h2];exact he⟩
    | panicked c=>exact he
    | outgrown=>exact he
   case row row args=>exact Rows.mono h fun u w'' he=>⟨keep a hy u,by rw[<-Act.put_comm a v u h2];exact he⟩
  | halt x w' =>
   cases x<;>simp only[Oper.upon] at h |-
   case panic u=>exact h
 ·rename_i hw
  simp only[hw] at h;exact⟨keep a hy _,by rw[<-Act.put_comm a v undef h2];exact h⟩
theorem jT {tl:List Nat} {listed:Array Bool} {i:Nat} (h:late tl (listed.setIfInBounds i true)) (hi:i ∉ tl):late tl listed:=by
 obtain⟨t,ht,hl⟩:=h;refine⟨t,ht,?_⟩;have hne:i≠t:=fun e=>by rw[e] at hi;exact hi ht
 rw[getD_set_ne false hne] at hl;exact hl
theorem nP {hd tl:List Nat} {listed:Array Bool} (hB:fI md ops hd tl=true) (inv:jL md ops tl listed) {i:Nat} (hi:i∈hd) (hun:listed.getD i true=false):¬ late tl listed:=by
 rintro⟨t,ht,hl⟩;have h1:=all_eq_true.1 (all_eq_true.1 hB t ht) i hi
 cases ho:ops[t]? with
 | none =>
  cases hs:ops.size with
  | zero=>rw[hs] at h1;simp[needs] at h1
  | succ n=>rw[hs] at h1;simp[needs,ho] at h1
 | some ot =>
  have:=oP inv.closed _ t ot ho (inv.closed t ot ho hl) h1;rw[getD_both hun] at this
  cases this
theorem F7 {hd tl:List Nat} {i:Nat} {oi:Oper} {v:Value} (hi:ops[i]? = some oi) (hsel:∀ (j:Nat) (o:Oper) cs b,ops[j]? = some o->o.op≠ .select cs b)
  (hB:fI md ops hd tl=true) (hin:i∈hd) (hit:i ∉ tl) :
  ∀ (fuel:Nat) (listed:Array Bool) (a:Act) (w:World),jL md ops tl listed ->
   (∀ j oj,ops[j]? = some oj->j≠i->listed.getD j true=false->(∀ e∈oj.after,Region.binds md e=true->e.on≠i)->oi.apart ops oj=true) ->
   i∈Region.ready md ops listed->dR P ops C oi v a ->
   fD P md ops tl C R fuel (listed.setIfInBounds i true) (a.put oi.dst v) w->fD P md ops tl C R (fuel+1) listed a w:=by
 intro fuel;induction fuel with
 | zero =>
  intro listed a w inv _ hr hy H;have hun:=(mem_ready.1 hr).1;have hnl:=nP hB inv hin hun;have hC:C w:=H.1.resolve_left (fun h=>hnl (jT h hit));refine⟨.inr hC,fun h=>(by rw[h] at hr;cases hr),fun j hj=>?_⟩;by_cases hji:j=i
  ·subst hji;exact hy.wpOp hi hC H
  ·have:=ready_mono hj hji
   rw[H.2.1] at this
   cases this
 | succ fuel ih =>
  intro listed a w inv hfree hr hy H;have hun:=(mem_ready.1 hr).1;have hnl:=nP hB inv hin hun;have hC:C w:=H.1.resolve_left (fun h=>hnl (jT h hit));refine⟨.inr hC,fun h=>(by rw[h] at hr;cases hr),fun j hj=>?_⟩;by_cases hji:j=i
  ·subst hji;exact hy.wpOp hi hC H
  ·have h1:=H.2.2 j (ready_mono hj hji)
   obtain⟨hjun,oj,hoj,hall⟩:=mem_ready.1 hj
   have hnot:∀ e∈oj.after,Region.binds md e=true->e.on≠i:=fun e he hb heq=>by
    have h1:=hall e he hb;rw[heq,getD_both hun] at h1
    cases h1
   have h2:=SS hoj (hfree j oj hoj hji hjun hnot) (fun cs b=>hsel i oi cs b hi) (fun cs b=>hsel j oj cs b hoj) hy h1
   have hfree':∀ k ok,ops[k]? = some ok->k≠i->(listed.setIfInBounds j true).getD k true=false ->
     (∀ e∈ok.after,Region.binds md e=true->e.on≠i)->oi.apart ops ok=true:=fun k ok hk hki hun hno=>by
    refine hfree k ok hk hki ?_ hno;by_cases hjk:j=k
    ·subst hjk;exact hjun
    ·rw[getD_set_ne true hjk] at hun;exact hun
   refine wpOp_mono (fun a' w' h3=>ih (listed.setIfInBounds j true) a' w' (inv.set hj) hfree' (ready_mono hr (Ne.symm hji)) h3.1 ?_) h2;rw[Array.setIfInBounds_comm _ _ hji];exact h3.2
def nY (w:World) (v:Value):Result Next->Prop
 | .ok (.value u) w'=>w'=w/\u=v
 | _=>False
def JE (P:Program) (o:Oper) (a:Act) (w:World) (v:Value):Prop:=nY w v ((execOp a.eval o).run P w)
def calm (P:Program) (o:Oper) (a:Act) (C:World->Prop) (next:Act->Prop):Prop:=∃ v,(∀ w,C w->JE P o a w v)/\next (a.put o.dst v)
attribute [go_sem] calm JE nY
def bL (P:Program) (ops:Array Oper) (C:World->Prop) (Q:Act->Prop):List Oper->Act->Prop
 | [],a=>Q a
 | o::rest,a=>if Region.wanted o (yielded ops a.tmps) then (calm P o a C (bL P ops C Q rest)\/∃ v,CallsC P C o v a/\bL P ops C Q rest (a.put o.dst v)) else bL P ops C Q rest (a.put o.dst undef)
theorem aK {Q:Act->Prop} {a:Act} (h:Q a):bL P ops C Q [] a:=h
theorem aJ {Q:Act->Prop} {a:Act} {o:Oper} {rest:List Oper}
  (h:∀ K:Act->Prop,(∀ a,bL P ops C Q rest a->K a)->if Region.wanted o (yielded ops a.tmps) then calm P o a C K else K (a.put o.dst undef)):bL P ops C Q (o::rest) a:=by
 have:=h _ (fun _ h=>h);unfold bL;split
 ·rename_i hw;simp only[hw,if_true] at this;exact .inl this
 ·rename_i hw;simp only[hw] at this;exact this
theorem rO {o:Oper} {a:Act} {K:Act->Prop} (h:if Region.wanted o (yielded ops a.tmps) then (calm P o a C K\/∃ v,CallsC P C o v a/\K (a.put o.dst v)) else K (a.put o.dst undef)):∃ v,dR P ops C o v a/\K (a.put o.dst v):=by
 by_cases hw:Region.wanted o (yielded ops a.tmps)=true
 ·simp only[hw,if_true] at h
  rcases h with ⟨v,h1,h2⟩|⟨v,h1,h2⟩
  case inr=>exact⟨v,.inl ⟨hw,.inr h1⟩,h2⟩
  refine⟨v,.inl ⟨hw,.inl fun w hc=>?_⟩,h2⟩;have:=h1 w hc;unfold JE at this;generalize (execOp a.eval o).run P w=r at *
  cases r with
  | ok n w' =>
   cases n<;>simp only[nY] at this
   obtain⟨rfl,rfl⟩:=this;rfl
  | halt x w'=>simp only[nY] at this
 ·simp only[hw] at h
  exact⟨undef,.inr ⟨by simpa using hw,rfl⟩,h⟩
def fF (n:Nat) (hd:List Nat):Array Bool:=hd.foldl (fun l i=>l.setIfInBounds i true) (Array.replicate n false)
def iB (md:Region.Mode) (ops:Array Oper):List Nat->Array Bool->Bool
 | [],_=>true
 | k::hd,listed=>(Region.ready md ops listed).contains k && Region.free md ops listed k && iB md ops hd (listed.setIfInBounds k true)
theorem AZ {hd0 tl:List Nat} {f:Nat} {w:World} (hsel:Region.noSelect ops=true) (hht:fI md ops hd0 tl=true) :
  ∀ (hd:List Nat) (l:List Oper) (listed:Array Bool) (a:Act),(l.map some=hd.map (fun i=>ops[i]?))->(∀ i∈hd,i∈hd0/\i ∉ tl)->jL md ops tl listed->iB md ops hd listed=true ->
  bL P ops C (fun a'=>fD P md ops tl C R f (hd.foldl (fun l i=>l.setIfInBounds i true) listed) a' w) l a ->
  fD P md ops tl C R (hd.length+f) listed a w
 | [],[],listed,a,_,_,_,_,h=>by simpa [bL] using h
 | [],_::_,_,_,hl,_,_,_,_=>by simp at hl
 | _::_,[],_,_,hl,_,_,_,_=>by simp at hl
 | k::hd,o::l,listed,a,hl,hm,inv,hB,h=>by
  simp only[map_cons,List.cons.injEq] at hl;obtain⟨h0,hl⟩:=hl;simp only[iB,Bool.and_eq_true] at hB;obtain⟨⟨hr,hf⟩,hB'⟩:=hB;have hr':k∈Region.ready md ops listed:=by simpa using hr
  obtain⟨v,hy,hK⟩:=rO (ops:=ops) (C:=C) (K:=bL P ops C (fun a'=>fD P md ops tl C R f ((k::hd).foldl (fun l i=>l.setIfInBounds i true) listed) a' w) l) h;have ih:=AZ (f:=f) (w:=w) hsel hht hd l (listed.setIfInBounds k true) (a.put o.dst v) hl (fun i hi=>hm i (by simp[hi])) (inv.set hr') hB' (by simpa using hK);rw[List.length_cons,show hd.length+1+f=(hd.length+f)+1 by omega];exact F7 h0.symm (Region.noSelect_spec hsel) hht (hm k (by simp)).1 (hm k (by simp)).2 _ listed a w inv (Region.free_spec h0.symm hf) hr' hy ih
def DN (l:List Oper) (hd tl:List Nat):Bool:=Region.noSelect l.toArray && iB .any l.toArray hd (Array.replicate l.length false) && hd.all (fun i=>decide (i<l.length)) && decide (hd.length<=l.length) &&
 fI .any l.toArray hd tl && hd.all (fun i=>!tl.contains i)
theorem AQ {id:Nat} {Q:Exit->Act->World->Prop} {a:Act} {w:World} {l:List Oper} (hd tl:List Nat) (C:World->Prop) (R:Act->World->Prop) (hm:P.follows .mixedOrders=true) (hB:DN l hd tl=true)
  (h:bL P l.toArray C (fun a'=>fD P .any l.toArray tl C R (l.length-hd.length) (fF l.length hd) a' w.drew) (pick l hd) a)
  (hR:∀ a' w',R a' w'->Q .normal a' w'):(Code.region id l.toArray true).wp P Q a w:=by
 simp only[DN,Bool.and_eq_true,decide_eq_true_eq] at hB;obtain⟨⟨⟨⟨⟨hsel,htk⟩,hin⟩,hlen⟩,hht⟩,hdis⟩:=hB;have hd':∀ i∈hd,i∈hd/\i ∉ tl:=fun i hi=>⟨hi,by have:=all_eq_true.1 hdis i hi;simpa using this⟩
 have inv0:jL .any l.toArray tl (Array.replicate l.length false):=
  ⟨by simp,fun j oj _ hl=>(by rw[getD_replicate_false] at hl;cases hl)⟩
 have h1:=AZ (P:=P) (C:=C) (R:=R) (md:=.any) (f:=l.length-hd.length) (w:=w.drew) hsel hht hd (pick l hd) (Array.replicate l.length false) a (gT l hd hin) hd' inv0 htk h;have h2:=AV _ _ _ _ h1;rw[show hd.length+(l.length-hd.length)=l.length by omega] at h2;refine Code.wp_mono (Q:=bA R) (fun e a w q=>?_) (wp_region_any hm (by simpa using h2))
 cases e<;>first|exact hR _ _ q|exact q.elim
theorem nI {X:Type} {S:X->Act->Prop}:∀ (l:List Oper) (a:Act),bL P ops C (fun a'=>∃ x,S x a') l a->∃ x,bL P ops C (S x) l a
 | [],_,h=>h
 | o::l,a,h=>by
  unfold bL at h;split at h
  ·rename_i hw
   rcases h with ⟨v,h1,h2⟩|⟨v,h1,h2⟩
   ·obtain⟨x,hx⟩:=nI l _ h2
    exact⟨x,by unfold bL;rw[if_pos hw];exact .inl ⟨v,h1,hx⟩⟩
   ·obtain⟨x,hx⟩:=nI l _ h2
    exact⟨x,by unfold bL;rw[if_pos hw];exact .inr ⟨v,h1,hx⟩⟩
  ·rename_i hw
   obtain⟨x,hx⟩:=nI l _ h;exact⟨x,by unfold bL;rw[if_neg hw];exact hx⟩
theorem dN {Q1 Q2:Act->Prop} (hq:∀ a,Q1 a->Q2 a):∀ (l:List Oper) (a:Act),bL P ops C Q1 l a->bL P ops C Q2 l a
 | [],_,h=>hq _ h
 | o::l,a,h=>by
  unfold bL at h |-;split
  ·rename_i hw;simp only[hw,if_true] at h;rcases h with ⟨v,h1,h2⟩|⟨v,h1,h2⟩
   ·exact .inl ⟨v,h1,dN hq l _ h2⟩
   ·exact .inr ⟨v,h1,dN hq l _ h2⟩
  ·rename_i hw;simp only[hw] at h;exact dN hq l _ h
def Rest (P:Program) (l:List Oper) (tl:List Nat) (C:World->Prop) (Q:Exit->Act->World->Prop) (n:Nat) (listed:Array Bool) (w:World) (a:Act):Prop:=
 ∃ R:Act->World->Prop,(∀ a' w',R a' w'->Q .normal a' w')/\fD P .any l.toArray tl C R n listed a w
theorem dG {id:Nat} {Q:Exit->Act->World->Prop} {a:Act} {w:World} {l:List Oper} (hd tl:List Nat) (C:World->Prop) (hm:P.follows .mixedOrders=true) (hB:DN l hd tl=true)
  (h:bL P l.toArray C (Rest P l tl C Q (l.length-hd.length) (fF l.length hd) w.drew) (pick l hd) a):(Code.region id l.toArray true).wp P Q a w:=by
 obtain⟨R,hR⟩:=nI (S:=fun R a'=>(∀ a' w',R a' w'->Q .normal a' w')/\fD P .any l.toArray tl C R (l.length-hd.length) (fF l.length hd) a' w.drew) _ _ h
 have hq:∀ a' w',R a' w'->Q .normal a' w':=by
  have key:∀ (lo:List Oper) (a:Act) (S:Act->Prop),bL P l.toArray C (fun a'=>(∀ a' w',R a' w'->Q .normal a' w')/\S a') lo a->∀ a' w',R a' w'->Q .normal a' w':=by
   intro lo;induction lo with
   | nil=>intro a S h;exact h.1
   | cons o lo ih =>
    intro a S h;unfold bL at h;split at h
    ·rcases h with ⟨v,_,h2⟩|⟨v,_,h2⟩
     ·exact ih _ _ h2
     ·exact ih _ _ h2
    ·exact ih _ _ h
  exact key _ _ _ hR
 exact AQ hd tl C R hm hB (dN (fun a h=>h.2) _ _ hR) hq
theorem Rest.by {l:List Oper} {tl:List Nat} {Q:Exit->Act->World->Prop} {n:Nat} {listed:Array Bool} {w:World} {a:Act} {X:Type} (F:X->Act->Act) (G:X->World->Prop)
  (h1:∀ x w',G x w'->Q .normal (F x a) w') (h2:fD P .any l.toArray tl C (fun a' w'=>∃ x,a'=F x a/\G x w') n listed a w):Rest P l tl C Q n listed w a:=
 ⟨_,fun _ _ ⟨x,e,g⟩=>e ▸ h1 x _ g,h2⟩
theorem aL {tl:List Nat} {f:Nat} {listed:Array Bool} {a:Act} {w:World} (rs:List Nat) (hr:Region.ready md ops listed=rs) (hne:rs≠[]) (hC:late tl listed\/C w)
  (h:∀ i∈rs,wpOp P ops (bA R) i (fD P md ops tl C R f (listed.setIfInBounds i true)) a w):fD P md ops tl C R (f+1) listed a w:=
 ⟨hC,fun h0=>absurd (hr.symm.trans h0) hne,fun i hi=>h i (hr ▸ hi)⟩
theorem dX {tl:List Nat} {listed:Array Bool} {a:Act} {w:World} (hr:Region.ready md ops listed=[]) (hC:late tl listed\/C w) (h:R a w):fD P md ops tl C R 0 listed a w:=⟨hC,hr,h⟩
theorem aT {tl:List Nat} {listed:Array Bool} (h:tl.any (fun t=>listed.getD t false)=true):late tl listed:=by
 obtain⟨t,ht,hl⟩:=List.any_eq_true.1 h;exact⟨t,ht,hl⟩
theorem aD {i:Nat} {o:Oper} {K:Act->World->Prop} {a:Act} {w:World} (hi:ops[i]? = some o) (h:wpList P ops (bA K) [o] a w):wpOp P ops (bA R) i K a w:=by
 unfold wpOp;simp only[hi];unfold wpList at h;split
 ·rename_i hw
  simp only[hw,if_true] at h;rcases h with h|⟨_,a0,w0,hl⟩
  ·refine .inl ?_
   unfold Oper.wp at *;generalize (execOp a.eval o).run P w=r at *
   cases r with
   | ok n w' =>
    cases n<;>simp only[Oper.upon,wpList,bA] at h |-<;>first|exact h|exact Calls.mono h (fun e w'' he=>by cases e<;>first|exact he|exact he.elim|(obtain⟨_,_,h⟩:=he;exact h.elim))
   | halt x w'=>cases x<;>simp only[Oper.upon,bA] at h |-
  ·exact hl.elim
 ·rename_i hw;simp only[hw] at h;exact h
end
end
end Go.Proofs.YtppjhbjmfkiejaaGreat
