/- Nf Ng Np -/
import Derived.Test.YthbgcpfklmlnjaaGreatFF1
import Derived.Laws.EntriesVeiled
import Derived.Defers
import Derived.Recover
import Derived.Test.YthbgcpfklmlnjaaGreatFSb
import Derived.Test.YthbgcpfklmlnjaaGreatFMx
namespace Go.Proofs.YthbgcpfklmlnjaaGreat
set_option maxRecDepth 100000
set_option maxHeartbeats 4000000
open Go.RowKit
section
open Go.Sort
def pnc (e:Int):List PanicEntry:=[{ v:=.iface 34 (.int .i64 e),recovered:=false }]
theorem DK (v:Value) (older:List PanicEntry) (w:World) :
  CallsD Tryz.prog 163 #[] (.panicking ({ v:=v,recovered:=false }::older)) w fun e u' w'=>e=.returned (.tuple #[])/\u'=.panicking ({ v:=v,recovered:=true }::older)/\w'=w:=by
 refine callsD_of_wpS Tryz.func163 rfl fun c₀ cs hu=>?_;apply wpS_region
 simp[wpOpsS,go_sem,recoverD,hu,Tryz.ntmps163,bodyPostS,results,Tryz.results163]
theorem V6 (w:World) :
  CallsD Tryz.prog 163 #[] .returning w fun e u' w'=>e=.returned (.tuple #[])/\u'=.returning/\w'=w:=by
 refine callsD_of_wpS Tryz.func163 rfl fun c₀ cs hu=>?_;apply wpS_region
 cases c₀
 simp_all [wpOpsS,go_sem,recoverD,Tryz.ntmps163,bodyPostS,results,Tryz.results163]
theorem uW {w:World} {Q:World->Prop} (g:FuncId) (caps:Array Value) (hc:∀ w,(callFunc g caps).run Tryz.prog w=.ok (.enter g caps) w) (h:Calls Tryz.prog g caps w fun e w'=>(e=.returned (.tuple #[])\/∃ x,e=.panicked (pnc x))/\Q w') :
  Calls Tryz.prog 147 #[.func (.func g) #[] caps] w fun e w'=>e=.returned (.tuple #[])/\Q w':=by
 have H:=Lib.hid h;clear h;go_enter_defers Tryz.func147,Tryz.ntmps147
 go_wp2_with fail
 refine H.out.mono ?_;rintro e w' ⟨rfl|⟨x,rfl⟩,hq⟩
 ·go_wp2
  refine leaves_cons (f:=163) (args:=#[]) (by simp) (by simp[go_sem]) ?_;refine (V6 _).mono ?_;rintro e u' w'' ⟨rfl,rfl,rfl⟩;simp[Leaves,settle,results,Tryz.results147,go_sem,hq]
 ·go_wp2
  refine leaves_cons (f:=163) (args:=#[]) (by simp) (by simp[go_sem]) ?_;refine (DK _ _ _).mono ?_;rintro e u' w'' ⟨rfl,rfl,rfl⟩;simp[Leaves,settle,results,Tryz.results147,go_sem,hq]
theorem F9 (w:World):Calls Tryz.prog 153 #[.int .i64 0] w fun e w'=>e=.returned (.tuple #[])/\Only [] w w':=by
 have m:=dD w [];have k:=m.out.k;go_enter Tryz.func153,Tryz.ntmps153
 go_wp2;exact lN rfl rfl fun w o g=>⟨rfl,o⟩
theorem MB (x:Int) (hx:x≠0) (w:World):Calls Tryz.prog 153 #[.int .i64 x] w fun e w'=>e=.panicked (pnc x)/\Only [] w w':=by
 have k0:(x != 0)=true:=by simpa using hx
 have m:=dD w [];have k:=m.out.k;go_enter Tryz.func153,Tryz.ntmps153
 go_wp2;exact⟨rfl,rfl,Only.refl _ _⟩
end
section
open Go.Sort
def iW (s v t:Int):Option Int:=if (nX s (3900000000000000000+t)).2=0 then some (lU ((nX s (3900000000000000000+t)).1+v)) else none
def KJ (x:Iv) (v:Int):Option Iv:=if bW x=true then (if bW ⟨x.lo+v,x.hi+v⟩=true then some ⟨x.lo+v,x.hi+v⟩ else none) else none
def iH (x:Iv):Int:=x.lo / 2+x.hi / 2+bits .and .i64 (bits .and .i64 x.lo x.hi) 1
def GH (x:Iv) (v:Int):Option Iv:=if bW x=true then (if bW ⟨iH x+v,iH x+v⟩=true then some ⟨iH x+v,iH x+v⟩ else none) else none
structure Fg where
 drop:Bool
 hd:Np
 iv:Iv
 hold:Int
def Fg.vZ (g:Fg):Option Int->Fg
 | some x=>{ g with hd:={ g.hd with rcv:=x } }
 | none=>g
def Fg.FW (g:Fg):Option Int->Fg
 | some x=>{ g with hd:={ g.hd with xmt:=x } }
 | none=>g
def Fg.xW (g:Fg):Option Iv->Fg
 | some x=>{ g with iv:=x }
 | none=>g
def gH (t:Int) (g:Fg) (f:Ft):Fg:=
 if f.k=1 then { g with drop:=true }
 else if f.k=2 then
  let g1:=g.vZ (iW g.hd.rcv f.v t)
  let g2:=g1.FW (iW g1.hd.xmt f.v t)
  g2.xW (KJ g2.iv f.v)
 else if f.k=3 then g.xW (GH g.iv f.v)
 else if f.k=4 then { g with hd:={ g.hd with leap:=3,strat:=0 } }
 else if f.k=5 then { g with hd:={ g.hd with strat:=f.v } }
 else if f.k=6 then { g with hd:={ g.hd with leap:=f.v } }
 else if f.k=7 then { g with hd:={ g.hd with org:=bits .xor .u64 g.hd.org 1 } }
 else if f.k=8 then { g with hd:={ g.hd with leap:=3,strat:=0,rid:=1380013125 } }
 else if f.k=9 then { g with hold:=g.hold+f.v }
 else g
def wY (n t:Int) (f:Ft):Bool:=decide (f.n=n) && (decide (f.f<=t) && decide (t<f.t))
def lV (l:List Ft) (n t:Int) (p:Np) (v:Iv):Fg:=(l.filter (wY n t)).foldl (gH t) ⟨false,p,v,0⟩
end
section
def yB (R:Act->World->Prop) (E:List PanicEntry->List Deferred->World->Prop):Exit->Act->World->Prop
 | .normal,a,w=>R a w
 | .panic c,a,w=>E c a.defers w
 | _,_,_=>False
section
variable {P:Program} {ops:Array Oper} {md:Region.Mode} {C:World->Prop} {R:Act->World->Prop} {E:List PanicEntry->List Deferred->World->Prop}
theorem OJ (a:Act) (d:Option Nat) (v:Value):(a.put d v).defers=a.defers:=by cases d<;>rfl
def mJ (P:Program) (md:Region.Mode) (ops:Array Oper) (tl:List Nat) (C:World->Prop) (R:Act->World->Prop) (E:List PanicEntry->List Deferred->World->Prop):Nat->Array Bool->Act->World->Prop
 | 0,listed,a,w=>(late tl listed\/C w)/\Region.ready md ops listed=[]/\R a w
 |f+1,listed,a,w=>(late tl listed\/C w)/\(Region.ready md ops listed=[]->R a w) /\
  ∀ i∈Region.ready md ops listed,wpOp P ops (yB R E) i (mJ P md ops tl C R E f (listed.setIfInBounds i true)) a w
theorem zU {tl:List Nat}:∀ (f:Nat) (listed:Array Bool) (a:Act) (w:World),mJ P md ops tl C R E f listed a w->wpAny P md ops (yB R E) f listed a w
 | 0,_,_,_,h=>⟨h.2.1,h.2.2⟩
 | f+1,_,_,_,h=>⟨h.2.1,fun i hi=>wpOp_mono (fun a' w' h'=>zU f _ a' w' h') (h.2.2 i hi)⟩
theorem RF {j:Nat} {oi oj:Oper} {v:Value} (hj:ops[j]? = some oj) (hap:oi.apart ops oj=true)
  (hsi:∀ cs b,oi.op≠ .select cs b) (hsj:∀ cs b,oj.op≠ .select cs b) {K:Act->World->Prop} {a:Act} {w:World}
  (hy:dN P ops C oi v a) (h:wpOp P ops (yB R E) j K (a.put oi.dst v) w) :
  wpOp P ops (yB R E) j (fun a' w'=>dN P ops C oi v a'/\K (a'.put oi.dst v) w') a w:=by
 obtain⟨h1,h2,h3⟩:=Oper.apart_spec hap
 have keep:∀ (a:Act),dN P ops C oi v a->∀ u,dN P ops C oi v (a.put oj.dst u):=fun a hy u =>
  hy.of_same (execOp_put oi hsi a oj.dst u h3) (wanted_put oi a oj.dst u h3)
 have keepD:∀ d,dN P ops C oi v { a with defers:=d::a.defers }:=fun d=>hy.of_same rfl rfl;unfold wpOp at *;simp only[hj] at *;rw[wanted_put oj a oi.dst v h1] at h;split
 ·rename_i hw
  simp only[hw,if_true] at h;rcases h with h|⟨hasks,a0,w0,hlets⟩
  case inr=>exact hlets.elim
  refine .inl ?_;unfold Oper.wp at *;rw[execOp_put oj hsj a oi.dst v h1] at h;generalize (execOp a.eval oj).run P w=r at *
  cases r with
  | ok n w' =>
   cases n<;>simp only[Oper.upon] at h |-
   case value u=>exact⟨keep a hy u,by rw[<-Act.put_comm a v u h2];exact h⟩
   case skip=>exact⟨keep a hy _,by rw[<-Act.put_comm a v undef h2];exact h⟩
   case defer d =>
    refine⟨keep _ (keepD d) _,?_⟩;rw[<-Act.put_comm _ v undef h2,<-Act.put_defers];exact h
   case enter f args =>
    refine Calls.mono h fun e w'' he=>?_
    cases e with
    | returned u=>exact⟨keep a hy u,by rw[<-Act.put_comm a v u h2];exact he⟩
    | panicked c=>simpa only[yB,OJ] using he
    | outgrown=>exact he
   case row row args=>exact Rows.mono h fun u w'' he=>⟨keep a hy u,by rw[<-Act.put_comm a v u h2];exact he⟩
  | halt x w' =>
   cases x<;>simp only[Oper.upon] at h |-
   case panic u=>simpa only[yB,OJ] using h
 ·rename_i hw
  simp only[hw] at h;exact⟨keep a hy _,by rw[<-Act.put_comm a v undef h2];exact h⟩
theorem FJ {hd tl:List Nat} {i:Nat} {oi:Oper} {v:Value} (hi:ops[i]? = some oi) (hsel:∀ (j:Nat) (o:Oper) cs b,ops[j]? = some o->o.op≠ .select cs b)
  (hB:fE md ops hd tl=true) (hin:i∈hd) (hit:i ∉ tl) :
  ∀ (fuel:Nat) (listed:Array Bool) (a:Act) (w:World),jG md ops tl listed ->
   (∀ j oj,ops[j]? = some oj->j≠i->listed.getD j true=false->(∀ e∈oj.after,Region.binds md e=true->e.on≠i)->oi.apart ops oj=true) ->
   i∈Region.ready md ops listed->dN P ops C oi v a ->
   mJ P md ops tl C R E fuel (listed.setIfInBounds i true) (a.put oi.dst v) w->mJ P md ops tl C R E (fuel+1) listed a w:=by
 intro fuel;induction fuel with
 | zero =>
  intro listed a w inv _ hr hy H;have hun:=(mem_ready.1 hr).1;have hnl:=nJ hB inv hin hun;have hC:C w:=H.1.resolve_left (fun h=>hnl (jN h hit));refine⟨.inr hC,fun h=>(by rw[h] at hr;cases hr),fun j hj=>?_⟩;by_cases hji:j=i
  ·subst hji;exact hy.wpOp hi hC H
  ·have:=ready_mono hj hji
   rw[H.2.1] at this
   cases this
 | succ fuel ih =>
  intro listed a w inv hfree hr hy H;have hun:=(mem_ready.1 hr).1;have hnl:=nJ hB inv hin hun;have hC:C w:=H.1.resolve_left (fun h=>hnl (jN h hit));refine⟨.inr hC,fun h=>(by rw[h] at hr;cases hr),fun j hj=>?_⟩;by_cases hji:j=i
  ·subst hji;exact hy.wpOp hi hC H
  ·have h1:=H.2.2 j (ready_mono hj hji)
   obtain⟨hjun,oj,hoj,hall⟩:=mem_ready.1 hj
   have hnot:∀ e∈oj.after,Region.binds md e=true->e.on≠i:=fun e he hb heq=>by
    have h1:=hall e he hb;rw[heq,getD_both hun] at h1
    cases h1
   have h2:=RF hoj (hfree j oj hoj hji hjun hnot) (fun cs b=>hsel i oi cs b hi) (fun cs b=>hsel j oj cs b hoj) hy h1
   have hfree':∀ k ok,ops[k]? = some ok->k≠i->(listed.setIfInBounds j true).getD k true=false ->
     (∀ e∈ok.after,Region.binds md e=true->e.on≠i)->oi.apart ops ok=true:=fun k ok hk hki hun hno=>by
    refine hfree k ok hk hki ?_ hno;by_cases hjk:j=k
    ·subst hjk;exact hjun
    ·rw[getD_set_ne true hjk] at hun;exact hun
   refine wpOp_mono (fun a' w' h3=>ih (listed.setIfInBounds j true) a' w' (inv.set hj) hfree' (ready_mono hr (Ne.symm hji)) h3.1 ?_) h2;rw[Array.setIfInBounds_comm _ _ hji];exact h3.2
theorem zW {hd0 tl:List Nat} {f:Nat} {w:World} (hsel:Region.noSelect ops=true) (hht:fE md ops hd0 tl=true) :
  ∀ (hd:List Nat) (l:List Oper) (listed:Array Bool) (a:Act),(l.map some=hd.map (fun i=>ops[i]?))->(∀ i∈hd,i∈hd0/\i ∉ tl)->jG md ops tl listed->gW md ops hd listed=true ->
  bL P ops C (fun a'=>mJ P md ops tl C R E f (hd.foldl (fun l i=>l.setIfInBounds i true) listed) a' w) l a ->
  mJ P md ops tl C R E (hd.length+f) listed a w
 | [],[],listed,a,_,_,_,_,h=>by simpa [bL] using h
 | [],_::_,_,_,hl,_,_,_,_=>by simp at hl
 | _::_,[],_,_,hl,_,_,_,_=>by simp at hl
 |k::hd,o::l,listed,a,hl,hm,inv,hB,h=>by
  simp only[List.map_cons,List.cons.injEq] at hl;obtain⟨h0,hl⟩:=hl;simp only[gW,Bool.and_eq_true] at hB;obtain⟨⟨hr,hf⟩,hB'⟩:=hB;have hr':k∈Region.ready md ops listed:=by simpa using hr
  obtain⟨v,hy,hK⟩:=qU (ops:=ops) (C:=C) (K:=bL P ops C (fun a'=>mJ P md ops tl C R E f ((k::hd).foldl (fun l i=>l.setIfInBounds i true) listed) a' w) l) h;have ih:=zW (f:=f) (w:=w) hsel hht hd l (listed.setIfInBounds k true) (a.put o.dst v) hl (fun i hi=>hm i (by simp[hi])) (inv.set hr') hB' (by simpa using hK);rw[List.length_cons,show hd.length+1+f=(hd.length+f)+1 by omega];exact FJ h0.symm (Region.noSelect_spec hsel) hht (hm k (by simp)).1 (hm k (by simp)).2 _ listed a w inv (Region.free_spec h0.symm hf) hr' hy ih
theorem jT {id:Nat} {Q:Exit->Act->World->Prop} {a:Act} {w:World} {l:List Oper} (hd tl:List Nat) (C:World->Prop) (R:Act->World->Prop) (E:List PanicEntry->List Deferred->World->Prop) (hm:P.follows .mixedOrders=true) (hB:CQ l hd tl=true)
  (h:bL P l.toArray C (fun a'=>mJ P .any l.toArray tl C R E (l.length-hd.length) (eY l.length hd) a' w.drew) (pick l hd) a)
  (hR:∀ a' w',R a' w'->Q .normal a' w') (hE:∀ c a' w',E c a'.defers w'->Q (.panic c) a' w'):(Code.region id l.toArray true).wp P Q a w:=by
 simp only[CQ,Bool.and_eq_true,decide_eq_true_eq] at hB;obtain⟨⟨⟨⟨⟨hsel,htk⟩,hin⟩,hlen⟩,hht⟩,hdis⟩:=hB;have hd':∀ i∈hd,i∈hd/\i ∉ tl:=fun i hi=>⟨hi,by have:=List.all_eq_true.1 hdis i hi;simpa using this⟩
 have inv0:jG .any l.toArray tl (Array.replicate l.length false):=
  ⟨by simp,fun j oj _ hl=>(by rw[getD_replicate_false] at hl;cases hl)⟩
 have h1:=zW (P:=P) (C:=C) (R:=R) (E:=E) (md:=.any) (f:=l.length-hd.length) (w:=w.drew) hsel hht hd (pick l hd) (Array.replicate l.length false) a (gK l hd hin) hd' inv0 htk h;have h2:=zU _ _ _ _ h1;rw[show hd.length+(l.length-hd.length)=l.length by omega] at h2;refine Code.wp_mono (Q:=yB R E) (fun e a w q=>?_) (wp_region_any hm (by simpa using h2))
 cases e<;>first|exact hR _ _ q|exact hE _ _ _ q|exact q.elim
theorem pY {tl:List Nat} {f:Nat} {listed:Array Bool} {a:Act} {w:World} (rs:List Nat) (hr:Region.ready md ops listed=rs) (hne:rs≠[]) (hC:late tl listed\/C w)
  (h:∀ i∈rs,wpOp P ops (yB R E) i (mJ P md ops tl C R E f (listed.setIfInBounds i true)) a w):mJ P md ops tl C R E (f+1) listed a w:=
 ⟨hC,fun h0=>absurd (hr.symm.trans h0) hne,fun i hi=>h i (hr ▸ hi)⟩
theorem vS {i:Nat} {o:Oper} {K:Act->World->Prop} {a:Act} {w:World} (hi:ops[i]? = some o) (h:wpList P ops (yB K E) [o] a w):wpOp P ops (yB R E) i K a w:=by
 unfold wpOp;simp only[hi];unfold wpList at h;split
 ·rename_i hw
  simp only[hw,if_true] at h;rcases h with h|⟨_,a0,w0,hl⟩
  ·refine .inl ?_
   unfold Oper.wp at *;generalize (execOp a.eval o).run P w=r at *
   cases r with
   | ok n w' =>
    cases n<;>simp only[Oper.upon,wpList,yB] at h |-<;>first|exact h|exact Calls.mono h (fun e w'' he=>by cases e<;>first|exact he|exact he.elim|(obtain⟨_,_,h⟩:=he;exact h.elim))
   | halt x w'=>cases x<;>simp only[Oper.upon,yB] at h |-<;>exact h
  ·exact hl.elim
 ·rename_i hw;simp only[hw] at h;exact h
end
end
end Go.Proofs.YthbgcpfklmlnjaaGreat
