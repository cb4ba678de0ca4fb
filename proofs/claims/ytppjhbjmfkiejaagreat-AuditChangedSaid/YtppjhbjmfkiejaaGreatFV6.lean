/- Texts of one chain: Z0, Z1, Z2, Z3, Z4. Conditions: those named in each theorem. -/
import Derived.Test.YtppjhbjmfkiejaaGreatFV1
namespace Go.Proofs.YtppjhbjmfkiejaaGreat
open List (all_eq_true map_cons mem_cons mem_cons_of_mem mem_cons_self mem_of_getElem? mem_singleton pairwise_cons)
section
section
variable {w:World} {b:Nat} {t:TypeId}
theorem c_2 {a0 a1:Value} (h:w.heap[b]? = some (.cells #[a0,a1] t (0,0))):w.cell? ⟨b,0,none⟩=some a0/\w.cell? ⟨b,1,none⟩=some a1/\(∀ o,w.frozen? ⟨b,o,none⟩=false)/\b<w.heap.size:=
 ⟨aC h 0,aC h 1,aM h,aF h⟩
theorem uY {a0 a1 a2 a3:Value} (h:w.heap[b]? = some (.cells #[a0,a1,a2,a3] t (0,0))):w.cell? ⟨b,0,none⟩=some a0/\w.cell? ⟨b,1,none⟩=some a1/\w.cell? ⟨b,2,none⟩=some a2/\w.cell? ⟨b,3,none⟩=some a3/\(∀ o,w.frozen? ⟨b,o,none⟩=false)/\b<w.heap.size:=
 ⟨aC h 0,aC h 1,aC h 2,aC h 3,aM h,aF h⟩
theorem FV {a0 a1 a2 a3 a4:Value} (h:w.heap[b]? = some (.cells #[a0,a1,a2,a3,a4] t (0,0))):w.cell? ⟨b,0,none⟩=some a0/\w.cell? ⟨b,1,none⟩=some a1/\w.cell? ⟨b,2,none⟩=some a2/\w.cell? ⟨b,3,none⟩=some a3/\w.cell? ⟨b,4,none⟩=some a4/\(∀ o,w.frozen? ⟨b,o,none⟩=false)/\b<w.heap.size:=
 ⟨aC h 0,aC h 1,aC h 2,aC h 3,aC h 4,aM h,aF h⟩
theorem FU {a0 a1 a2 a3 a4 a5:Value} (h:w.heap[b]? = some (.cells #[a0,a1,a2,a3,a4,a5] t (0,0))):w.cell? ⟨b,0,none⟩=some a0/\w.cell? ⟨b,1,none⟩=some a1/\w.cell? ⟨b,2,none⟩=some a2/\w.cell? ⟨b,3,none⟩=some a3/\w.cell? ⟨b,4,none⟩=some a4/\w.cell? ⟨b,5,none⟩=some a5/\(∀ o,w.frozen? ⟨b,o,none⟩=false)/\b<w.heap.size:=
 ⟨aC h 0,aC h 1,aC h 2,aC h 3,aC h 4,aC h 5,aM h,aF h⟩
theorem c_12 {a0 a1 a2 a3 a4 a5 a6 a7 a8 a9 a10 a11:Value} (h:w.heap[b]? = some (.cells #[a0,a1,a2,a3,a4,a5,a6,a7,a8,a9,a10,a11] t (0,0))):w.cell? ⟨b,0,none⟩=some a0/\w.cell? ⟨b,1,none⟩=some a1/\w.cell? ⟨b,2,none⟩=some a2/\w.cell? ⟨b,3,none⟩=some a3/\w.cell? ⟨b,4,none⟩=some a4/\w.cell? ⟨b,5,none⟩=some a5/\w.cell? ⟨b,6,none⟩=some a6/\w.cell? ⟨b,7,none⟩=some a7/\w.cell? ⟨b,8,none⟩=some a8/\w.cell? ⟨b,9,none⟩=some a9/\w.cell? ⟨b,10,none⟩=some a10/\w.cell? ⟨b,11,none⟩=some a11/\(∀ o,w.frozen? ⟨b,o,none⟩=false)/\b<w.heap.size:=
 ⟨aC h 0,aC h 1,aC h 2,aC h 3,aC h 4,aC h 5,aC h 6,aC h 7,aC h 8,aC h 9,aC h 10,aC h 11,aM h,aF h⟩
theorem c_13 {a0 a1 a2 a3 a4 a5 a6 a7 a8 a9 a10 a11 a12:Value} (h:w.heap[b]? = some (.cells #[a0,a1,a2,a3,a4,a5,a6,a7,a8,a9,a10,a11,a12] t (0,0))):w.cell? ⟨b,0,none⟩=some a0/\w.cell? ⟨b,1,none⟩=some a1/\w.cell? ⟨b,2,none⟩=some a2/\w.cell? ⟨b,3,none⟩=some a3/\w.cell? ⟨b,4,none⟩=some a4/\w.cell? ⟨b,5,none⟩=some a5/\w.cell? ⟨b,6,none⟩=some a6/\w.cell? ⟨b,7,none⟩=some a7/\w.cell? ⟨b,8,none⟩=some a8/\w.cell? ⟨b,9,none⟩=some a9/\w.cell? ⟨b,10,none⟩=some a10/\w.cell? ⟨b,11,none⟩=some a11/\w.cell? ⟨b,12,none⟩=some a12/\(∀ o,w.frozen? ⟨b,o,none⟩=false)/\b<w.heap.size:=
 ⟨aC h 0,aC h 1,aC h 2,aC h 3,aC h 4,aC h 5,aC h 6,aC h 7,aC h 8,aC h 9,aC h 10,aC h 11,aC h 12,aM h,aF h⟩
theorem nZ {a0 a1 a2 a3 a4 a5 a6 a7 a8 a9 a10 a11 a12 a13 a14 a15 a16 a17 a18 a19 a20 a21 a22 a23 a24:Value} (h:w.heap[b]? = some (.cells #[a0,a1,a2,a3,a4,a5,a6,a7,a8,a9,a10,a11,a12,a13,a14,a15,a16,a17,a18,a19,a20,a21,a22,a23,a24] t (0,0))):w.cell? ⟨b,0,none⟩=some a0/\w.cell? ⟨b,1,none⟩=some a1/\w.cell? ⟨b,2,none⟩=some a2/\w.cell? ⟨b,3,none⟩=some a3/\w.cell? ⟨b,4,none⟩=some a4/\w.cell? ⟨b,5,none⟩=some a5/\w.cell? ⟨b,6,none⟩=some a6/\w.cell? ⟨b,7,none⟩=some a7/\w.cell? ⟨b,8,none⟩=some a8/\w.cell? ⟨b,9,none⟩=some a9/\w.cell? ⟨b,10,none⟩=some a10/\w.cell? ⟨b,11,none⟩=some a11/\w.cell? ⟨b,12,none⟩=some a12/\w.cell? ⟨b,13,none⟩=some a13/\w.cell? ⟨b,14,none⟩=some a14/\w.cell? ⟨b,15,none⟩=some a15/\w.cell? ⟨b,16,none⟩=some a16/\w.cell? ⟨b,17,none⟩=some a17/\w.cell? ⟨b,18,none⟩=some a18/\w.cell? ⟨b,19,none⟩=some a19/\w.cell? ⟨b,20,none⟩=some a20/\w.cell? ⟨b,21,none⟩=some a21/\w.cell? ⟨b,22,none⟩=some a22/\w.cell? ⟨b,23,none⟩=some a23/\w.cell? ⟨b,24,none⟩=some a24/\(∀ o,w.frozen? ⟨b,o,none⟩=false)/\b<w.heap.size:=
 ⟨aC h 0,aC h 1,aC h 2,aC h 3,aC h 4,aC h 5,aC h 6,aC h 7,aC h 8,aC h 9,aC h 10,aC h 11,aC h 12,aC h 13,aC h 14,aC h 15,aC h 16,aC h 17,aC h 18,aC h 19,aC h 20,aC h 21,aC h 22,aC h 23,aC h 24,aM h,aF h⟩
theorem OM {a0 a1 a2 a3 a4 a5 a6 a7 a8 a9 a10 a11 a12 a13 a14 a15 a16 a17 a18 a19 a20 a21 a22 a23 a24 a25 a26 a27 a28:Value} (h:w.heap[b]? = some (.cells #[a0,a1,a2,a3,a4,a5,a6,a7,a8,a9,a10,a11,a12,a13,a14,a15,a16,a17,a18,a19,a20,a21,a22,a23,a24,a25,a26,a27,a28] t (0,0))):w.cell? ⟨b,0,none⟩=some a0/\w.cell? ⟨b,1,none⟩=some a1/\w.cell? ⟨b,2,none⟩=some a2/\w.cell? ⟨b,3,none⟩=some a3/\w.cell? ⟨b,4,none⟩=some a4/\w.cell? ⟨b,5,none⟩=some a5/\w.cell? ⟨b,6,none⟩=some a6/\w.cell? ⟨b,7,none⟩=some a7/\w.cell? ⟨b,8,none⟩=some a8/\w.cell? ⟨b,9,none⟩=some a9/\w.cell? ⟨b,10,none⟩=some a10/\w.cell? ⟨b,11,none⟩=some a11/\w.cell? ⟨b,12,none⟩=some a12/\w.cell? ⟨b,13,none⟩=some a13/\w.cell? ⟨b,14,none⟩=some a14/\w.cell? ⟨b,15,none⟩=some a15/\w.cell? ⟨b,16,none⟩=some a16/\w.cell? ⟨b,17,none⟩=some a17/\w.cell? ⟨b,18,none⟩=some a18/\w.cell? ⟨b,19,none⟩=some a19/\w.cell? ⟨b,20,none⟩=some a20/\w.cell? ⟨b,21,none⟩=some a21/\w.cell? ⟨b,22,none⟩=some a22/\w.cell? ⟨b,23,none⟩=some a23/\w.cell? ⟨b,24,none⟩=some a24/\w.cell? ⟨b,25,none⟩=some a25/\w.cell? ⟨b,26,none⟩=some a26/\w.cell? ⟨b,27,none⟩=some a27/\w.cell? ⟨b,28,none⟩=some a28/\(∀ o,w.frozen? ⟨b,o,none⟩=false)/\b<w.heap.size:=
 ⟨aC h 0,aC h 1,aC h 2,aC h 3,aC h 4,aC h 5,aC h 6,aC h 7,aC h 8,aC h 9,aC h 10,aC h 11,aC h 12,aC h 13,aC h 14,aC h 15,aC h 16,aC h 17,aC h 18,aC h 19,aC h 20,aC h 21,aC h 22,aC h 23,aC h 24,aC h 25,aC h 26,aC h 27,aC h 28,aM h,aF h⟩
end
end
section
open Go.RowKit
section
variable {P:Program} {ops:Array Oper} {md:Region.Mode} {R:Act->World->Prop}
def JJ (P:Program) (W:World) (o:Oper) (v:Value) (a:Act):Prop:=
 ∀ w,OnlyC [] W w->∃ f args,(execOp a.eval o).run P w=.ok (.enter f args) w/\Calls P f args w fun e w'=>e=.returned v/\Oy [] w w'
def jO (P:Program) (ops:Array Oper) (W:World) (o:Oper) (v:Value) (a:Act):Prop:=
 (Region.wanted o (yielded ops a.tmps)=true/\((∀ w,OnlyC [] W w->(execOp a.eval o).run P w=.ok (.value v) w)\/JJ P W o v a)) \/
 (Region.wanted o (yielded ops a.tmps)=false/\v=undef)
theorem jO.of_same {W:World} {o:Oper} {v:Value} {a a':Act} (hy:jO P ops W o v a) (he:execOp a'.eval o=execOp a.eval o)
  (hw:Region.wanted o (yielded ops a'.tmps)=Region.wanted o (yielded ops a.tmps)):jO P ops W o v a':=by
 unfold jO JJ at *;rw[he,hw];exact hy
theorem jO.wpOp {W:World} {i:Nat} {o:Oper} {v:Value} {a:Act} {Q:Exit->Act->World->Prop} (hi:ops[i]? = some o) (hy:jO P ops W o v a)
  {K:Act->World->Prop} {w:World} (hw':OnlyC [] W w) (h:∀ w',Oy [] w w'->K (a.put o.dst v) w'):wpOp P ops Q i K a w:=by
 unfold Go.wpOp;simp only[hi];rcases hy with ⟨hw,hv⟩|⟨hw,rfl⟩
 ·rcases hv with hv|hv
  ·simp only[hw,if_true,Oper.wp,hv w hw',Oper.upon];exact .inl (h _ (aR _ _))
  ·obtain⟨f,args,hr,hc⟩:=hv w hw'
   simp only[hw,if_true,Oper.wp,hr,Oper.upon];refine .inl (hc.mono fun e w'' he=>?_);obtain⟨rfl,he⟩:=he;exact h _ he
 ·simp only[hw,Bool.false_eq_true,if_false];exact h _ (aR _ _)
theorem EM {oi:Oper} {Y:Act->Prop} {j:Nat} {oj:Oper} {v:Value} (hj:ops[j]? = some oj) (hap:oi.apart ops oj=true)
  (hsi:∀ cs b,oi.op≠ .select cs b) (hsj:∀ cs b,oj.op≠ .select cs b)
  (hY:∀ a a',Y a->execOp a'.eval oi=execOp a.eval oi->Region.wanted oi (yielded ops a'.tmps)=Region.wanted oi (yielded ops a.tmps)->Y a') {K:Act->World->Prop} {a:Act} {w:World}
  (hy:Y a) (h:wpOp P ops (bA R) j K (a.put oi.dst v) w) :
  wpOp P ops (bA R) j (fun a' w'=>Y a'/\K (a'.put oi.dst v) w') a w:=by
 obtain⟨h1,h2,h3⟩:=Oper.apart_spec hap
 have keep:∀ (a:Act),Y a->∀ u,Y (a.put oj.dst u):=fun a hy u =>
  hY a _ hy (execOp_put oi hsi a oj.dst u h3) (wanted_put oi a oj.dst u h3)
 have keepD:∀ d,Y { a with defers:=d::a.defers }:=fun d=>hY a _ hy rfl rfl;unfold wpOp at *;simp only[hj] at *;rw[wanted_put oj a oi.dst v h1] at h;split
 ·rename_i hw
  simp only[hw,if_true] at h;rcases h with h|⟨hasks,a0,w0,hlets⟩
  case inr=>exact hlets.elim
  refine .inl ?_;unfold Oper.wp at *;rw[execOp_put oj hsj a oi.dst v h1] at h;generalize (execOp a.eval oj).run P w=r at *
  cases r with
  | ok n w' =>
   cases n<;>simp only[Oper.upon] at h |-
   case value u=>exact⟨keep a hy u,by rw[<-Act.put_comm a v u h2];exact h⟩
   case skip=>exact⟨keep a hy _,by rw[<-Act.put_comm a v undef h2];exact h⟩
   case defer d =>
    refine⟨keep _ (keepD d) _,?_⟩;rw[<-Act.put_comm _ v undef h2,<-Act.put_defers];exact h
   case enter f args =>
    refine Calls.mono h fun e w'' he=>?_
    cases e with
    | returned u=>exact⟨keep a hy u,by rw[<-Act.put_comm a v u h2];exact he⟩
    | panicked c=>exact he
    | outgrown=>exact he
   case row row args=>exact Rows.mono h fun u w'' he=>⟨keep a hy u,by rw[<-Act.put_comm a v u h2];exact he⟩
  | halt x w' =>
   cases x<;>simp only[Oper.upon] at h |-
   case panic u=>exact h
 ·rename_i hw
  simp only[hw] at h;exact⟨keep a hy _,by rw[<-Act.put_comm a v undef h2];exact h⟩
def dY (P:Program) (md:Region.Mode) (ops:Array Oper) (tl:List Nat) (W:World) (R:Act->World->Prop):Nat->Array Bool->Act->World->Prop
 | 0,listed,a,w=>(late tl listed\/OnlyC [] W w)/\Region.ready md ops listed=[]/\R a w
 | f+1,listed,a,w=>(late tl listed\/OnlyC [] W w)/\(Region.ready md ops listed=[]->R a w) /\
  ∀ w1,Oy [] w w1->∀ i∈Region.ready md ops listed,wpOp P ops (bA R) i (dY P md ops tl W R f (listed.setIfInBounds i true)) a w1
def jP (R:Act->World->Prop):Prop:=∀ a w w',R a w->Oy [] w w'->R a w'
theorem wE {W w w':World} (h:OnlyC [] W w) (ho:Oy [] w w'):OnlyC [] W w':=bC ((E8 h).aB ho)
theorem mK {tl:List Nat} {W:World} (hR:jP R) {f:Nat} {listed:Array Bool} {a:Act} {w w':World} (h:dY P md ops tl W R f listed a w) (ho:Oy [] w w'):dY P md ops tl W R f listed a w':=by
 cases f with
 | zero=>exact⟨h.1.imp id (fun h=>wE h ho),h.2.1,hR _ _ _ h.2.2 ho⟩
 | succ f=>exact⟨h.1.imp id (fun h=>wE h ho),fun he=>hR _ _ _ (h.2.1 he) ho,fun w1 h1=>h.2.2 w1 (ho.aB h1)⟩
theorem uD {tl:List Nat} {W:World}:∀ (f:Nat) (listed:Array Bool) (a:Act) (w:World),dY P md ops tl W R f listed a w->wpAny P md ops (bA R) f listed a w
 | 0,_,_,_,h=>⟨h.2.1,h.2.2⟩
 | f+1,_,_,w,h=>⟨h.2.1,fun i hi=>wpOp_mono (fun a' w' h'=>uD f _ a' w' h') (h.2.2 w (aR _ _) i hi)⟩
theorem K3 {listed:Array Bool} {i j:Nat} {oi:Oper} (hfree:∀ j oj,ops[j]? = some oj->j≠i->listed.getD j true=false->(∀ e∈oj.after,Region.binds md e=true->e.on≠i)->oi.apart ops oj=true)
  (hjun:listed.getD j true=false):∀ k ok,ops[k]? = some ok->k≠i->(listed.setIfInBounds j true).getD k true=false->(∀ e∈ok.after,Region.binds md e=true->e.on≠i)->oi.apart ops ok=true:=by
 intro k ok hk hki hun hno;refine hfree k ok hk hki ?_ hno;by_cases hjk:j=k
 ·subst hjk;exact hjun
 ·rw[getD_set_ne true hjk] at hun;exact hun
theorem F6 {hd tl:List Nat} {W:World} (hR:jP R) {i:Nat} {oi:Oper} {v:Value} (hi:ops[i]? = some oi) (hsel:∀ (j:Nat) (o:Oper) cs b,ops[j]? = some o->o.op≠ .select cs b)
  (hB:fI md ops hd tl=true) (hin:i∈hd) (hit:i ∉ tl) :
  ∀ (fuel:Nat) (listed:Array Bool) (a:Act) (w:World),jL md ops tl listed ->
   (∀ j oj,ops[j]? = some oj->j≠i->listed.getD j true=false->(∀ e∈oj.after,Region.binds md e=true->e.on≠i)->oi.apart ops oj=true) ->
   i∈Region.ready md ops listed->jO P ops W oi v a ->
   dY P md ops tl W R fuel (listed.setIfInBounds i true) (a.put oi.dst v) w->dY P md ops tl W R (fuel+1) listed a w:=by
 intro fuel;induction fuel with
 | zero =>
  intro listed a w inv _ hr hy H;have hun:=(mem_ready.1 hr).1;have hnl:=nP hB inv hin hun;have hC:OnlyC [] W w:=H.1.resolve_left (fun h=>hnl (jT h hit));refine⟨.inr hC,fun h=>(by rw[h] at hr;cases hr),fun w1 h1 j hj=>?_⟩;by_cases hji:j=i
  ·subst hji;exact hy.wpOp hi (wE hC h1) (fun w2 h2=>mK hR H (h1.aB h2))
  ·have:=ready_mono hj hji
   rw[H.2.1] at this
   cases this
 | succ fuel ih =>
  intro listed a w inv hfree hr hy H;have hun:=(mem_ready.1 hr).1;have hnl:=nP hB inv hin hun;have hC:OnlyC [] W w:=H.1.resolve_left (fun h=>hnl (jT h hit));refine⟨.inr hC,fun h=>(by rw[h] at hr;cases hr),fun w1 hw1 j hj=>?_⟩;by_cases hji:j=i
  ·subst hji;exact hy.wpOp hi (wE hC hw1) (fun w2 h2=>mK hR H (hw1.aB h2))
  ·have h1:=H.2.2 w1 hw1 j (ready_mono hj hji)
   obtain⟨hjun,oj,hoj,hall⟩:=mem_ready.1 hj
   have hnot:∀ e∈oj.after,Region.binds md e=true->e.on≠i:=fun e he hb heq=>by
    have h1:=hall e he hb;rw[heq,getD_both hun] at h1
    cases h1
   have h2:=EM (Y:=jO P ops W oi v) hoj (hfree j oj hoj hji hjun hnot) (fun cs b=>hsel i oi cs b hi) (fun cs b=>hsel j oj cs b hoj) (fun a a' h h1 h2=>jO.of_same h h1 h2) hy h1;refine wpOp_mono (fun a' w' h3=>ih (listed.setIfInBounds j true) a' w' (inv.set hj) (K3 hfree hjun) (ready_mono hr (Ne.symm hji)) h3.1 ?_) h2;rw[Array.setIfInBounds_comm _ _ hji];exact h3.2
theorem JN {tl:List Nat} {W:World} (hR:jP R) {i:Nat} {oi:Oper} {v:Value} (hi:ops[i]? = some oi) (hsel:∀ (j:Nat) (o:Oper) cs b,ops[j]? = some o->o.op≠ .select cs b) (hit:i ∉ tl) :
  ∀ (fuel:Nat) (listed:Array Bool) (a:Act) (w:World),jL md ops tl listed ->
   (∀ j oj,ops[j]? = some oj->j≠i->listed.getD j true=false->(∀ e∈oj.after,Region.binds md e=true->e.on≠i)->oi.apart ops oj=true) ->
   i∈Region.ready md ops listed->dR P ops (fun _=>True) oi v a ->
   dY P md ops tl W R fuel (listed.setIfInBounds i true) (a.put oi.dst v) w->dY P md ops tl W R (fuel+1) listed a w:=by
 intro fuel;induction fuel with
 | zero =>
  intro listed a w inv _ hr hy H;refine⟨H.1.imp (fun h=>jT h hit) id,fun h=>(by rw[h] at hr;cases hr),fun w1 h1 j hj=>?_⟩;by_cases hji:j=i
  ·subst hji;exact hy.wpOp hi trivial (mK hR H h1)
  ·have:=ready_mono hj hji
   rw[H.2.1] at this
   cases this
 | succ fuel ih =>
  intro listed a w inv hfree hr hy H;have hun:=(mem_ready.1 hr).1;refine⟨H.1.imp (fun h=>jT h hit) id,fun h=>(by rw[h] at hr;cases hr),fun w1 hw1 j hj=>?_⟩;by_cases hji:j=i
  ·subst hji;exact hy.wpOp hi trivial (mK hR H hw1)
  ·have h1:=H.2.2 w1 hw1 j (ready_mono hj hji)
   obtain⟨hjun,oj,hoj,hall⟩:=mem_ready.1 hj
   have hnot:∀ e∈oj.after,Region.binds md e=true->e.on≠i:=fun e he hb heq=>by
    have h1:=hall e he hb;rw[heq,getD_both hun] at h1
    cases h1
   have h2:=EM (Y:=dR P ops (fun _=>True) oi v) hoj (hfree j oj hoj hji hjun hnot) (fun cs b=>hsel i oi cs b hi) (fun cs b=>hsel j oj cs b hoj) (fun a a' h h1 h2=>dR.of_same h h1 h2) hy h1;refine wpOp_mono (fun a' w' h3=>ih (listed.setIfInBounds j true) a' w' (inv.set hj) (K3 hfree hjun) (ready_mono hr (Ne.symm hji)) h3.1 ?_) h2;rw[Array.setIfInBounds_comm _ _ hji];exact h3.2
def bM (P:Program) (ops:Array Oper) (W:World) (Q:Act->Prop):List Oper->Act->Prop
 | [],a=>Q a
 | o::rest,a=>if Region.wanted o (yielded ops a.tmps) then (calm P o a (OnlyC [] W) (bM P ops W Q rest)\/∃ v,JJ P W o v a/\bM P ops W Q rest (a.put o.dst v)) else bM P ops W Q rest (a.put o.dst undef)
theorem aS {W:World} {Q:Act->Prop} {a:Act} (h:Q a):bM P ops W Q [] a:=h
theorem aQ {W:World} {Q:Act->Prop} {a:Act} {o:Oper} {rest:List Oper}
  (h:∀ K:Act->Prop,(∀ a,bM P ops W Q rest a->K a)->if Region.wanted o (yielded ops a.tmps) then calm P o a (OnlyC [] W) K else K (a.put o.dst undef)):bM P ops W Q (o::rest) a:=by
 have:=h _ (fun _ h=>h);unfold bM;split
 ·rename_i hw;simp only[hw,if_true] at this;exact .inl this
 ·rename_i hw;simp only[hw] at this;exact this
theorem F4 {W:World} {Q:Act->Prop} {a:Act} {o:Oper} {rest:List Oper} (hg:Region.wanted o (yielded ops a.tmps)=true) (f:FuncId) (args:Array Value)
  (hrun:∀ w,(execOp a.eval o).run P w=.ok (.enter f args) w) (v:Value) (hcall:∀ w',Oy [] W w'->Calls P f args w' fun e w''=>e=.returned v/\Oy [] w' w'')
  (h:bM P ops W Q rest (a.put o.dst v)):bM P ops W Q (o::rest) a:=by
 unfold bM;rw[hg];simp only[if_true];exact .inr ⟨v,fun w hw=>⟨f,args,hrun w,hcall w (E8 hw)⟩,h⟩
theorem JD {W:World} {o:Oper} {a:Act} {K:Act->Prop} (h:if Region.wanted o (yielded ops a.tmps) then (calm P o a (OnlyC [] W) K\/∃ v,JJ P W o v a/\K (a.put o.dst v)) else K (a.put o.dst undef)):∃ v,jO P ops W o v a/\K (a.put o.dst v):=by
 by_cases hw:Region.wanted o (yielded ops a.tmps)=true
 ·simp only[hw,if_true] at h
  rcases h with ⟨v,h1,h2⟩|⟨v,h1,h2⟩
  case inr=>exact⟨v,.inl ⟨hw,.inr h1⟩,h2⟩
  refine⟨v,.inl ⟨hw,.inl fun w hc=>?_⟩,h2⟩;have:=h1 w hc;unfold JE at this;generalize (execOp a.eval o).run P w=r at *
  cases r with
  | ok n w' =>
   cases n<;>simp only[nY] at this
   obtain⟨rfl,rfl⟩:=this;rfl
  | halt x w'=>simp only[nY] at this
 ·simp only[hw] at h
  exact⟨undef,.inr ⟨by simpa using hw,rfl⟩,h⟩
theorem mM {tl:List Nat} {f:Nat} {w W:World} (hR:jP R) (hsel:Region.noSelect ops=true) :
  ∀ (pu:List Nat) (l:List Oper) (listed:Array Bool) (a:Act),(l.map some=pu.map (fun i=>ops[i]?))->(∀ i∈pu,i ∉ tl)->jL md ops tl listed->iB md ops pu listed=true ->
  bL P ops (fun _=>True) (fun a'=>dY P md ops tl W R f (pu.foldl (fun l i=>l.setIfInBounds i true) listed) a' w) l a ->
  dY P md ops tl W R (pu.length+f) listed a w
 | [],[],listed,a,_,_,_,_,h=>by simpa [bL] using h
 | [],_::_,_,_,hl,_,_,_,_=>by simp at hl
 | _::_,[],_,_,hl,_,_,_,_=>by simp at hl
 | k::pu,o::l,listed,a,hl,hm,inv,hB,h=>by
  simp only[map_cons,List.cons.injEq] at hl;obtain⟨h0,hl⟩:=hl;simp only[iB,Bool.and_eq_true] at hB;obtain⟨⟨hr,hf⟩,hB'⟩:=hB;have hr':k∈Region.ready md ops listed:=by simpa using hr
  obtain⟨v,hy,hK⟩:=rO (ops:=ops) (C:=fun _=>True) (K:=bL P ops (fun _=>True) (fun a'=>dY P md ops tl W R f ((k::pu).foldl (fun l i=>l.setIfInBounds i true) listed) a' w) l) h;have ih:=mM (f:=f) (w:=w) (W:=W) hR hsel pu l (listed.setIfInBounds k true) (a.put o.dst v) hl (fun i hi=>hm i (by simp[hi])) (inv.set hr') hB' (by simpa using hK);rw[List.length_cons,show pu.length+1+f=(pu.length+f)+1 by omega];exact JN hR h0.symm (Region.noSelect_spec hsel) (hm k (by simp)) _ listed a w inv (Region.free_spec h0.symm hf) hr' hy ih
theorem uE {hd0 tl:List Nat} {f:Nat} {w W:World} (hR:jP R) (hsel:Region.noSelect ops=true) (hht:fI md ops hd0 tl=true) :
  ∀ (hd:List Nat) (l:List Oper) (listed:Array Bool) (a:Act),(l.map some=hd.map (fun i=>ops[i]?))->(∀ i∈hd,i∈hd0/\i ∉ tl)->jL md ops tl listed->iB md ops hd listed=true ->
  bM P ops W (fun a'=>jL md ops tl (hd.foldl (fun l i=>l.setIfInBounds i true) listed)->dY P md ops tl W R f (hd.foldl (fun l i=>l.setIfInBounds i true) listed) a' w) l a ->
  dY P md ops tl W R (hd.length+f) listed a w
 | [],[],listed,a,_,_,inv,_,h=>by simpa [bM] using h inv
 | [],_::_,_,_,hl,_,_,_,_=>by simp at hl
 | _::_,[],_,_,hl,_,_,_,_=>by simp at hl
 | k::hd,o::l,listed,a,hl,hm,inv,hB,h=>by
  simp only[map_cons,List.cons.injEq] at hl;obtain⟨h0,hl⟩:=hl;simp only[iB,Bool.and_eq_true] at hB;obtain⟨⟨hr,hf⟩,hB'⟩:=hB;have hr':k∈Region.ready md ops listed:=by simpa using hr
  obtain⟨v,hy,hK⟩:=JD (ops:=ops) (W:=W) (K:=bM P ops W (fun a'=>jL md ops tl ((k::hd).foldl (fun l i=>l.setIfInBounds i true) listed)->dY P md ops tl W R f ((k::hd).foldl (fun l i=>l.setIfInBounds i true) listed) a' w) l) h;have ih:=uE (f:=f) (w:=w) (W:=W) hR hsel hht hd l (listed.setIfInBounds k true) (a.put o.dst v) hl (fun i hi=>hm i (by simp[hi])) (inv.set hr') hB' (by simpa using hK);rw[List.length_cons,show hd.length+1+f=(hd.length+f)+1 by omega];exact F6 hR h0.symm (Region.noSelect_spec hsel) hht (hm k (by simp)).1 (hm k (by simp)).2 _ listed a w inv (Region.free_spec h0.symm hf) hr' hy ih
def kR (l:List Oper) (hd pu tl:List Nat):Bool:=Region.noSelect l.toArray && iB .any l.toArray hd (Array.replicate l.length false) && iB .any l.toArray pu (fF l.length hd) && hd.all (fun i=>decide (i<l.length)) && pu.all (fun i=>decide (i<l.length)) &&
 decide (hd.length+pu.length<=l.length) && fI .any l.toArray hd tl && hd.all (fun i=>!tl.contains i) && pu.all (fun i=>!tl.contains i)
def RestG (P:Program) (l:List Oper) (tl:List Nat) (W:World) (Q:Exit->Act->World->Prop) (n:Nat) (listed:Array Bool) (w:World) (a:Act):Prop:=
 ∃ R:Act->World->Prop,(∀ a' w',R a' w'->Q .normal a' w')/\jP R/\dY P .any l.toArray tl W R n listed a w
theorem oI {W:World} {X:Type} {S:X->Act->Prop}:∀ (l:List Oper) (a:Act),bM P ops W (fun a'=>∃ x,S x a') l a->∃ x,bM P ops W (S x) l a
 | [],_,h=>h
 | o::l,a,h=>by
  unfold bM at h;split at h
  ·rename_i hw
   rcases h with ⟨v,h1,h2⟩|⟨v,h1,h2⟩
   ·obtain⟨x,hx⟩:=oI l _ h2
    exact⟨x,by unfold bM;rw[if_pos hw];exact .inl ⟨v,h1,hx⟩⟩
   ·obtain⟨x,hx⟩:=oI l _ h2
    exact⟨x,by unfold bM;rw[if_pos hw];exact .inr ⟨v,h1,hx⟩⟩
  ·rename_i hw
   obtain⟨x,hx⟩:=oI l _ h;exact⟨x,by unfold bM;rw[if_neg hw];exact hx⟩
theorem dU {W:World} {Q1 Q2:Act->Prop} (hq:∀ a,Q1 a->Q2 a):∀ (l:List Oper) (a:Act),bM P ops W Q1 l a->bM P ops W Q2 l a
 | [],_,h=>hq _ h
 | o::l,a,h=>by
  unfold bM at h |-;split
  ·rename_i hw;simp only[hw,if_true] at h;rcases h with ⟨v,h1,h2⟩|⟨v,h1,h2⟩
   ·exact .inl ⟨v,h1,dU hq l _ h2⟩
   ·exact .inr ⟨v,h1,dU hq l _ h2⟩
  ·rename_i hw;simp only[hw] at h;exact dU hq l _ h
theorem kL {W:World} {p:Prop} {S:Act->Prop}:∀ (l:List Oper) (a:Act),bM P ops W (fun a'=>p/\S a') l a->p
 | [],_,h=>h.1
 | o::l,a,h=>by
  unfold bM at h;split at h
  ·rcases h with ⟨v,_,h2⟩|⟨v,_,h2⟩
   ·exact kL l _ h2
   ·exact kL l _ h2
  ·exact kL l _ h
theorem mJ {C:World->Prop} {p:Prop} {S:Act->Prop}:∀ (l:List Oper) (a:Act),bL P ops C (fun a'=>p/\S a') l a->p
 | [],_,h=>h.1
 | o::l,a,h=>by
  unfold bL at h;split at h
  ·rcases h with ⟨v,_,h2⟩|⟨v,_,h2⟩
   ·exact mJ l _ h2
   ·exact mJ l _ h2
  ·exact mJ l _ h
theorem iH {id:Nat} {Q:Exit->Act->World->Prop} {a:Act} {w:World} {l:List Oper} (hd pu tl:List Nat) (hm:P.follows .mixedOrders=true) (hB:kR l hd pu tl=true)
  (h:bM P l.toArray w (bL P l.toArray (fun _=>True) (RestG P l tl w Q (l.length-(hd.length+pu.length)) (fF l.length (hd ++ pu)) w.drew) (pick l pu)) (pick l hd) a):(Code.region id l.toArray true).wp P Q a w:=by
 simp only[kR,Bool.and_eq_true,decide_eq_true_eq] at hB;obtain⟨⟨⟨⟨⟨⟨⟨⟨hsel,htk⟩,htp⟩,hin⟩,hip⟩,hlen⟩,hht⟩,hdis⟩,hdip⟩:=hB;have hd':∀ i∈hd,i∈hd/\i ∉ tl:=fun i hi=>⟨hi,by have:=all_eq_true.1 hdis i hi;simpa using this⟩;have hp':∀ i∈pu,i ∉ tl:=fun i hi=>by have:=all_eq_true.1 hdip i hi;simpa using this
 have inv0:jL .any l.toArray tl (Array.replicate l.length false):=
  ⟨by simp,fun j oj _ hl=>(by rw[getD_replicate_false] at hl;cases hl)⟩
 obtain⟨R,h1⟩:=oI (S:=fun R a'=>bL P l.toArray (fun _=>True) (fun a'=>((∀ a' w',R a' w'->Q .normal a' w')/\jP R)/\dY P .any l.toArray tl w R (l.length-(hd.length+pu.length)) (fF l.length (hd ++ pu)) a' w.drew) (pick l pu) a') _ _
  (dU (fun a' h=>nI _ _ (dN (fun a h=>by obtain⟨R,h1,h2,h3⟩:=h;exact⟨R,⟨h1,h2⟩,h3⟩) _ _ h)) _ _ h)
 have hq:(∀ a' w',R a' w'->Q .normal a' w')/\jP R:=
  kL _ _ (dU (fun a' h=>⟨mJ _ _ h,h⟩) _ _ h1)
 have h2:=uE (P:=P) (R:=R) (md:=.any) (W:=w) (f:=pu.length+(l.length-(hd.length+pu.length))) (w:=w.drew) hq.2 hsel hht hd (pick l hd) (Array.replicate l.length false) a (gT l hd hin) hd' inv0 htk
  (dU (fun a' h inv=>mM (P:=P) (R:=R) (md:=.any) (W:=w) hq.2 hsel pu (pick l pu) _ a' (gT l pu hip) hp' inv htp
   (dN (fun a'' h=>by have:=h.2;unfold fF at this;rw[List.foldl_append] at this;exact this) _ _ h)) _ _ h1)
 have h3:=uD _ _ _ _ h2;rw[show hd.length+(pu.length+(l.length-(hd.length+pu.length)))=l.length by omega] at h3;refine Code.wp_mono (Q:=bA R) (fun e a w q=>?_) (wp_region_any hm (by simpa using h3))
 cases e<;>first|exact hq.1 _ _ q|exact q.elim
theorem RestG.by {l:List Oper} {tl:List Nat} {W:World} {Q:Exit->Act->World->Prop} {n:Nat} {listed:Array Bool} {w:World} {a:Act} {X:Type} (F:X->Act->Act) (G:X->World->Prop) (hst:∀ x w1 w2,G x w1->Oy [] w1 w2->G x w2)
  (h1:∀ x w',G x w'->Q .normal (F x a) w') (h2:dY P .any l.toArray tl W (fun a' w'=>∃ x,a'=F x a/\G x w') n listed a w):RestG P l tl W Q n listed w a:=
 ⟨_,fun _ _ ⟨x,e,g⟩=>e ▸ h1 x _ g,fun _ w1 w2 ⟨x,e,g⟩ ho=>⟨x,e,hst x w1 w2 g ho⟩,h2⟩
theorem qJ {tl:List Nat} {f:Nat} {listed:Array Bool} {a:Act} {w W:World} (i:Nat) (hr:Region.ready md ops listed=[i]) (hC:late tl listed\/OnlyC [] W w)
  (h:∀ w1,Oy [] w w1->wpOp P ops (bA R) i (dY P md ops tl W R f (listed.setIfInBounds i true)) a w1):dY P md ops tl W R (f+1) listed a w:=
 ⟨hC,fun h0=>absurd (hr.symm.trans h0) (by simp),fun w1 h1 j hj=>by
  rw[hr] at hj;rw[mem_singleton.1 hj];exact h w1 h1⟩
theorem u7 {tl:List Nat} {f:Nat} {listed:Array Bool} {a:Act} {w W:World} (rs:List Nat) (hr:Region.ready md ops listed=rs) (hne:rs≠[]) (hC:late tl listed\/OnlyC [] W w)
  (h:∀ w1,Oy [] w w1->∀ i∈rs,wpOp P ops (bA R) i (dY P md ops tl W R f (listed.setIfInBounds i true)) a w1):dY P md ops tl W R (f+1) listed a w:=
 ⟨hC,fun h0=>absurd (hr.symm.trans h0) hne,fun w1 h1 i hi=>h w1 h1 i (hr ▸ hi)⟩
theorem mO {tl:List Nat} {listed:Array Bool} {a:Act} {w W:World} (hr:Region.ready md ops listed=[]) (hC:late tl listed\/OnlyC [] W w) (h:R a w):dY P md ops tl W R 0 listed a w:=⟨hC,hr,h⟩
end
def Fresh (W:World) (o:Obj) (y:Nat) (w:World):Prop:=W.heap.size<=y/\w.heap[y]? = some o/\Oy [] W w
theorem Fresh.on {W:World} {o:Obj}:∀ (y:Nat) (w1 w2:World),Fresh W o y w1->Oy [] w1 w2->Fresh W o y w2:=fun _ _ _ h ho=>⟨h.1,ho.got h.2.1 (by simp),h.2.2.aB ho⟩
end
section
open Go.RowKit
structure gG where
 b:Nat
 vs:List Value
 t:TypeId
 own:Bool
abbrev CF (w:World) (b:Nat):List Value->List Nat->Prop
 | v::vs,j::js=>w.cell? ⟨b,j,none⟩=some v/\CF w b vs js
 | _,_=>True
abbrev NE (b:Nat):List gG->Prop
 | ⟨c,_,_,_⟩::L=>b≠c/\c≠b/\NE b L
 | []=>True
abbrev Facts (w:World):List gG->Prop
 | ⟨b,vs,_,_⟩::L=>CF w b vs [0,1,2,3,4,5,6,7,8,9,10,11,12,13,14,15,16,17,18,19,20,21,22,23,24,25,26,27,28,29,30,31]/\(∀ o,w.frozen? ⟨b,o,none⟩=false)/\b<w.heap.size/\NE b L/\Facts w L
 | []=>True
abbrev Got (w:World):List gG->Prop
 | ⟨b,vs,t,_⟩::L=>w.heap[b]? = some (.cells vs.toArray t (0,0))/\Got w L
 | []=>True
structure Mem (w0:World) (S:List Nat) (w:World) (L:List gG):Prop where
 only:Oy S w0 w
 got:Got w L
 nd:L.Pairwise (fun p q=>p.b≠q.b)
 own:∀ p∈L,p.own=true->p.b∈S\/w0.heap.size<=p.b
theorem cf_of {w:World} {b:Nat} {t:TypeId} {cs:List Value} (h:w.heap[b]? = some (.cells cs.toArray t (0,0))):∀ (vs:List Value) (js:List Nat) (k:Nat),cs.drop k=vs->(∀ i (hi:i<js.length),js[i]=k+i)->CF w b vs js
 | v::vs,j::js,k,hk,hj=>by
  have h0:j=k:=by have:=hj 0 (by simp);rwa [List.getElem_cons_zero] at this
  subst h0;refine⟨?_,cf_of h vs js (j+1) ?_ ?_⟩
  ·rw[aC h j]
   have e:=congrArg (fun l=>l[0]?) hk;simpa using e
  ·have e:=congrArg (fun l=>l.drop 1) hk
   simpa [List.drop_drop,Nat.add_comm] using e
  ·intro i hi
   have:=hj (i+1) (by simp;omega);simp at this;omega
 | [],_,_,_,_=>trivial
 | _::_,[],_,_,_=>trivial
theorem ne_of {b:Nat}:∀ {L:List gG},(∀ q∈L,b≠q.b)->NE b L
 | ⟨_,_,_,_⟩::_,h=>⟨h _ (mem_cons_self ..),(h _ (mem_cons_self ..)).symm,ne_of fun q hq=>h q (mem_cons_of_mem _ hq)⟩
 | [],_=>trivial
theorem K7 {w:World}:∀ {L:List gG},Got w L->L.Pairwise (fun p q=>p.b≠q.b)->Facts w L
 | ⟨b,vs,t,o⟩::L,⟨h,hl⟩,hp=>⟨cf_of h vs _ 0 rfl (by decide),aM h,aF h,ne_of (pairwise_cons.1 hp).1,K7 hl (pairwise_cons.1 hp).2⟩
 | [],_,_=>trivial
theorem Mem.k {w0 w:World} {S:List Nat} {L:List gG} (h:Mem w0 S w L):Facts w L:=K7 h.got h.nd
theorem Mem.start (w:World) (S:List Nat):Mem w S w []:=⟨aR S w,trivial,List.Pairwise.nil,by simp⟩
theorem Got.only {w w':World} (ho:Oy [] w w'):∀ {L:List gG},Got w L->Got w' L
 | ⟨_,_,_,_⟩::_,⟨h,hl⟩=>⟨ho.got h (by simp),Got.only ho hl⟩
 | [],_=>trivial
theorem Got.lt {w:World}:∀ {L:List gG},Got w L->∀ p∈L,p.b<w.heap.size
 | ⟨_,_,_,_⟩::_,⟨h,hl⟩,p,hp=>by
  rcases mem_cons.1 hp with rfl|hp
  ·exact aF h
  ·exact Got.lt hl p hp
theorem Mem.call {w0 w w':World} {S:List Nat} {L:List gG} (h:Mem w0 S w L) (ho:Oy [] w w'):Mem w0 S w' L:=
 ⟨h.only.aB ho,h.got.only ho,h.nd,h.own⟩
theorem Mem.new {w0 w w':World} {S:List Nat} {L:List gG} (h:Mem w0 S w L) {b:Nat} {vs:List Value} {t:TypeId} (hb:w'.heap[b]? = some (.cells vs.toArray t (0,0))) (hn:w.heap.size<=b) (ho:Oy [] w w'):Mem w0 S w' (⟨b,vs,t,true⟩::L):=
 ⟨h.only.aB ho,⟨hb,h.got.only ho⟩,List.Pairwise.cons (fun q hq=>by have:=h.got.lt q hq;dsimp only;omega) h.nd,fun p hp hw=>by
  rcases mem_cons.1 hp with rfl|hp
  ·exact .inr (Nat.le_trans h.only.size hn)
  ·exact h.own p hp hw⟩
theorem Mem.ext {w0 w:World} {S:List Nat} {L:List gG} (h:Mem w0 S w L) {b:Nat} {vs:List Value} {t:TypeId} (own:Bool) (hb:w.heap[b]? = some (.cells vs.toArray t (0,0))) (hd:∀ q∈L,b≠q.b) (hs:own=true->b∈S\/w0.heap.size<=b):Mem w0 S w (⟨b,vs,t,own⟩::L):=
 ⟨h.only,⟨hb,h.got⟩,List.Pairwise.cons hd h.nd,fun p hp hw=>by
  rcases mem_cons.1 hp with rfl|hp
  ·exact hs hw
  ·exact h.own p hp hw⟩
section
variable {w0 w:World} {S:List Nat} {L:List gG} {G:World->Prop} {v1 v2 v3 v4:List Value} {t1 t2 t3 t4:TypeId}
theorem Mem.alloc (h:Mem w0 S w L) (k:∀ w',Mem w0 S w' (⟨w.heap.size,v1,t1,true⟩::L)->G w'):G (w.alloc (.cells v1.toArray t1)):=
 aG fun _ hb ho _=>k _ (h.new hb (Nat.le_refl _) ho)
end
theorem vJ {w:World} {b:Nat} {p:Addr} {o:Obj} (v:Value) (h:w.heap[b]? = some o) (hn:b≠p.block):(w.setCell p v).heap[b]? = some o:=
 (((aR [p.block] w).setCell (.inl (mem_singleton.2 rfl)) v).got h (by simpa using hn))
theorem RB {w:World} {j:Nat} {v:Value}:∀ {L:List gG} {i:Nat} {b:Nat} {vs:List Value} {t:TypeId} {o:Bool},Got w L->L.Pairwise (fun p q=>p.b≠q.b)->L[i]? = some ⟨b,vs,t,o⟩->Got (w.setCell ⟨b,j,none⟩ v) (L.set i ⟨b,vs.set j v,t,o⟩)
 | ⟨b0,vs0,t0,o0⟩::L,0,b,vs,t,o,⟨h,hl⟩,hp,hi=>by
  obtain⟨rfl,rfl,rfl,rfl⟩:b0=b/\vs0=vs/\t0=t/\o0=o:=by simpa using hi
  refine⟨by simpa using aH (o:=j) v h,?_⟩;have hq:=(pairwise_cons.1 hp).1;clear hi hp;induction L with
  | nil=>trivial
  | cons q L ih =>
   obtain⟨b1,vs1,t1,o1⟩:=q;exact⟨vJ v hl.1 (fun e=>hq _ (mem_cons_self ..) e.symm),ih hl.2 (fun q hq'=>hq q (mem_cons_of_mem _ hq'))⟩
 | ⟨b0,vs0,t0,o0⟩::L,i+1,b,vs,t,o,⟨h,hl⟩,hp,hi=>by
  have hi':L[i]? = some ⟨b,vs,t,o⟩:=by simpa using hi
  have hq:=(pairwise_cons.1 hp).1 _ (mem_of_getElem? hi');exact⟨vJ v h hq,RB hl (pairwise_cons.1 hp).2 hi'⟩
theorem XY {L:List gG} {i:Nat} {p q:gG} (hp:L.Pairwise (fun p q=>p.b≠q.b)) (hi:L[i]? = some p) (hq:q.b=p.b):(L.set i q).Pairwise (fun p q=>p.b≠q.b):=by
 have hm:(L.set i q).map gG.b=L.map gG.b:=by
  rw[List.map_set];apply List.ext_getElem?
  intro j;rw[List.getElem?_set];split
  ·rename_i h;subst h
   have hlt:=(List.getElem?_eq_some_iff.1 hi).1;rw[List.length_map,if_pos hlt,List.getElem?_map,hi,hq];rfl
  ·rfl
 have e:∀ l:List gG,l.Pairwise (fun p q=>p.b≠q.b)↔(l.map gG.b).Pairwise (·≠ ·):=fun l=>by rw[List.pairwise_map]
 rw[e,hm,<-e];exact hp
theorem Mem.set {w0 w:World} {S:List Nat} {L:List gG} (h:Mem w0 S w L) (i:Nat) {b j:Nat} {vs:List Value} {t:TypeId} {v:Value} (hi:L[i]? = some ⟨b,vs,t,true⟩):Mem w0 S (w.setCell ⟨b,j,none⟩ v) (L.set i ⟨b,vs.set j v,t,true⟩):=by
 have hm:=mem_of_getElem? hi;refine⟨h.only.setCell (h.own _ hm rfl) v,RB h.got h.nd hi,XY h.nd hi rfl,fun p hp hw=>?_⟩;rcases List.mem_or_eq_of_mem_set hp with h'|rfl
 ·exact h.own p h' hw
 ·exact h.own ⟨b,vs,t,true⟩ hm rfl
theorem KY {w w':World} {b:Nat} (ho:Oy [b] w w'):∀ {L:List gG},Got w L->(∀ q∈L,b≠q.b)->Got w' L
 | ⟨_,_,_,_⟩::_,⟨h,hl⟩,hq=>⟨ho.got h (by simpa using (hq _ (mem_cons_self ..)).symm),KY ho hl fun q hq'=>hq q (mem_cons_of_mem _ hq')⟩
 | [],_,_=>trivial
theorem RA {w w':World} {vs':List Value}:∀ {L:List gG} {i:Nat} {b:Nat} {vs:List Value} {t:TypeId} {o:Bool},Got w L->L.Pairwise (fun p q=>p.b≠q.b)->L[i]? = some ⟨b,vs,t,o⟩->w'.heap[b]? = some (.cells vs'.toArray t (0,0))->Oy [b] w w'->Got w' (L.set i ⟨b,vs',t,o⟩)
 | ⟨b0,vs0,t0,o0⟩::L,0,b,vs,t,o,⟨h,hl⟩,hp,hi,hb,ho=>by
  obtain⟨rfl,rfl,rfl,rfl⟩:b0=b/\vs0=vs/\t0=t/\o0=o:=by simpa using hi
  exact⟨hb,KY ho hl (pairwise_cons.1 hp).1⟩
 | ⟨b0,vs0,t0,o0⟩::L,i+1,b,vs,t,o,⟨h,hl⟩,hp,hi,hb,ho=>by
  have hi':L[i]? = some ⟨b,vs,t,o⟩:=by simpa using hi
  have hq:=(pairwise_cons.1 hp).1 _ (mem_of_getElem? hi');exact⟨ho.got h (by simpa using hq),RA hl (pairwise_cons.1 hp).2 hi' hb ho⟩
theorem Mem.upd {w0 w w':World} {S:List Nat} {L:List gG} (h:Mem w0 S w L) {i b:Nat} {vs vs':List Value} {t:TypeId} (hi:L[i]? = some ⟨b,vs,t,true⟩) (hb:w'.heap[b]? = some (.cells vs'.toArray t (0,0))) (ho:Oy [b] w w'):Mem w0 S w' (L.set i ⟨b,vs',t,true⟩):=by
 have hm:=mem_of_getElem? hi;refine⟨h.only.trans ho (fun x hx=>?_),RA h.got h.nd hi hb ho,XY h.nd hi rfl,fun p hp hw=>?_⟩
 ·rw[mem_singleton.1 hx];exact h.own _ hm rfl
 ·rcases List.mem_or_eq_of_mem_set hp with h'|rfl
  ·exact h.own p h' hw
  ·exact h.own ⟨b,vs,t,true⟩ hm rfl
theorem Mem.n {w0 w:World} {L:List gG} (h:Mem w0 [] w L) (i:Nat) {b:Nat} {vs:List Value} {t:TypeId} (hi:L[i]? = some ⟨b,vs,t,true⟩):w0.heap.size<=b:=by
 simpa using h.own _ (mem_of_getElem? hi) rfl
theorem Mem.alloc' {w0 w:World} {S:List Nat} {L:List gG} {vs:List Value} {t:TypeId} (h:Mem w0 S w L):Mem w0 S (w.alloc (.cells vs.toArray t)) (⟨w.heap.size,vs,t,true⟩::L):=
 h.alloc (G:=fun w'=>Mem w0 S w' _) (fun _ m=>m)
end
section
open Go.RowKit
class Sz (w:World) (n:outParam Nat):Prop where h:w.heap.size=n
instance szB (w:World):Sz w w.heap.size:=⟨rfl⟩
instance szA {w:World} {n:Nat} {o:Obj} [h:Sz w n]:Sz (w.alloc o) (n+1):=⟨by rw[World.size_alloc,h.h]⟩
instance szS {w:World} {n:Nat} {a:Addr} {v:Value} [h:Sz w n]:Sz (w.setCell a v) n:=⟨by rw[size_setCell,h.h]⟩
instance szD {w:World} {n:Nat} [h:Sz w n]:Sz w.drew n:=⟨h.h⟩
class PO (vs:List Value) (j:Nat) (v:Value) (us:outParam (List Value)):Prop where h:vs.set j v=us
instance svX {vs:List Value} {j:Nat} {v:Value}:PO vs j v (vs.set j v):=⟨rfl⟩
instance sv0 {x v:Value} {xs:List Value}:PO (x::xs) 0 v (v::xs):=⟨rfl⟩
instance sv1 {x v:Value} {xs ys:List Value} {j:Nat} [h:PO xs j v ys]:PO (x::xs) (j+1) v (x::ys):=⟨by rw[List.set_cons_succ,h.h]⟩
class SK (L:List gG) (b j:Nat) (v:Value) (L':outParam (List gG)):Prop where
 h:∃ i vs t,L[i]? = some ⟨b,vs,t,true⟩/\L'=L.set i ⟨b,vs.set j v,t,true⟩
instance si1 {p:gG} {L L':List gG} {b j:Nat} {v:Value} [h:SK L b j v L']:SK (p::L) b j v (p::L'):=⟨by
 obtain⟨i,vs,t,h1,rfl⟩:=h.h;exact⟨i+1,vs,t,h1,rfl⟩⟩
instance si0 {L:List gG} {b j:Nat} {vs us:List Value} {t:TypeId} {v:Value} [h:PO vs j v us]:SK (⟨b,vs,t,true⟩::L) b j v (⟨b,us,t,true⟩::L):=⟨⟨0,vs,t,rfl,by rw[<-h.h];rfl⟩⟩
class FY (L:List gG) (b:Nat) (us:List Value) (t:TypeId) (L':outParam (List gG)):Prop where
 h:∃ i vs,L[i]? = some ⟨b,vs,t,true⟩/\L'=L.set i ⟨b,us,t,true⟩
instance pi1 {p:gG} {L L':List gG} {b:Nat} {us:List Value} {t:TypeId} [h:FY L b us t L']:FY (p::L) b us t (p::L'):=⟨by
 obtain⟨i,vs,h1,rfl⟩:=h.h;exact⟨i+1,vs,h1,rfl⟩⟩
instance pi0 {L:List gG} {b:Nat} {vs us:List Value} {t:TypeId}:FY (⟨b,vs,t,true⟩::L) b us t (⟨b,us,t,true⟩::L):=⟨⟨0,vs,rfl,rfl⟩⟩
class Has (L:List gG) (b:Nat) (vs:outParam (List Value)) (t:outParam TypeId):Prop where
 h:∀ w,Got w L->w.heap[b]? = some (.cells vs.toArray t (0,0))
instance has1 {p:gG} {L:List gG} {b:Nat} {vs:List Value} {t:TypeId} [h:Has L b vs t]:Has (p::L) b vs t:=⟨fun w g=>h.h w g.2⟩
instance has0 {L:List gG} {b:Nat} {vs:List Value} {t:TypeId} {o:Bool}:Has (⟨b,vs,t,o⟩::L) b vs t:=⟨fun _ g=>g.1⟩
class InL (L:List gG) (b:Nat):Prop where
 h:∃ q∈L,q.b=b
instance in1 {p:gG} {L:List gG} {b:Nat} [h:InL L b]:InL (p::L) b:=⟨have ⟨q,h1,h2⟩:=h.h;⟨q,mem_cons_of_mem _ h1,h2⟩⟩
instance in0 {L:List gG} {b:Nat} {vs:List Value} {t:TypeId} {o:Bool}:InL (⟨b,vs,t,o⟩::L) b:=⟨⟨_,mem_cons_self ..,rfl⟩⟩
class Dif (L:List gG) (b c:Nat):Prop where
 h:L.Pairwise (fun p q=>p.b≠q.b)->b≠c
instance df2 {p:gG} {L:List gG} {b c:Nat} [h:Dif L b c]:Dif (p::L) b c:=⟨fun hp=>h.h (pairwise_cons.1 hp).2⟩
instance df1 {L:List gG} {b c:Nat} {vs:List Value} {t:TypeId} {o:Bool} [h:InL L b]:Dif (⟨c,vs,t,o⟩::L) b c:=⟨fun hp=>have ⟨q,h1,h2⟩:=h.h;h2 ▸ ((pairwise_cons.1 hp).1 q h1).symm⟩
instance df0 {L:List gG} {b c:Nat} {vs:List Value} {t:TypeId} {o:Bool} [h:InL L c]:Dif (⟨b,vs,t,o⟩::L) b c:=⟨fun hp=>have ⟨q,h1,h2⟩:=h.h;h2 ▸ (pairwise_cons.1 hp).1 q h1⟩
class Mm (w0:outParam World) (S:outParam (List Nat)) (w:World) (L:outParam (List gG)):Prop where out:Mem w0 S w L
section
variable {w0 w:World} {S:List Nat} {L L':List gG}
instance mmA {vs:List Value} {t:TypeId} {n:Nat} [h:Mm w0 S w L] [s:Sz w n]:Mm w0 S (w.alloc (.cells vs.toArray t)) (⟨n,vs,t,true⟩::L):=⟨by rw[<-s.h];exact h.out.alloc'⟩
instance mmS {b j:Nat} {v:Value} [h:Mm w0 S w L] [s:SK L b j v L']:Mm w0 S (w.setCell ⟨b,j,none⟩ v) L':=⟨by
 obtain⟨i,vs,t,h1,rfl⟩:=s.h;exact h.out.set i h1⟩
instance mmD [h:Mm w0 S w L]:Mm w0 S w.drew L:=⟨h.out.call (aR [] w).drew⟩
theorem bJ (w:World) (S:List Nat):Mm w S w []:=⟨Mem.start w S⟩
theorem gB {b:Nat} {vs:List Value} {t:TypeId} [m:Mm w0 S w L] [h:Has L b vs t]:w.heap[b]? = some (.cells vs.toArray t (0,0)):=h.h w m.out.got
theorem gP {x:Grow} {b:Nat} {vs:List Value} {t:TypeId} [m:Mm w0 S w L] [h:Has L b vs t]:(plus w x).heap[b]? = some (.cells vs.toArray t (0,0)):=(aN ⟨x,rfl⟩).got (h.h w m.out.got) (by simp)
theorem RH {x:Grow} [m:Mm w0 S w L]:Oy S w0 (plus w x):=m.out.only.aB (aN ⟨x,rfl⟩)
theorem gO [m:Mm w0 S w L]:Oy S w0 w:=m.out.only
theorem gN (w:World) {b c:Nat} [m:Mm w0 S w L] [h:Dif L b c]:b≠c:=h.h m.out.nd
theorem kV {w:World} {b:Nat} {vs:List Value} {t:TypeId} (h:w.heap[b]? = some (.cells vs.toArray t (0,0))):Mm w [b] w [⟨b,vs,t,true⟩]:=⟨(Mem.start w [b]).ext true h (by simp) (by simp)⟩
theorem iX {w:World} {b:Nat} {vs:List Value} {t:TypeId} (h:w.heap[b]? = some (.cells vs.toArray t (0,0))):Mm w [] w [⟨b,vs,t,false⟩]:=⟨(Mem.start w []).ext false h (by simp) (by simp)⟩
def IB:List gG->List Nat
 | []=>[]
 | p::L=>if p.own=true then p.b::IB L else IB L
theorem CJ {p:gG}:∀ {L:List gG},p∈L->p.own=true->p.b∈IB L
 | q::L,h,ho=>by
  unfold IB;rcases mem_cons.1 h with rfl|h
  ·rw[if_pos ho];exact mem_cons_self ..
  ·split
   ·exact mem_cons_of_mem _ (CJ h ho)
   ·exact CJ h ho
theorem Mm.re (h:Mm w0 S w L):Mm w (IB L) w L:=⟨⟨aR _ w,h.out.got,h.out.nd,fun _ hp ho=>.inl (CJ hp ho)⟩⟩
theorem Mm.weak {S':List Nat} (h:Mm w0 S w L) (hs:∀ x∈S,x∈S'):Mm w0 S' w L:=⟨⟨h.out.only.weak hs,h.out.got,h.out.nd,fun p hp ho=>(h.out.own p hp ho).imp_left (hs _)⟩⟩
theorem Mm.oth {w':World} {T:List Nat} (h:Mm w0 S w L) (o:Oy T w w') (hT:∀ b∈T,b∈S\/w0.heap.size<=b) (hL:∀ q∈L,q.b ∉ T):Mm w0 S w' L:=by
 refine⟨⟨h.out.only.trans o hT,?_,h.out.nd,h.out.own⟩⟩
 have:∀ {L:List gG},Got w L->(∀ q∈L,q.b ∉ T)->Got w' L:=by
  intro L;induction L with
  | nil=>exact fun _ _=>trivial
  | cons q L ih=>exact fun g hq=>⟨o.got g.1 (hq q (mem_cons_self ..)),ih g.2 fun p hp=>hq p (mem_cons_of_mem _ hp)⟩
 exact this h.out.got hL
class PS (w:World):Prop where h:True
instance nwA {w:World} {o:Obj}:PS (w.alloc o):=⟨trivial⟩
instance nwS {w:World} {a:Addr} {v:Value}:PS (w.setCell a v):=⟨trivial⟩
instance nwD {w:World}:PS w.drew:=⟨trivial⟩
variable {P:Program}
theorem wU {Q:Exit->Act->World->Prop} {c:Code} {a:Act} [PS w] [h:Mm w0 S w L] (k:∀ w',Mm w0 S w' L->Facts w' L->c.wp P Q a w'):c.wp P Q a w:=k _ h h.out.k
theorem cU {f:FuncId} {args:Array Value} {Q:Ending->World->Prop} [PS w] [h:Mm w0 S w L] (k:∀ w',Mm w0 S w' L->Facts w' L->Calls P f args w' Q):Calls P f args w Q:=k _ h h.out.k
theorem cM {f:FuncId} {args:Array Value} {v:Value} {Q:Ending->World->Prop} (hc:Calls P f args w fun e w'=>e=.returned v/\Oy [] w w') [h:Mm w0 S w L] (hk:∀ w',Mm w0 S w' L->Facts w' L->Q (.returned v) w'):Calls P f args w Q:=
 hc.mono (by rintro e w' ⟨rfl,ho⟩;exact hk _ ⟨h.out.call ho⟩ (h.out.call ho).k)
theorem cX {X:Type} {v:X->Value} {R:X->World->Prop} {f:FuncId} {args:Array Value} {Q:Ending->World->Prop} (hc:Calls P f args w fun e w'=>(∃ x,e=.returned (v x)/\R x w')/\Oy [] w w') [h:Mm w0 S w L] (hk:∀ w' x,R x w'->Oy [] w w'->Mm w0 S w' L->Facts w' L->Q (.returned (v x)) w'):Calls P f args w Q:=
 hc.mono (by rintro e w' ⟨⟨x,rfl,hR⟩,ho⟩;exact hk _ x hR ho ⟨h.out.call ho⟩ (h.out.call ho).k)
theorem cP {f:FuncId} {args:Array Value} {b:Nat} {us:List Value} {t:TypeId} {v:Value} {Q:Ending->World->Prop} (hc:Calls P f args w fun e w'=>e=.returned v/\w'.heap[b]? = some (.cells us.toArray t (0,0))/\Oy [b] w w') [h:Mm w0 S w L] [s:FY L b us t L'] (hk:∀ w',Mm w0 S w' L'->Facts w' L'->Q (.returned v) w'):Calls P f args w Q:=
 hc.mono (by
  rintro e w' ⟨rfl,hb,ho⟩;obtain⟨i,vs,h1,rfl⟩:=s.h;exact hk _ ⟨h.out.upd h1 hb ho⟩ (h.out.upd h1 hb ho).k)
theorem oH {ops:Array Oper} {C:World->Prop} {Q Q':Act->Prop} (hq:∀ a,Q a->Q' a):∀ (l:List Oper) (a:Act),wpQuiet P ops C Q l a->wpQuiet P ops C Q' l a
 | [],a,h=>hq a h
 | o::rest,a,h=>by
  unfold wpQuiet at h |-;split
  ·rename_i hw;rw[if_pos hw] at h;exact Oper.quiet_mono (fun a=>oH hq rest a) h
  ·rename_i hw;rw[if_neg hw] at h;exact oH hq rest _ h
theorem rG {id:Nat} {Q:Exit->Act->World->Prop} {a:Act} {l:List Oper} (hd tl:List Nat) [h:Mm w0 S w L] (hm:P.follows .mixedOrders=true) (hB:oU l hd tl=true)
  (hk:wpQuiet P l.toArray (fun w'=>∃ x,w'=plus w x) (fun a'=>∀ w',Mm w0 S w' L->Facts w' L->wpList P l.toArray Q (pick l tl) a' w') (pick l hd) a):(Code.region id l.toArray true).wp P Q a w:=
 aP hd tl hm hB (oH (fun _ H w' hw=>H w' ⟨h.out.call (aN hw)⟩ (h.out.call (aN hw)).k) _ _ hk)
theorem iY {id:Nat} {Q:Exit->Act->World->Prop} {a:Act} {l:List Oper} (hd tl:List Nat) [h:Mm w0 S w L] (hk:wpQuiet P l.toArray (fun w'=>∃ x,w'=plus w x) (fun a'=>∀ w',Mm w0 S w' L->Facts w' L->wpList P l.toArray Q (pick l tl) a' w') (pick l hd) a) (hm:P.follows .mixedOrders=true:=by kernel_rfl) (hB:oU l hd tl=true:=by kernel_rfl):(Code.region id l.toArray true).wp P Q a w:=rG hd tl hm hB hk
theorem Mm.zO (m:Mm w0 S w L):Oy S w0 w:=m.out.only
theorem Mm.zK (m:Mm w0 S w L):Facts w L:=m.out.k
theorem gX {f:FuncId} {args:Array Value} {x:Grow} {v:Value} (hc:Calls P f args (plus w x) fun e w'=>e=.returned v/\Oy [] (plus w x) w'):Calls P f args (plus w x) fun e w'=>e=.returned v/\∃ y,w'=plus w y:=
 Calls.QD (hc.mono fun _ _ h=>⟨h.1,h.2.xC⟩)
theorem lF {fn:Func} {a:Act} {v:Value} [h:Mm w0 S w L] (hr:∀ w',Facts w' L->a.defers=[]/\(results fn a.tmps).run P w'=.ok v w'):bodyPost P fn (fun e w'=>e=.returned v/\Oy S w0 w') .ret a w:=
 bodyPost_ret (hr w h.out.k).2 (hr w h.out.k).1 ⟨rfl,h.out.only⟩
theorem lR {fn:Func} {a:Act} {R:Ending->World->Prop} (hr:∀ K:Value->Prop,(∀ v,R (.returned v) w->K v)->a.defers=[]/\∃ v,(results fn a.tmps).run P w=.ok v w/\K v):bodyPost P fn R .ret a w:=
 have ⟨hd,_,h1,h2⟩:=hr (fun v=>R (.returned v) w) (fun _ h=>h);bodyPost_ret h1 hd h2
theorem lE {fn:Func} {a:Act} {R:Ending->World->Prop} [h:Mm w0 S w L] (hr:∀ w',Oy S w0 w'->Got w' L->Facts w' L->∀ K:Value->Prop,(∀ v,R (.returned v) w'->K v)->a.defers=[]/\∃ v,(results fn a.tmps).run P w'=.ok v w'/\K v):bodyPost P fn R .ret a w:=
 have ⟨hd,_,h1,h2⟩:=hr w h.out.only h.out.got h.out.k (fun v=>R (.returned v) w) (fun _ h=>h);bodyPost_ret h1 hd h2
theorem lG {fn:Func} {a:Act} {v:Value} {R:World->Prop} [h:Mm w0 S w L] (hR:∀ w',Got w' L->R w') (hr:∀ w',Facts w' L->a.defers=[]/\(results fn a.tmps).run P w'=.ok v w'):bodyPost P fn (fun e w'=>e=.returned v/\R w'/\Oy S w0 w') .ret a w:=
 bodyPost_ret (hr w h.out.k).2 (hr w h.out.k).1 ⟨rfl,hR w h.out.got,h.out.only⟩
end
end
section
open Go.RowKit
section
variable {P:Program} {w0 w:World} {S:List Nat} {L:List gG} {Q:Exit->Act->World->Prop}
def pI (Q:Exit->Act->World->Prop) (a:Act) (w:World):Prop:=∀ w2,Oy [] w w2->Q .normal a w2
def aV (P:Program) (ops:Array Oper) (Q:Exit->Act->World->Prop):List Nat->Act->World->Prop
 | [],a,w=>Q .normal a w
 | i::is,a,w=>wpOp P ops (bA (pI Q)) i (fun a' w'=>∀ w2,Oy [] w' w2->aV P ops Q is a' w2) a w
def wR (ops:Array Oper) (TL:List Nat):List Nat->Array Bool->Bool
 | [],listed=>Region.ready .any ops listed == []
 | i::is,listed=>Region.ready .any ops listed == [i] && TL.any (fun t=>(listed.setIfInBounds i true).getD t false) && wR ops TL is (listed.setIfInBounds i true)
theorem F9 {ops:Array Oper} {TL:List Nat} {W:World}:∀ (tl:List Nat) (listed:Array Bool) (a:Act) (w:World),wR ops TL tl listed=true->(late TL listed\/OnlyC [] W w)->(∀ w1,Oy [] w w1->aV P ops Q tl a w1)->dY P .any ops TL W (pI Q) tl.length listed a w
 | [],listed,a,w,hB,hC,h=>mO (by simpa [wR] using hB) hC h
 | i::is,listed,a,w,hB,hC,h=>by
  simp only[wR,Bool.and_eq_true,beq_iff_eq] at hB;exact qJ i hB.1.1 hC fun w1 o1=>wpOp_mono (fun a' w' h'=>F9 is _ a' w' hB.2 (.inl (aT hB.1.2)) h') (h w1 o1)
def rAok (l:List Oper) (hd pu:List Nat) (al:Nat) (tl:List Nat):Bool:=
 kR l hd pu tl && (Region.ready .any l.toArray (fF l.length (hd ++ pu)) == [al]) && wR l.toArray tl tl ((fF l.length (hd ++ pu)).setIfInBounds al true) && (l.length == hd.length+pu.length+(tl.length+1))
theorem rA {id:Nat} {a:Act} {l:List Oper} (hd pu:List Nat) (al:Nat) (tl:List Nat) [m:Mm w0 S w L] (hm:P.follows .mixedOrders=true) (hB:rAok l hd pu al tl=true)
  (h:bM P l.toArray w (bL P l.toArray (fun _=>True) (fun a'=>∀ w1,Oy [] w w1->Mm w0 S w1 L->Facts w1 L->wpOp P l.toArray (bA (pI Q)) al (fun a2 w2=>Oy [] w w2/\∀ w3,Oy [] w2 w3->aV P l.toArray Q tl a2 w3) a' w1) (pick l pu)) (pick l hd) a):(Code.region id l.toArray true).wp P Q a w:=by
 simp only[rAok,Bool.and_eq_true,beq_iff_eq] at hB;obtain⟨⟨⟨h1,h2⟩,h3⟩,h4⟩:=hB;refine iH hd pu tl hm h1 (dU (fun a1 g1=>dN (fun a2 g2=>?_) _ _ g1) _ _ h);refine⟨pI Q,fun a' w' g=>g w' (aR [] w'),fun a' w1 w2 g o w3 o3=>g w3 (o.aB o3),?_⟩;rw[show l.length-(hd.length+pu.length)=tl.length+1 by omega];refine qJ al h2 (.inr (bC (aR [] w).drew)) fun w1 o1=>?_;have o:Oy [] w w1:=(aR [] w).drew.aB o1;exact wpOp_mono (fun a' w' g=>F9 tl _ a' w' h3 (.inr (bC g.1)) g.2) (g2 w1 o ⟨m.out.call o⟩ (m.out.call o).k)
def rTok (l:List Oper) (hd pu tl:List Nat):Bool:=kR l hd pu tl && wR l.toArray tl tl (fF l.length (hd ++ pu)) && (l.length == hd.length+pu.length+tl.length)
theorem rT {id:Nat} {a:Act} {l:List Oper} (hd pu tl:List Nat) [m:Mm w0 S w L] (hm:P.follows .mixedOrders=true) (hB:rTok l hd pu tl=true)
  (h:bM P l.toArray w (bL P l.toArray (fun _=>True) (fun a'=>∀ w1,Mm w0 S w1 L->Facts w1 L->aV P l.toArray Q tl a' w1) (pick l pu)) (pick l hd) a):(Code.region id l.toArray true).wp P Q a w:=by
 simp only[rTok,Bool.and_eq_true,beq_iff_eq] at hB;obtain⟨⟨h1,h3⟩,h4⟩:=hB;refine iH hd pu tl hm h1 (dU (fun a1 g1=>dN (fun a2 g2=>?_) _ _ g1) _ _ h);refine⟨pI Q,fun a' w' g=>g w' (aR [] w'),fun a' w1 w2 g o w3 o3=>g w3 (o.aB o3),?_⟩;rw[show l.length-(hd.length+pu.length)=tl.length by omega]
 exact F9 tl _ a2 w.drew h3 (.inr (bC (aR [] w).drew)) fun w1 o1=>by
  have o:Oy [] w w1:=(aR [] w).drew.aB o1;exact g2 w1 ⟨m.out.call o⟩ (m.out.call o).k
def SN (P:Program) (ops:Array Oper) (Q:Exit->Act->World->Prop) (TL:List Nat):Nat->Array Bool->Act->World->Prop
 | 0,_,a,w=>Q .normal a w
 | f+1,listed,a,w=>∀ i∈Region.ready .any ops listed,wpOp P ops (bA (pI Q)) i (fun a' w'=>late TL (listed.setIfInBounds i true)/\∀ w2,Oy [] w' w2->SN P ops Q TL f (listed.setIfInBounds i true) a' w2) a w
def xOk (ops:Array Oper):Nat->Array Bool->Bool
 | 0,listed=>Region.ready .any ops listed == []
 | f+1,listed=>!(Region.ready .any ops listed).isEmpty && (Region.ready .any ops listed).all fun i=>xOk ops f (listed.setIfInBounds i true)
theorem x_ok {ops:Array Oper} {TL:List Nat} {W:World}:∀ (f:Nat) (listed:Array Bool) (a:Act) (w:World),xOk ops f listed=true->(late TL listed\/OnlyC [] W w)->(∀ w1,Oy [] w w1->SN P ops Q TL f listed a w1)->dY P .any ops TL W (pI Q) f listed a w
 | 0,listed,a,w,hB,hC,h=>mO (by simpa [xOk] using hB) hC h
 | f+1,listed,a,w,hB,hC,h=>by
  simp only[xOk,Bool.and_eq_true] at hB;have hne:Region.ready .any ops listed≠[]:=by intro e;rw[e] at hB;simp at hB
  exact u7 _ rfl hne hC fun w1 o1 i hi=>wpOp_mono (fun a' w' h'=>x_ok f _ a' w' (all_eq_true.1 hB.2 i hi) (.inl h'.1) h'.2) (h w1 o1 i hi)
def rXok (l:List Oper) (pu TL:List Nat) (n:Nat):Bool:=kR l [] pu TL && xOk l.toArray n (fF l.length pu) && (l.length == pu.length+n)
theorem rX {id:Nat} {a:Act} {l:List Oper} (pu TL:List Nat) (n:Nat) [m:Mm w0 S w L] (hm:P.follows .mixedOrders=true) (hB:rXok l pu TL n=true)
  (h:bL P l.toArray (fun _=>True) (fun a'=>∀ w1,Mm w0 S w1 L->Facts w1 L->SN P l.toArray Q TL n (fF l.length pu) a' w1) (pick l pu) a):(Code.region id l.toArray true).wp P Q a w:=by
 simp only[rXok,Bool.and_eq_true,beq_iff_eq] at hB;obtain⟨⟨h1,h3⟩,h4⟩:=hB;refine iH [] pu TL hm h1 (dN (fun a2 g2=>?_) _ _ h);refine⟨pI Q,fun a' w' g=>g w' (aR [] w'),fun a' w1 w2 g o w3 o3=>g w3 (o.aB o3),?_⟩;rw[show l.length-(([]:List Nat).length+pu.length)=n by simp;omega,List.nil_append]
 exact x_ok n _ a2 w.drew h3 (.inr (bC (aR [] w).drew)) fun w1 o1=>by
  have o:Oy [] w w1:=(aR [] w).drew.aB o1;exact g2 w1 ⟨m.out.call o⟩ (m.out.call o).k
theorem xN {ops:Array Oper} {TL:List Nat} {f:Nat} {listed:Array Bool} {a:Act} (rs:List Nat) (hr:Region.ready .any ops listed=rs) (h:∀ i∈rs,wpOp P ops (bA (pI Q)) i (fun a' w'=>late TL (listed.setIfInBounds i true)/\∀ w2,Oy [] w' w2->SN P ops Q TL f (listed.setIfInBounds i true) a' w2) a w):SN P ops Q TL (f+1) listed a w:=by
 unfold SN;rw[hr];exact h
theorem tW {G:World->Prop} [m:Mm w0 S w L] (k:∀ w',Mm w0 S w' L->Facts w' L->G w'):∀ w2,Oy [] w w2->G w2:=fun w2 o=>k w2 ⟨m.out.call o⟩ (m.out.call o).k
theorem cG {ops:Array Oper} {K:Act->Prop} {a:Act} {o:Oper} {rest:List Oper} (hg:Region.wanted o (yielded ops a.tmps)=true) (h:∃ f args v,(∀ w,(execOp a.eval o).run P w=.ok (.enter f args) w)/\(∀ w',Oy [] w w'->Calls P f args w' fun e w''=>e=.returned v/\Oy [] w' w'')/\bM P ops w K rest (a.put o.dst v)):bM P ops w K (o::rest) a:=by
 obtain⟨f,args,v,h1,h2,h3⟩:=h;exact F4 hg f args h1 v h2 h3
end
end
end Go.Proofs.YtppjhbjmfkiejaaGreat
