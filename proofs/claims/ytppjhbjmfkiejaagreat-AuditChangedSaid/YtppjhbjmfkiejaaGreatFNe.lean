/- Ne Nf Ng Np -/
import Derived.Test.YtppjhbjmfkiejaaGreatFF1
import Derived.Laws.EntriesVeiled
import Derived.Defers
import Derived.Recover
import Derived.Test.YtppjhbjmfkiejaaGreatFSb
import Derived.Test.YtppjhbjmfkiejaaGreatFMx
namespace Go.Proofs.YtppjhbjmfkiejaaGreat
set_option maxRecDepth 100000
set_option maxHeartbeats 4000000
open Go.RowKit
section
open Go.Sort
def XP (p:Np):Int:=if qX p=0 then (if p.mode=3 then 0 else 8) else 2
def TG (p:Np) (r:FX):Int:=if lQ r=0 then XP p else 2
def yY (p:Np) (t:Int) (r:FX):Np × Int:=
 if TG p r=0 then (if (rH r).2.2=0 then (⟨if r.str=16 then 3 else 0,p.ver,4,if r.str=16 then 0 else r.str,p.poll,-20,(rH r).1,(rH r).2.1,r.ref,0,p.xmt,t,t⟩,0) else (zA,(rH r).2.2)) else (zA,TG p r)
theorem pHValid (p:Np) (w:World) :
  Calls Tryz.prog 211 #[iR p] w fun e w'=>e=.returned (.bool (decide (qX p=0)))/\Oy [] w w':=by
 have HC:=aA (fun w'=>YO p w');generalize qX p=e at HC |-;obtain⟨q1,q2,q3,q4,q5,q6,q7,q8,q9,qa,qb,qc,qd⟩:=p;unfold iR at HC |-;dsimp only at HC |-;have h:(e == 0)=decide (e=0):=by rw[Bool.eq_iff_iff];simp
 have m:=bJ w [];have k:=m.zK;go_enter Tryz.func211,Tryz.ntmps211
 go_wp2_with (first|((with_reducible first|refine cM (HC.out _) ?_|refine wU ?_);clear k m;intro w m k)|((with_reducible refine lE (fun w o g k K hK=>⟨rfl,?_⟩));simp[results,Tryz.results211,go_sem];refine hK _ ?_;exact⟨rfl,o⟩))
theorem pHAsks (p:Np) (w:World) :
  Calls Tryz.prog 212 #[iR p] w fun e w'=>e=.returned (.bool (decide (p.mode=3)))/\Oy [] w w':=by
 obtain⟨q1,q2,q3,q4,q5,q6,q7,q8,q9,qa,qb,qc,qd⟩:=p;unfold iR;dsimp only;have h:(q3 == 3)=decide (q3=3):=by rw[Bool.eq_iff_iff];simp
 have m:=bJ w [];have k:=m.zK;go_enter Tryz.func212,Tryz.ntmps212
 go_wp2_with (first|((with_reducible refine wU ?_);clear k m;intro w m k)|((with_reducible refine lE (fun w o g k K hK=>⟨rfl,?_⟩));simp[results,Tryz.results212,go_sem];refine hK _ ?_;exact⟨rfl,o⟩))
theorem pReqChk (p:Np) (w:World) :
  Calls Tryz.prog 201 #[iR p] w fun e w'=>e=.returned (.int .i64 (XP p))/\Oy [] w w':=by
 have H1:=aA (fun w'=>pHValid p w');have H2:=aA (fun w'=>pHAsks p w');obtain⟨res,HE⟩:∃ zz,Hid (XP p=zz):=⟨_,aA rfl⟩;rw[HE.out];unfold XP at HE;generalize qX p=e at H1 HE;obtain⟨q1,q2,q3,q4,q5,q6,q7,q8,q9,qa,qb,qc,qd⟩:=p;unfold iR at H1 H2 |-;dsimp only at H1 H2 HE |-;by_cases h:e=0
 ·rw[if_pos h] at HE
  rw[eY h] at H1;clear h;by_cases h2:q3=3
  focus
   rw[if_pos h2] at HE;rw[eY h2] at H2;obtain rfl:=HE.out;subst h2
  rotate_left
  focus
   rw[if_neg h2] at HE;rw[dL h2] at H2;obtain rfl:=HE.out;clear h2
  rotate_left
  all_goals
   have m:=bJ w [];have k:=m.zK;go_enter Tryz.func201,Tryz.ntmps201
   go_wp2_with fail
   refine wp_loop_rounds 3 ?_;repeat (rw[rounds_succ];go_wp2_with (first|((with_reducible first|refine cM (H1.out _) ?_|refine cM (H2.out _) ?_|refine cU ?_|refine wU ?_);clear k m;intro w m k)|((with_reducible refine lE (fun w o g k K hK=>⟨rfl,?_⟩));simp[results,Tryz.results201,go_sem];refine hK _ ?_;exact⟨rfl,o⟩)))
 ·rw[if_neg h] at HE
  rw[dL h] at H1;obtain rfl:=HE.out;clear h;have m:=bJ w [];have k:=m.zK;go_enter Tryz.func201,Tryz.ntmps201
  go_wp2_with fail
  refine wp_loop_rounds 3 ?_;repeat (rw[rounds_succ];go_wp2_with (first|((with_reducible first|refine cM (H1.out _) ?_|refine cU ?_|refine wU ?_);clear k m;intro w m k)|((with_reducible refine lE (fun w o g k K hK=>⟨rfl,?_⟩));simp[results,Tryz.results201,go_sem];refine hK _ ?_;exact⟨rfl,o⟩)))
theorem pRplChk (p:Np) (r:FX) (w:World) :
  Calls Tryz.prog 185 #[iR p,JK r,.int .i64 0,.int .i64 (-20)] w fun e w'=>e=.returned (.int .i64 (TG p r))/\Oy [] w w':=by
 have H1:=aA (fun w'=>YK r w');have H2:=aA (fun w'=>pReqChk p w');obtain⟨res,HE⟩:∃ zz,Hid (TG p r=zz):=⟨_,aA rfl⟩;rw[HE.out];unfold TG at HE;generalize XP p=g at H2 HE;generalize lQ r=e at H1 HE;obtain⟨q1,q2,q3,q4,q5,q6,q7,q8,q9,qa,qb,qc,qd⟩:=p;obtain⟨r1,r2,r3,r4⟩:=r;unfold iR at H2 |-;unfold JK at H1 |-;dsimp only at H1 H2 |-;by_cases h:e=0
 ·subst h
  rw[if_pos rfl] at HE;obtain rfl:=HE.out;have m:=bJ w [];have k:=m.zK;go_enter Tryz.func185,Tryz.ntmps185
  go_wp2_with (first|((with_reducible first|refine cM (H1.out _) ?_|refine cM (H2.out _) ?_|refine wU ?_);clear k m;intro w m k)|((with_reducible refine lE (fun w o g k K hK=>⟨rfl,?_⟩));simp[results,Tryz.results185,go_sem];refine hK _ ?_;exact⟨rfl,o⟩))
 ·rw[if_neg h] at HE
  obtain rfl:=HE.out;have k0:(e != 0)=true:=by simpa using h
  have m:=bJ w [];have k:=m.zK;go_enter Tryz.func185,Tryz.ntmps185
  go_wp2_with (first|((with_reducible first|refine cM (H1.out _) ?_|refine wU ?_);clear k m;intro w m k)|((with_reducible refine lE (fun w o g k K hK=>⟨rfl,?_⟩));simp[results,Tryz.results185,go_sem];refine hK _ ?_;exact⟨rfl,o⟩))
theorem YJ (p:Np) (t:Int) (r:FX) (w:World) :
  Calls Tryz.prog 179 #[iR p,.int .u64 t,.int .u64 t,.int .u64 0,JK r,.int .i64 0,.int .i64 (-20)] w fun e w'=>e=.returned (.tuple #[iR (yY p t r).1,.int .i64 (yY p t r).2])/\Oy [] w w':=by
 have H1:=aA (fun w'=>pRplChk p r w');have H2:=aA (fun w'=>pFields r w');obtain⟨res,HE⟩:∃ zz,Hid (yY p t r=zz):=⟨_,aA rfl⟩;rw[HE.out];unfold yY at HE;generalize TG p r=e at H1 HE;generalize rH r=f at H2 HE;obtain⟨f1,f2,f3⟩:=f;obtain⟨q1,q2,q3,q4,q5,q6,q7,q8,q9,qa,qb,qc,qd⟩:=p;obtain⟨r1,r2,r3,r4⟩:=r;unfold iR at H1 |-;unfold JK at H1 H2 |-;dsimp only at H1 H2 HE |-;by_cases h:e=0
 ·subst h
  rw[if_pos rfl] at HE;by_cases h2:f3=0
  focus
   subst h2;rw[if_pos rfl] at HE;by_cases h3:r1=16
   focus
    subst h3;rw[if_pos rfl,if_pos rfl] at HE;obtain rfl:=HE.out
   rotate_left
   focus
    rw[if_neg h3,if_neg h3] at HE;obtain rfl:=HE.out;have k3:(r1 == 16)=false:=by simpa using h3
   rotate_left
  rotate_left 2
  focus
   rw[if_neg h2] at HE;obtain rfl:=HE.out;unfold zA;have k2:(f3 != 0)=true:=by simpa using h2
  rotate_left
  all_goals
   have m:=bJ w [];have k:=m.zK;go_enter Tryz.func179,Tryz.ntmps179
   go_wp2_with (first|((with_reducible first|refine cM (H1.out _) ?_|refine cM (H2.out _) ?_|refine wU ?_);clear k m;intro w m k)|((with_reducible refine lE (fun w o g k K hK=>⟨rfl,?_⟩));simp[results,Tryz.results179,go_sem,k];refine hK _ ?_;exact⟨rfl,o⟩))
 ·rw[if_neg h] at HE
  obtain rfl:=HE.out;unfold zA;have k1:(e != 0)=true:=by simpa using h
  have m:=bJ w [];have k:=m.zK;go_enter Tryz.func179,Tryz.ntmps179
  go_wp2_with (first|((with_reducible first|refine cM (H1.out _) ?_|refine wU ?_);clear k m;intro w m k)|((with_reducible refine lE (fun w o g k K hK=>⟨rfl,?_⟩));simp[results,Tryz.results179,go_sem,k];refine hK _ ?_;exact⟨rfl,o⟩))
end
section
open Go.Sort
def pnc (e:Int):List PanicEntry:=[{ v:=.iface 35 (.int .i64 e),recovered:=false }]
theorem EB (v:Value) (older:List PanicEntry) (w:World) :
  CallsD Tryz.prog 203 #[] (.panicking ({ v:=v,recovered:=false }::older)) w fun e u' w'=>e=.returned (.tuple #[])/\u'=.panicking ({ v:=v,recovered:=true }::older)/\w'=w:=by
 refine callsD_of_wpS Tryz.func203 rfl fun c₀ cs hu=>?_;apply wpS_region
 simp[wpOpsS,go_sem,recoverD,hu,Tryz.ntmps203,bodyPostS,results,Tryz.results203]
theorem XU (w:World) :
  CallsD Tryz.prog 203 #[] .returning w fun e u' w'=>e=.returned (.tuple #[])/\u'=.returning/\w'=w:=by
 refine callsD_of_wpS Tryz.func203 rfl fun c₀ cs hu=>?_;apply wpS_region
 cases c₀
 simp_all [wpOpsS,go_sem,recoverD,Tryz.ntmps203,bodyPostS,results,Tryz.results203]
theorem vT {w:World} {Q:World->Prop} (g:FuncId) (caps:Array Value) (hc:∀ w,(callFunc g caps).run Tryz.prog w=.ok (.enter g caps) w) (h:Calls Tryz.prog g caps w fun e w'=>(e=.returned (.tuple #[])\/∃ x,e=.panicked (pnc x))/\Q w') :
  Calls Tryz.prog 187 #[.func (.func g) #[] caps] w fun e w'=>e=.returned (.tuple #[])/\Q w':=by
 have H:=aA h;clear h;go_enter_defers Tryz.func187,Tryz.ntmps187
 go_wp2_with fail
 refine H.out.mono ?_;rintro e w' ⟨rfl|⟨x,rfl⟩,hq⟩
 ·go_wp2
  refine leaves_cons (f:=203) (args:=#[]) (by simp) (by simp[go_sem]) ?_;refine (XU _).mono ?_;rintro e u' w'' ⟨rfl,rfl,rfl⟩;simp[Leaves,settle,results,Tryz.results187,go_sem,hq]
 ·go_wp2
  refine leaves_cons (f:=203) (args:=#[]) (by simp) (by simp[go_sem]) ?_;refine (EB _ _ _).mono ?_;rintro e u' w'' ⟨rfl,rfl,rfl⟩;simp[Leaves,settle,results,Tryz.results187,go_sem,hq]
theorem G9 (w:World):Calls Tryz.prog 193 #[.int .i64 0] w fun e w'=>e=.returned (.tuple #[])/\Oy [] w w':=by
 have m:=bJ w [];have k:=m.zK;go_enter Tryz.func193,Tryz.ntmps193
 go_wp2;exact lN rfl rfl fun w o g=>⟨rfl,o⟩
theorem ND (x:Int) (hx:x≠0) (w:World):Calls Tryz.prog 193 #[.int .i64 x] w fun e w'=>e=.panicked (pnc x)/\Oy [] w w':=by
 have k0:(x != 0)=true:=by simpa using hx
 have m:=bJ w [];have k:=m.zK;go_enter Tryz.func193,Tryz.ntmps193
 go_wp2;exact⟨rfl,rfl,aR _ _⟩
end
section
open Go.Sort
def jC (s v t:Int):Option Int:=if (oF s (3900000000000000000+t)).2=0 then some (mF ((oF s (3900000000000000000+t)).1+v)) else none
def LC (x:Iv) (v:Int):Option Iv:=if bU x=true then (if bU ⟨x.lo+v,x.hi+v⟩=true then some ⟨x.lo+v,x.hi+v⟩ else none) else none
def iN (x:Iv):Int:=x.lo / 2+x.hi / 2+bits .and .i64 (bits .and .i64 x.lo x.hi) 1
def IE (x:Iv) (v:Int):Option Iv:=if bU x=true then (if bU ⟨iN x+v,iN x+v⟩=true then some ⟨iN x+v,iN x+v⟩ else none) else none
structure Fg where
 drop:Bool
 hd:Np
 iv:Iv
 hold:Int
def Fg.wW (g:Fg):Option Int->Fg
 | some x=>{ g with hd:={ g.hd with rcv:=x } }
 | none=>g
def Fg.GL (g:Fg):Option Int->Fg
 | some x=>{ g with hd:={ g.hd with xmt:=x } }
 | none=>g
def Fg.yV (g:Fg):Option Iv->Fg
 | some x=>{ g with iv:=x }
 | none=>g
def gM (t:Int) (g:Fg) (f:Ft):Fg:=
 if f.k=1 then { g with drop:=true }
 else if f.k=2 then
  let g1:=g.wW (jC g.hd.rcv f.v t)
  let g2:=g1.GL (jC g1.hd.xmt f.v t)
  g2.yV (LC g2.iv f.v)
 else if f.k=3 then g.yV (IE g.iv f.v)
 else if f.k=4 then { g with hd:={ g.hd with leap:=3,strat:=0 } }
 else if f.k=5 then { g with hd:={ g.hd with strat:=f.v } }
 else if f.k=6 then { g with hd:={ g.hd with leap:=f.v } }
 else if f.k=7 then { g with hd:={ g.hd with org:=bits .xor .u64 g.hd.org 1 } }
 else if f.k=8 then { g with hd:={ g.hd with leap:=3,strat:=0,rid:=1380013125 } }
 else if f.k=9 then { g with hold:=g.hold+f.v }
 else g
def xW (n t:Int) (f:Ft):Bool:=decide (f.n=n) && (decide (f.f<=t) && decide (t<f.t))
def mG (l:List Ft) (n t:Int) (p:Np) (v:Iv):Fg:=(l.filter (xW n t)).foldl (gM t) ⟨false,p,v,0⟩
end
def y9 (R:Act->World->Prop) (E:List PanicEntry->List Deferred->World->Prop):Exit->Act->World->Prop
 | .normal,a,w=>R a w
 | .panic c,a,w=>E c a.defers w
 | _,_,_=>False
section
variable {P:Program} {ops:Array Oper} {md:Region.Mode} {C:World->Prop} {R:Act->World->Prop} {E:List PanicEntry->List Deferred->World->Prop}
theorem QB (a:Act) (d:Option Nat) (v:Value):(a.put d v).defers=a.defers:=by cases d<;>rfl
def mX (P:Program) (md:Region.Mode) (ops:Array Oper) (tl:List Nat) (C:World->Prop) (R:Act->World->Prop) (E:List PanicEntry->List Deferred->World->Prop):Nat->Array Bool->Act->World->Prop
 | 0,listed,a,w=>(late tl listed\/C w)/\Region.ready md ops listed=[]/\R a w
 |f+1,listed,a,w=>(late tl listed\/C w)/\(Region.ready md ops listed=[]->R a w) /\
  ∀ i∈Region.ready md ops listed,wpOp P ops (y9 R E) i (mX P md ops tl C R E f (listed.setIfInBounds i true)) a w
theorem AU {tl:List Nat}:∀ (f:Nat) (listed:Array Bool) (a:Act) (w:World),mX P md ops tl C R E f listed a w->wpAny P md ops (y9 R E) f listed a w
 | 0,_,_,_,h=>⟨h.2.1,h.2.2⟩
 | f+1,_,_,_,h=>⟨h.2.1,fun i hi=>wpOp_mono (fun a' w' h'=>AU f _ a' w' h') (h.2.2 i hi)⟩
theorem SQ {j:Nat} {oi oj:Oper} {v:Value} (hj:ops[j]? = some oj) (hap:oi.apart ops oj=true)
  (hsi:∀ cs b,oi.op≠ .select cs b) (hsj:∀ cs b,oj.op≠ .select cs b) {K:Act->World->Prop} {a:Act} {w:World}
  (hy:dR P ops C oi v a) (h:wpOp P ops (y9 R E) j K (a.put oi.dst v) w) :
  wpOp P ops (y9 R E) j (fun a' w'=>dR P ops C oi v a'/\K (a'.put oi.dst v) w') a w:=by
 obtain⟨h1,h2,h3⟩:=Oper.apart_spec hap
 have keep:∀ (a:Act),dR P ops C oi v a->∀ u,dR P ops C oi v (a.put oj.dst u):=fun a hy u =>
  hy.of_same (execOp_put oi hsi a oj.dst u h3) (wanted_put oi a oj.dst u h3)
 have keepD:∀ d,dR P ops C oi v { a with defers:=d::a.defers }:=fun d=>hy.of_same rfl rfl;unfold wpOp at *;simp only[hj] at *;rw[wanted_put oj a oi.dst v h1] at h;split
 ·rename_i hw
  simp only[hw,if_true] at h;rcases h with h|⟨hasks,a0,w0,hlets⟩
  case inr=>exact hlets.elim
  refine .inl ?_;unfold Oper.wp at *;rw[execOp_put oj hsj a oi.dst v h1] at h;generalize (execOp a.eval oj).run P w=r at *
  cases r with
  | ok n w' =>
   cases n<;>simp only[Oper.upon] at h |-
   case value u=>exact⟨keep a hy u,by rw[<-Act.put_comm a v u h2];exact h⟩
   case skip=>exact⟨keep a hy _,by rw[<-Act.put_comm a v undef h2];exact h⟩
   case defer d =>
    refine⟨keep _ (keepD d) _,?_⟩;rw[<-Act.put_comm _ v undef h2,<-Act.put_defers];exact h
   case enter f args =>
    refine Calls.mono h fun e w'' he=>?_
    cases e with
    | returned u=>exact⟨keep a hy u,by rw[<-Act.put_comm a v u h2];exact he⟩
    | panicked c=>simpa only[y9,QB] using he
    | outgrown=>exact he
   case row row args=>exact Rows.mono h fun u w'' he=>⟨keep a hy u,by rw[<-Act.put_comm a v u h2];exact he⟩
  | halt x w' =>
   cases x<;>simp only[Oper.upon] at h |-
   case panic u=>simpa only[y9,QB] using h
 ·rename_i hw
  simp only[hw] at h;exact⟨keep a hy _,by rw[<-Act.put_comm a v undef h2];exact h⟩
theorem F5 {hd tl:List Nat} {i:Nat} {oi:Oper} {v:Value} (hi:ops[i]? = some oi) (hsel:∀ (j:Nat) (o:Oper) cs b,ops[j]? = some o->o.op≠ .select cs b)
  (hB:fI md ops hd tl=true) (hin:i∈hd) (hit:i ∉ tl) :
  ∀ (fuel:Nat) (listed:Array Bool) (a:Act) (w:World),jL md ops tl listed ->
   (∀ j oj,ops[j]? = some oj->j≠i->listed.getD j true=false->(∀ e∈oj.after,Region.binds md e=true->e.on≠i)->oi.apart ops oj=true) ->
   i∈Region.ready md ops listed->dR P ops C oi v a ->
   mX P md ops tl C R E fuel (listed.setIfInBounds i true) (a.put oi.dst v) w->mX P md ops tl C R E (fuel+1) listed a w:=by
 intro fuel;induction fuel with
 | zero =>
  intro listed a w inv _ hr hy H;have hun:=(mem_ready.1 hr).1;have hnl:=nP hB inv hin hun;have hC:C w:=H.1.resolve_left (fun h=>hnl (jT h hit));refine⟨.inr hC,fun h=>(by rw[h] at hr;cases hr),fun j hj=>?_⟩;by_cases hji:j=i
  ·subst hji;exact hy.wpOp hi hC H
  ·have:=ready_mono hj hji
   rw[H.2.1] at this
   cases this
 | succ fuel ih =>
  intro listed a w inv hfree hr hy H;have hun:=(mem_ready.1 hr).1;have hnl:=nP hB inv hin hun;have hC:C w:=H.1.resolve_left (fun h=>hnl (jT h hit));refine⟨.inr hC,fun h=>(by rw[h] at hr;cases hr),fun j hj=>?_⟩;by_cases hji:j=i
  ·subst hji;exact hy.wpOp hi hC H
  ·have h1:=H.2.2 j (ready_mono hj hji)
   obtain⟨hjun,oj,hoj,hall⟩:=mem_ready.1 hj
   have hnot:∀ e∈oj.after,Region.binds md e=true->e.on≠i:=fun e he hb heq=>by
    have h1:=hall e he hb;rw[heq,getD_both hun] at h1
    cases h1
   have h2:=SQ hoj (hfree j oj hoj hji hjun hnot) (fun cs b=>hsel i oi cs b hi) (fun cs b=>hsel j oj cs b hoj) hy h1
   have hfree':∀ k ok,ops[k]? = some ok->k≠i->(listed.setIfInBounds j true).getD k true=false ->
     (∀ e∈ok.after,Region.binds md e=true->e.on≠i)->oi.apart ops ok=true:=fun k ok hk hki hun hno=>by
    refine hfree k ok hk hki ?_ hno;by_cases hjk:j=k
    ·subst hjk;exact hjun
    ·rw[getD_set_ne true hjk] at hun;exact hun
   refine wpOp_mono (fun a' w' h3=>ih (listed.setIfInBounds j true) a' w' (inv.set hj) hfree' (ready_mono hr (Ne.symm hji)) h3.1 ?_) h2;rw[Array.setIfInBounds_comm _ _ hji];exact h3.2
theorem AX {hd0 tl:List Nat} {f:Nat} {w:World} (hsel:Region.noSelect ops=true) (hht:fI md ops hd0 tl=true) :
  ∀ (hd:List Nat) (l:List Oper) (listed:Array Bool) (a:Act),(l.map some=hd.map (fun i=>ops[i]?))->(∀ i∈hd,i∈hd0/\i ∉ tl)->jL md ops tl listed->iB md ops hd listed=true ->
  bL P ops C (fun a'=>mX P md ops tl C R E f (hd.foldl (fun l i=>l.setIfInBounds i true) listed) a' w) l a ->
  mX P md ops tl C R E (hd.length+f) listed a w
 | [],[],listed,a,_,_,_,_,h=>by simpa [bL] using h
 | [],_::_,_,_,hl,_,_,_,_=>by simp at hl
 | _::_,[],_,_,hl,_,_,_,_=>by simp at hl
 |k::hd,o::l,listed,a,hl,hm,inv,hB,h=>by
  simp only[List.map_cons,List.cons.injEq] at hl;obtain⟨h0,hl⟩:=hl;simp only[iB,Bool.and_eq_true] at hB;obtain⟨⟨hr,hf⟩,hB'⟩:=hB;have hr':k∈Region.ready md ops listed:=by simpa using hr
  obtain⟨v,hy,hK⟩:=rO (ops:=ops) (C:=C) (K:=bL P ops C (fun a'=>mX P md ops tl C R E f ((k::hd).foldl (fun l i=>l.setIfInBounds i true) listed) a' w) l) h;have ih:=AX (f:=f) (w:=w) hsel hht hd l (listed.setIfInBounds k true) (a.put o.dst v) hl (fun i hi=>hm i (by simp[hi])) (inv.set hr') hB' (by simpa using hK);rw[List.length_cons,show hd.length+1+f=(hd.length+f)+1 by omega];exact F5 h0.symm (Region.noSelect_spec hsel) hht (hm k (by simp)).1 (hm k (by simp)).2 _ listed a w inv (Region.free_spec h0.symm hf) hr' hy ih
theorem jY {id:Nat} {Q:Exit->Act->World->Prop} {a:Act} {w:World} {l:List Oper} (hd tl:List Nat) (C:World->Prop) (R:Act->World->Prop) (E:List PanicEntry->List Deferred->World->Prop) (hm:P.follows .mixedOrders=true) (hB:DN l hd tl=true)
  (h:bL P l.toArray C (fun a'=>mX P .any l.toArray tl C R E (l.length-hd.length) (fF l.length hd) a' w.drew) (pick l hd) a)
  (hR:∀ a' w',R a' w'->Q .normal a' w') (hE:∀ c a' w',E c a'.defers w'->Q (.panic c) a' w'):(Code.region id l.toArray true).wp P Q a w:=by
 simp only[DN,Bool.and_eq_true,decide_eq_true_eq] at hB;obtain⟨⟨⟨⟨⟨hsel,htk⟩,hin⟩,hlen⟩,hht⟩,hdis⟩:=hB;have hd':∀ i∈hd,i∈hd/\i ∉ tl:=fun i hi=>⟨hi,by have:=List.all_eq_true.1 hdis i hi;simpa using this⟩
 have inv0:jL .any l.toArray tl (Array.replicate l.length false):=
  ⟨by simp,fun j oj _ hl=>(by rw[getD_replicate_false] at hl;cases hl)⟩
 have h1:=AX (P:=P) (C:=C) (R:=R) (E:=E) (md:=.any) (f:=l.length-hd.length) (w:=w.drew) hsel hht hd (pick l hd) (Array.replicate l.length false) a (gT l hd hin) hd' inv0 htk h;have h2:=AU _ _ _ _ h1;rw[show hd.length+(l.length-hd.length)=l.length by omega] at h2;refine Code.wp_mono (Q:=y9 R E) (fun e a w q=>?_) (wp_region_any hm (by simpa using h2))
 cases e<;>first|exact hR _ _ q|exact hE _ _ _ q|exact q.elim
theorem qI {tl:List Nat} {f:Nat} {listed:Array Bool} {a:Act} {w:World} (rs:List Nat) (hr:Region.ready md ops listed=rs) (hne:rs≠[]) (hC:late tl listed\/C w)
  (h:∀ i∈rs,wpOp P ops (y9 R E) i (mX P md ops tl C R E f (listed.setIfInBounds i true)) a w):mX P md ops tl C R E (f+1) listed a w:=
 ⟨hC,fun h0=>absurd (hr.symm.trans h0) hne,fun i hi=>h i (hr ▸ hi)⟩
theorem wP {i:Nat} {o:Oper} {K:Act->World->Prop} {a:Act} {w:World} (hi:ops[i]? = some o) (h:wpList P ops (y9 K E) [o] a w):wpOp P ops (y9 R E) i K a w:=by
 unfold wpOp;simp only[hi];unfold wpList at h;split
 ·rename_i hw
  simp only[hw,if_true] at h;rcases h with h|⟨_,a0,w0,hl⟩
  ·refine .inl ?_
   unfold Oper.wp at *;generalize (execOp a.eval o).run P w=r at *
   cases r with
   | ok n w' =>
    cases n<;>simp only[Oper.upon,wpList,y9] at h |-<;>first|exact h|exact Calls.mono h (fun e w'' he=>by cases e<;>first|exact he|exact he.elim|(obtain⟨_,_,h⟩:=he;exact h.elim))
   | halt x w'=>cases x<;>simp only[Oper.upon,y9] at h |-<;>exact h
  ·exact hl.elim
 ·rename_i hw;simp only[hw] at h;exact h
end
end Go.Proofs.YtppjhbjmfkiejaaGreat
