/- Og Oh Oi Oj Ok Ol -/
import Derived.Test.YtppjhbjmfkiejaaGreatFOd
namespace Go.Proofs.YtppjhbjmfkiejaaGreat
set_option linter.all false
open List (mem_singleton)
set_option maxRecDepth 100000
set_option maxHeartbeats 4000000
open Go.RowKit Go.Sort
section
def ME (R:List (Int × Int)) (w:World) (s:dW) (c:Cf) (r:Ending) (w':World):Prop:=
 (iT s.sc c≠0/\r=.returned (.tuple #[.slice none 0 0,.int .i64 (iT s.sc c)])) \/
 (iT s.sc c=0/\∃ st v,rP R s.sc (newF s.sc c) st/\r=.returned (.tuple #[v,.int .i64 0])/\Own kC 41 9 w.heap.size w' v st.mks)
theorem kP {s:eU} {c:Cf} (h:iT s c=0):sV s=0/\eZ (RX c)=0:=by
 unfold iT at h;by_cases h1:sV s=0
 ·rw[if_pos h1] at h
  by_cases h2:eZ (RX c)=0
  ·exact⟨h1,h2⟩
  ·rw[if_neg h2] at h;exact absurd h h2
 ·rw[if_neg h1] at h;exact absurd h h1
theorem pNRun {w:World} (s:dW) (c:Cf) (hs:s.Ok w) {R:List (Int × Int)} (hR:rQ w R) :
  Calls Tryz.prog 10 #[fT s,JB c] w fun r w'=>ME R w s c r w'/\Oy [] w w':=by
 have HC:=aA (fun w' (o:Oy [] w w')=>pNCheck s c (hs.kept o));have HNW:=aA (fun (h:iT s.sc c=0) w' (o:Oy [] w w')=>TV s c ((fK.qV hs (kP h).1).kept o) (kP h).2);have HSO:=aA (fun (h:iT s.sc c=0) w' (o:Oy [] w w')=>(fK.qV hs (kP h).1).kept o);have HR:=aA (fun w' (o:Oy [] w w')=>hR.kept o);have HIN:=aA (fun (h:iT s.sc c=0)=>Q5 (fK.qV hs (kP h).1).p (kP h).2);unfold ME;generalize iT s.sc c=e at HC HNW HSO HIN |-;unfold fT JB at *;obtain⟨wo,rfl⟩:∃ wo:World,wo=w:=⟨_,rfl⟩;by_cases he:e=0
 ·subst he
  have HNW2:=aA (HNW.out rfl);have HSO2:=aA (HSO.out rfl);have HIN2:=HIN.out rfl;clear HNW HSO HIN;have m:=bJ wo [];have k:=m.zK;go_enter Tryz.func10,Tryz.ntmps10
  go_wp2_with ((with_reducible first|refine cM (HC.out _ gO) ?_|refine cU ?_|refine wU ?_);clear k m;intro w m k)
  refine (HNW2.out w m.zO).mono ?_;rintro r w2 ⟨own,p,rfl,h⟩;have HON:=aA m.zO;have HRUN:=aA (fun w' (o:Oy [] w2 w')=>pRun (h.kept o) (HSO2.out w HON.out) (HR.out w HON.out) HIN2.1 HIN2.2.1 HIN2.2.2);clear m k h;have m:=bJ w2 [];have k:=m.zK;go_wp2_with ((with_reducible first|refine cU ?_|refine wU ?_);clear k m;intro w m k)
  refine (HRUN.out w2 m.zO).mono ?_;rintro r w3 ⟨rfl,st',own',p',hbw,h3,hrun⟩;rw[<-hbw];clear hbw;have HR3:=aA hrun;have H3:=aA h3;have hb3:=h3.wa.2;clear m k HRUN h3 hrun;have m:=iX hb3;have k:=m.zK;clear hb3;go_wp2_with (first|((with_reducible refine wU ?_);clear k m;intro w m k)|((with_reducible refine lE (fun w o g k K hK=>⟨rfl,?_⟩));simp[results,Tryz.results10,go_sem];refine hK _ ?_;exact⟨.inr ⟨(by trivial),st',p'.vm,HR3.out,rfl,((H3.out.kept o).ms.1).base HON.out.size⟩,HON.out.aB (H3.out.only.aB o)⟩))
 ·have dne:(e != 0)=true:=by simpa using he
  have m:=bJ wo [];have k:=m.zK;go_enter Tryz.func10,Tryz.ntmps10
  go_wp2_with (first|((with_reducible first|refine cM (HC.out _ gO) ?_|refine cU ?_|refine wU ?_);clear k m;intro w m k)|((with_reducible refine lE (fun w o g k K hK=>⟨rfl,?_⟩));simp[results,Tryz.results10,go_sem];refine hK _ ?_;exact⟨.inl ⟨he,rfl⟩,o⟩))
end
def xX (m:iD) (c:Cl) (ρ:Int):Prop:=m.stp<=c.ck.steps/\(m.stp=c.ck.steps->∀ r,ρ<=r->(eP c.ck r).2=0->m.clk<=(eP c.ck r).1)
theorem xX.ck {m:iD} {c c':Cl} {ρ:Int} (h:xX m c ρ) (e:c'.ck=c.ck):xX m c' ρ:=by unfold xX at *;rw[e];exact h
theorem xX.up {m:iD} {c:Cl} {ρ ρ':Int} (h:xX m c ρ) (hr:ρ<=ρ'):xX m c ρ':=⟨h.1,fun e r hq=>h.2 e r (Int.le_trans hr hq)⟩
theorem xX.upd {m:iD} {c c':Cl} {ρ er:Int} {a:Ac} (h:xX m c ρ) (hc:qB c) (hu:tF c ρ a er c'):xX m c' ρ:=by
 by_cases hn:(aZ c ρ).2=0
 ·obtain⟨k1,k2⟩:=hc.upd hu.R
  have k2:=k2 hn;split at k2
  ·refine⟨by have:=h.1;omega,fun e=>?_⟩
   have:=h.1;omega
  ·obtain⟨q1,q2⟩:=k2
   refine⟨by rw[q2];exact h.1,fun e r hr hz=>?_⟩;have hn':(aZ c' ρ).2=0:=by rw[q1];exact hn
   obtain⟨p1,-,p3⟩:=wF hn;obtain⟨p1',-,p3'⟩:=wF hn';have h1:=h.2 (by rw[e,q2]) ρ (Int.le_refl _) p1;have h2:=RY k1.ok.ck hr p1' hz;rw[<-p3',q1,p3] at h2;omega
 ·rcases hu with ⟨_,_,_,rfl⟩|⟨h0,_⟩
  ·exact h.ck (lW c ρ).1
  ·exact absurd (sG h0) hn
def MkR (a b:iD):Prop:=a.nd=b.nd->a.at_<=b.at_/\a.raw<=b.raw/\a.stp<=b.stp/\(a.stp=b.stp->a.clk<=b.clk)
structure nE (s:eU) (st:bT):Prop where
 tm:0<=st.tm/\st.tm<=1125899906842624
 pr:st.mks.Pairwise MkR
 mm:∀ m∈st.mks,(∃ i:Nat,m.nd=i/\i<s.nd.length)/\0<=m.at_/\m.at_<=st.tm/\m.raw=bN s m.nd m.at_/\∀ c,gW st m.nd=some c->xX m c (bN s m.nd st.tm)
theorem nE.eq {s:eU} {st st':bT} (h:nE s st) (e1:st'.mks=st.mks) (e2:st'.cl=st.cl) (e3:st'.tm=st.tm):nE s st':=by
 refine⟨by rw[e3];exact h.tm,by rw[e1];exact h.pr,fun m hm=>?_⟩;rw[e1] at hm;obtain⟨q1,q2,q3,q4,q5⟩:=h.mm m hm;exact⟨q1,q2,by rw[e3];exact q3,q4,fun c hc=>by rw[e3];exact q5 c (by unfold gW at hc |-;rw[e2] at hc;exact hc)⟩
theorem XV {s:eU} (hp:ScP s) {i:Nat} (hi:i<s.nd.length) {a b:Int} (h0:0<=a) (hab:a<=b) (h1:b<=1125899906842624):bN s i a<=bN s i b:=by
 unfold bN;exact (ZN (hp.osc i hi) h0 hab h1).1
theorem nE.time {s:eU} (hp:ScP s) {st:bT} (h:nE s st) {r:List Ev} {t:Int} (ht:st.tm<=t) (h1:t<=1125899906842624):nE s { st with q:=r,tm:=t }:=by
 refine⟨⟨by have:=h.tm;dsimp only;omega,h1⟩,h.pr,fun m hm=>?_⟩;obtain⟨⟨i,q1,q1'⟩,q2,q3,q4,q5⟩:=h.mm m hm;refine⟨⟨i,q1,q1'⟩,q2,Int.le_trans q3 ht,q4,fun c hc=>(q5 c hc).up ?_⟩;rw[q1];exact XV hp q1' h.tm.1 ht h1
theorem clOf_set {st:bT} {i j:Nat} {c d:Cl} (h:gW (dS st i c) j=some d):(i=j/\d=c)\/(i≠j/\gW st j=some d):=by
 have h:=sK.1 h;rw[rV] at h;dsimp only at h;rw[List.getElem?_set] at h;by_cases hij:i=j
 ·rw[if_pos hij] at h
  split at h
  ·exact .inl ⟨hij,by cases h;rfl⟩
  ·cases h
 ·rw[if_neg hij] at h
  exact .inr ⟨hij,sK.2 h⟩
theorem nE.set {s:eU} {st:bT} (h:nE s st) {i:Nat} {c c':Cl} (hc:gW st i=some c) (hk:∀ m,xX m c (bN s i st.tm)->xX m c' (bN s i st.tm)):nE s (dS st i c'):=by
 refine⟨h.tm,h.pr,fun m hm=>?_⟩;obtain⟨⟨j,q1,q1'⟩,q2,q3,q4,q5⟩:=h.mm m hm;refine⟨⟨j,q1,q1'⟩,q2,q3,q4,fun d hd=>?_⟩;rw[q1] at hd q5 |-;rcases clOf_set hd with ⟨rfl,rfl⟩|⟨_,q⟩
 ·exact hk m (q5 c hc)
 ·exact q5 d q
theorem nE.sch {s:eU} {st:bT} (h:nE s st) (t:Int) (e:EvS):nE s (fE s st t e):=h.eq (eT ..).2.2.1 (eT ..).1 (eT ..).2.2.2.2
theorem nE.cnt {s:eU} {st:bT} (h:nE s st):nE s { st with sent:=st.sent+1 }:=h.eq rfl rfl rfl
theorem nE.note {s:eU} {st:bT} (h:nE s st) (e:EvS) (t:Int):nE s (iW s st e t):=h.eq rfl rfl rfl
theorem nE.mark {s:eU} (hp:ScP s) {st:bT} (h:nE s st) {i:Nat} (hi:i<s.nd.length) {c:Cl} (hc:gW st i=some c) (hu:qB c) {lo hi' kd vl:Int} (hn:(aZ c (bN s i st.tm)).2=0) :
  nE s { st with mks:=st.mks ++ [⟨st.tm,i,bN s i st.tm,(aZ c (bN s i st.tm)).1,c.ck.steps,lo,hi',kd,vl⟩] }:=by
 obtain⟨p1,-,p3⟩:=wF hn;refine⟨h.tm,List.pairwise_append.2 ⟨h.pr,List.pairwise_singleton _ _,fun a ha b hb=>?_⟩,fun m hm=>?_⟩
 ·obtain rfl:=mem_singleton.1 hb
  obtain⟨⟨j,q1,q1'⟩,q2,q3,q4,q5⟩:=h.mm a ha;intro e;dsimp only at e |-;have hij:j=i:=by rw[q1] at e;omega
  subst hij;rw[q1] at q4 q5;obtain⟨k1,k2⟩:=q5 c hc;refine⟨q3,?_,k1,fun e=>?_⟩
  ·rw[q4];exact XV hp hi q2 q3 h.tm.2
  ·rw[p3];exact k2 e _ (Int.le_refl _) p1
 ·rcases List.mem_append.1 hm with hm|hm
  ·exact h.mm m hm
  ·obtain rfl:=mem_singleton.1 hm
   refine⟨⟨i,rfl,hi⟩,h.tm.1,Int.le_refl _,rfl,fun d hd=>?_⟩
   have:d=c:=by
    have h1:gW st i=some d:=hd;rw[hc] at h1
    cases h1;rfl
   subst this;refine⟨Int.le_refl _,fun _ r hr hz=>?_⟩;dsimp only;rw[p3];exact RY hu.ok.ck hr p1 hz
def SgP (n:Nat) (s:dW):Prop:=∀ i<n,(s.nd.getD i bD).n.sg.length<=100/\(s.nd.getD i bD).n.sv.length<=100
def ChP (n:Nat) (s:dW):Prop:=∀ i<n,(s.lk.getD i jI).l.ch.length<=100
def VN (s:dW):Prop:=s.nd.length<=60/\s.lk.length<=100/\s.ft.length<=100/\SgP s.nd.length s/\ChP s.lk.length s
theorem SgP.up {s:dW} {n:Nat} (h:SgP n s) (h1:(s.nd.getD n bD).n.sg.length<=100) (h2:(s.nd.getD n bD).n.sv.length<=100):SgP (n+1) s:=fun i hi=>by
 by_cases e:i=n
 ·subst e;exact⟨h1,h2⟩
 ·exact h i (by omega)
theorem ChP.up {s:dW} {n:Nat} (h:ChP n s) (h1:(s.lk.getD n jI).l.ch.length<=100):ChP (n+1) s:=fun i hi=>by
 by_cases e:i=n
 ·subst e;exact h1
 ·exact h i (by omega)
def C9:Cf:=⟨1,0,1,3,⟨65536,655,500000,0,0⟩,500000,4,6⟩
def eX:eU:=⟨[⟨0,[⟨0,0⟩],0,true,100,0,[]⟩,⟨0,[⟨0,0⟩],0,false,0,0,[0]⟩],[⟨0,1,1000,1000,0,0,0,0,[]⟩],[],1000000,0⟩
theorem J9:iT eX C9=0:=by kernel_rfl
def kS:Cl:=I8 ⟨1,0,1,3,⟨65536,655,500000,0,0⟩,500000,4,6⟩ 0 0
def awS0:bT:=⟨[none,some kS],[⟨0,1,0⟩],0,1,[.poll ⟨1,0,0,0⟩],0,[],[]⟩
def VF:bT:=⟨[none,some kS],[],0,1,[.poll ⟨1,0,0,0⟩],0,[],[]⟩
theorem aw_new:newF eX C9=awS0:=by kernel_rfl
def LQ (n:Int):Np:={ zA with ver:=4,mode:=3,xmt:=n,poll:=4 }
def zF (n:Int):Cl:={ kS with srcs:=[{ (pU kS.cf) with sa:={ VY with t1:=0,nonce:=n,pend:=true },sent:=0,rc:=oM (pU kS.cf).rc }] }
theorem aw_send {n:Int} (h:n≠0):dP kS 0 0 n=((LQ n,0),zF n):=by
 have e:l9 (pU kS.cf).sa 0 n=({ zA with ver:=4,mode:=3,xmt:=n },0,{ VY with t1:=0,nonce:=n,pend:=true }):=by
  unfold l9;rw[if_pos (by kernel_rfl),if_neg h,if_neg (show ¬ n=(pU kS.cf).sa.nonce from h)];rfl
 have e2:iF (pU kS.cf) 0 0 n=(LQ n,0,{ (pU kS.cf) with sa:={ VY with t1:=0,nonce:=n,pend:=true },sent:=0,rc:=oM (pU kS.cf).rc }):=by
  unfold iF;rw[e];rfl
 have e3:aI kS 0=(0,0,kS):=by kernel_rfl
 unfold dP;rw[if_pos (by kernel_rfl),e3];dsimp only;rw[if_pos rfl,show kS.srcs.getD (0:Int).toNat (pU kS.cf)=pU kS.cf from rfl,e2];rfl
theorem aw_arv (R:List (Int × Int)):xV R eX 1 0 0 0=some 1000/\xV R eX 0 1 1000 0=some 2000:=by
 have key:∀ (d t n:Int),(d=0\/d=1)->LX R ⟨0,1,1000,1000,0,0,0,0,[]⟩ d t n=some (t+1000):=fun d t n hd=>by
  unfold LX IG xQ;dsimp only[List.foldl];have h0:GZ (1000,1000) d=1000:=by unfold GZ;split<;>rfl
  have h1:GZ (0,0) d=0:=by unfold GZ;split<;>rfl
  have h2:=(xE (R:=R) 0 (4*n+2*d)).1;rw[h0,h1,if_neg (by omega)];simp
 exact⟨key 1 0 0 (.inr rfl),key 0 1000 0 (.inl rfl)⟩
def awS1 (n:Int):bT:=⟨[none,some (zF n)],[⟨1000,2,1⟩],0,2,[.poll ⟨1,0,0,0⟩,.req ⟨1,0,0,0⟩ (LQ n)],1,[],[⟨1,1,0,0,0⟩]⟩
theorem aw_poll (R:List (Int × Int)):pX R eX VF 0 ⟨1,0,0,0⟩=awS1 (max (gU R 0 0) 1):=by
 have hn:max (gU R 0 0) 1≠0:=by omega
 unfold pX;rw[show fE eX VF (0+16000000000) (.poll ⟨1,0,0,0⟩)=VF by kernel_rfl];dsimp only;rw[show gW VF 1=some kS from rfl];dsimp only;rw[show bN eX 1 0=0 by kernel_rfl,show VF.sent=0 from rfl,show eX.sd=0 from rfl,aw_send hn];dsimp only;rw[show ∀ c,(dS VF 1 c).sent=0 from fun _=>rfl,if_pos rfl,(aw_arv R).1];rfl
def sW (n:Int):Np:=⟨0,4,4,1,4,-20,(rH ⟨1,0,100,1⟩).1,(rH ⟨1,0,100,1⟩).2.1,1,0,n,mF 3900000000000001000,mF 3900000000000001000⟩
def awS2 (n:Int):bT:=⟨[none,some (zF n)],[⟨1000,3,2⟩],1000,3,[.poll ⟨1,0,0,0⟩,.req ⟨1,0,0,0⟩ (LQ n),.dep ⟨1,0,0,0⟩ (sW n) ⟨900,1100⟩],1,[],[⟨1,1,0,0,0⟩,⟨2,0,1,0,1000⟩]⟩
theorem aw_req (n:Int):sQ eX { awS1 n with q:=[],tm:=1000 } 1000 ⟨1,0,0,0⟩ (LQ n)=awS2 n:=by
 have e:fG eX { awS1 n with q:=[],tm:=1000 } 0 (LQ n) 1000=(sW n,⟨900,1100⟩,true):=by kernel_rfl
 unfold sQ;rw[e];rfl
def awS3 (n:Int):bT:=⟨[none,some (zF n)],[⟨2000,4,3⟩],1000,4,[.poll ⟨1,0,0,0⟩,.req ⟨1,0,0,0⟩ (LQ n),.dep ⟨1,0,0,0⟩ (sW n) ⟨900,1100⟩,.rep ⟨1,0,0,0⟩ (sW n) ⟨900,1100⟩],1,[],[⟨1,1,0,0,0⟩,⟨2,0,1,0,1000⟩,⟨1,0,1,1,1000⟩]⟩
theorem aw_dep (R:List (Int × Int)) (n:Int):C8 R eX { awS2 n with q:=[],tm:=1000 } 1000 ⟨1,0,0,0⟩ (sW n) ⟨900,1100⟩=awS3 n:=by
 unfold C8;rw[show xV R eX 0 1 1000 0=some 2000 from (aw_arv R).2];rfl
theorem aw_arecv (n:Int):jV { VY with t1:=0,nonce:=n,pend:=true } (sW n) 2000=(⟨7,⟨#[]⟩,⟨0,1000,1000,2000⟩⟩,{ VY with t1:=0,nonce:=n,pend:=false,xmt:=mF 3900000000000001000 }):=by
 have e:zH { VY with t1:=0,nonce:=n,pend:=true } (sW n) 2000=none:=by
  unfold zH;rw[if_pos ⟨by kernel_rfl,by kernel_rfl,by kernel_rfl,fun h=>absurd h.2 (show ¬ (2000:Int)<0 by decide)⟩];dsimp only;rw[if_pos rfl,if_pos (show (sW n).org=n from rfl),if_neg (show ¬ ((sW n).xmt≠0/\(sW n).xmt=VY.xmt) from fun h=>absurd h.2 (show ¬ mF 3900000000000001000=0 by decide))]
 unfold jV;rw[e];rfl
def LU (n:Int):Hd × Sr:=kJ ((zF n).srcs.getD 0 (pU (zF n).cf)) 0 (sW n) ⟨900,1100⟩ true 2000 2000 1 0
def xU (n:Int):Cl:={ zF n with last:=2000,srcs:=[(LU n).2] }
theorem R6 (n:Int):fJ (zF n) 0 (sW n) ⟨900,1100⟩ true 2000=(((LU n).1,0),xU n):=by kernel_rfl
theorem aw_b2 (n:Int):(LU n).1.kind=7/\(LU n).2.hp=true/\(LU n).2.prf=⟨900,3100⟩/\(LU n).2.pat=2000:=by
 unfold LU;rw[show (zF n).srcs.getD 0 (pU (zF n).cf)={ (pU kS.cf) with sa:={ VY with t1:=0,nonce:=n,pend:=true },sent:=0,rc:=oM (pU kS.cf).rc } from rfl];unfold kJ;dsimp only;rw[aw_arecv];exact⟨by kernel_rfl,by kernel_rfl,by kernel_rfl,by kernel_rfl⟩
theorem AA (raw tol off jit:Int):∀ (ks:List Cd) (l:List Sr),(EK off jit ks l).map (jQ raw tol)=l.map (jQ raw tol)
 | [],_=>rfl
 |k::r,l=>by
  rw[EK,AA raw tol off jit r];refine List.ext_getElem? fun i=>?_;rw[List.getElem?_map,List.getElem?_map,List.getElem?_modify]
  cases l[i]? with
  | none=>rfl
  | some y =>
   simp only[Option.map_eq_map,Option.map_some,Option.some.injEq];split<;>rfl
theorem str_prf {c:Cl} {raw now off:Int} {kept:List Cd} (r tol:Int):(jB c raw now off kept).2.2.srcs.map (jQ r tol)=c.srcs.map (jQ r tol)/\(jB c raw now off kept).2.2.cf=c.cf/\(jB c raw now off kept).2.2.own=c.own/\(jB c raw now off kept).2.2.owned=c.owned:=by
 unfold jB;split
 ·split
  ·split
   ·refine⟨?_,rfl,rfl,rfl⟩
    show (gQ (qC c now off kept)).map (jQ r tol)=_
    unfold gQ;rw[List.map_map];exact AA r tol _ _ _ _
   ·exact⟨AA r tol _ _ _ _,rfl,rfl,rfl⟩
  ·exact⟨AA r tol _ _ _ _,rfl,rfl,rfl⟩
 ·exact⟨rfl,rfl,rfl,rfl⟩
theorem tF.prf {c c':Cl} {raw er:Int} {a:Ac} (hu:tF c raw a er c') (he:(aZ c raw).2=0) (r tol:Int):c'.srcs.map (jQ r tol)=c.srcs.map (jQ r tol)/\c'.cf=c.cf/\c'.own=vN c raw/\c'.owned=raw:=by
 have hB:(fM c raw).srcs=c.srcs/\(fM c raw).cf=c.cf/\(fM c raw).own=vN c raw/\(fM c raw).owned=raw:=by
  unfold fM;rw[jK he];exact⟨rfl,rfl,rfl,rfl⟩
 rcases hu with ⟨h,_⟩|⟨_,⟨_,_,_,rfl⟩|⟨ins,hv,_,_,h⟩⟩
 ·rw[jK he] at h
  exact absurd rfl h
 ·rw[hB.1]
  exact⟨rfl,hB.2.1,hB.2.2.1,hB.2.2.2⟩
 ·have:=str_prf (c:=fM c raw) (raw:=raw) (now:=(aI c raw).1) (off:=gZ (mY c raw ins)) (kept:=mY c raw ins) r tol
  rw[<-h] at this;dsimp only at this;rw[hB.1,hB.2.1,hB.2.2.1,hB.2.2.2] at this;exact this
theorem R9 (n:Int):aZ (xU n) 2000=(2000,0):=by kernel_rfl
theorem R7 (n:Int):(xU n).srcs.map (jQ 2000 0)=[⟨900,3100⟩]:=by
 obtain⟨-,h1,h2,h3⟩:=aw_b2 n;show [jQ 2000 0 (LU n).2]=_
 unfold jQ;rw[if_pos h1,h2,h3];kernel_rfl
theorem awB_ren (n:Int):vN (xU n) 2000=⟨900,3100⟩:=by
 unfold vN ED;rw[show (xU n).cf.tol=0 from rfl,R7,show ((xU n).cf.servers-1) / 2=0 from rfl,KV (by decide),show lZ (xU n).own (xU n).owned 2000 0=⟨-4503599627368496,4503599627370496⟩ by kernel_rfl];simp only[Option.getD_some];rw[show vW ⟨900,3100⟩ ⟨-4503599627368496,4503599627370496⟩=some ⟨900,3100⟩ by kernel_rfl];rfl
theorem awHB_ok {n:Int} (h0:0<=n) (h1:n<=18446744073709551615):fA (sW n):=
 ⟨show 0<=(rH ⟨1,0,100,1⟩).1/\(rH ⟨1,0,100,1⟩).1<=4294967295 by decide,show 0<=(rH ⟨1,0,100,1⟩).2.1/\(rH ⟨1,0,100,1⟩).2.1<=4294967295 by decide,show 0<=(1:Int)/\(1:Int)<=4294967295 by decide,⟨h0,h1⟩,show 0<=mF 3900000000000001000/\mF 3900000000000001000<=18446744073709551615 by decide,show 0<=mF 3900000000000001000/\mF 3900000000000001000<=18446744073709551615 by decide,show 0<=(0:Int)/\(0:Int)<=18446744073709551615 by decide⟩
theorem awB_u {n:Int} (h0:0<=n) (h1:n<=18446744073709551615):qB (xU n):=by
 have hn:=(yL.new (c:=kS.cf) (raw:=0) (by decide) (by decide)).u
 have hA:qB (zF n):=by
  refine⟨⟨hn.ok.ck,fun s hs=>?_,hn.ok.own,hn.ok.s0,hn.ok.s1,rfl⟩,hn.sv,fun s hs=>?_,hn.tol,hn.kp,hn.rd⟩
  ·obtain rfl:=mem_singleton.1 hs
   exact hn.ok.src (pU kS.cf) (mem_singleton.2 rfl)
  ·obtain rfl:=mem_singleton.1 hs
   exact⟨(hn.g (pU kS.cf) (mem_singleton.2 rfl)).fl,(hn.g (pU kS.cf) (mem_singleton.2 rfl)).r1,(hn.g (pU kS.cf) (mem_singleton.2 rfl)).r2⟩
 have:=hA.recv 0 (p:=sW n) (awHB_ok h0 h1) ⟨900,1100⟩ true 2000;rw[R6] at this;exact this
theorem aw_upd {n:Int} (h0:0<=n) (h1:n<=18446744073709551615) {a:Ac} {er:Int} {c2:Cl} (hu:tF (xU n) 2000 a er c2):(aZ c2 2000).2=0/\nS c2 2000=(⟨900,3100⟩,0):=by
 have hz:(aZ (xU n) 2000).2=0:=by rw[R9]
 have h2:=((awB_u h0 h1).upd hu.R).2 hz
 have hz2:(aZ c2 2000).2=0:=by
  split at h2
  ·rw[h2.1]
  ·rw[h2.1,R9]
 obtain⟨k1,k2,k3,k4⟩:=hu.prf hz 2000 0;refine⟨hz2,?_⟩;unfold nS;rw[if_pos hz2];unfold vN ED;rw[k2,k3,k4,show (xU n).cf.tol=0 from rfl,k1,R7,awB_ren,show ((xU n).cf.servers-1) / 2=0 from rfl,KV (by decide),show lZ ⟨900,3100⟩ 2000 2000 0=⟨900,3100⟩ by kernel_rfl];simp only[Option.getD_some];rw[show vW ⟨900,3100⟩ ⟨900,3100⟩=some ⟨900,3100⟩ by kernel_rfl];rfl
theorem tH.at {R:List (Int × Int)} {s:eU} {a b:bT} (h:tH R s a b) {x:Ev} {r:List Ev} (hq:a.q=x::r):match a.ev.getD x.x.toNat (.poll ⟨0,0,0,0⟩) with
  | .poll p=>b=pX R s { a with q:=r,tm:=x.t } x.t p
  | .req p h=>b=sQ s { a with q:=r,tm:=x.t } x.t p h
  | .dep p h v=>b=C8 R s { a with q:=r,tm:=x.t } x.t p h v
  | .rep p h v=>EL s { a with q:=r,tm:=x.t } x.t p h v b:=by
 obtain⟨y,r',h1,h2⟩:=h;rw[hq] at h1
 cases h1
 exact h2
theorem rP.go {R:List (Int × Int)} {s:eU} {a c:bT} (h:rP R s a c) {x:Ev} {r:List Ev} (hq:a.q=x::r):∃ b,tH R s a b/\rP R s b c:=by
 cases h with
 | done h=>rw[hq] at h;cases h
 | step h k=>exact⟨_,h,k⟩
theorem aw_run {R:List (Int × Int)} {st:bT} (h:rP R eX (newF eX C9) st):∃ m,st.mks=[m]/\m.at_=2000/\m.nd=1/\m.kd=7/\m.lo=900/\m.hi=3100:=by
 rw[aw_new] at h;have hm:=xE (R:=R) 0 0;obtain⟨b1,s1,k1⟩:=h.go (x:=⟨0,1,0⟩) (r:=[]) rfl;have e1:b1=awS1 (max (gU R 0 0) 1):=(s1.at (x:=⟨0,1,0⟩) (r:=[]) rfl:b1=pX R eX { awS0 with q:=[],tm:=0 } 0 ⟨1,0,0,0⟩).trans (aw_poll R);have h0:0<=max (gU R 0 0) 1:=by omega
 have h1:max (gU R 0 0) 1<=18446744073709551615:=by omega
 generalize max (gU R 0 0) 1=n at e1 h0 h1;subst e1;obtain⟨b2,s2,k2⟩:=k1.go (x:=⟨1000,2,1⟩) (r:=[]) rfl;obtain rfl:b2=awS2 n:=(s2.at (x:=⟨1000,2,1⟩) (r:=[]) rfl:b2=sQ eX { awS1 n with q:=[],tm:=1000 } 1000 ⟨1,0,0,0⟩ (LQ n)).trans (aw_req n);obtain⟨b3,s3,k3⟩:=k2.go (x:=⟨1000,3,2⟩) (r:=[]) rfl;obtain rfl:b3=awS3 n:=(s3.at (x:=⟨1000,3,2⟩) (r:=[]) rfl:b3=C8 R eX { awS2 n with q:=[],tm:=1000 } 1000 ⟨1,0,0,0⟩ (sW n) ⟨900,1100⟩).trans (aw_dep R n);obtain⟨b4,s4,k4⟩:=k3.go (x:=⟨2000,4,3⟩) (r:=[]) rfl;have e4:EL eX { awS3 n with q:=[],tm:=2000 } 2000 ⟨1,0,0,0⟩ (sW n) ⟨900,1100⟩ b4:=s4.at (x:=⟨2000,4,3⟩) (r:=[]) rfl;unfold EL at e4;rw[show gW { awS3 n with q:=[],tm:=2000 } ({ c:=1,i:=0,s:=0,n:=0 }:AJ).c=some (zF n) from rfl] at e4;dsimp only at e4;rw[show bN eX 1 2000=2000 by kernel_rfl,R6] at e4;obtain⟨a,er,c2,hu,rfl⟩:=e4;obtain⟨q1,q2⟩:=aw_upd h0 h1 hu;dsimp only at k4;rw[if_pos q1,q2,(aw_b2 n).1] at k4
 cases k4 with
 | done _=>exact⟨_,rfl,rfl,rfl,rfl,rfl,rfl⟩
 | step h _ =>
  obtain⟨y,r',h1,_⟩:=h
  cases h1
theorem zL {α:Type} {ec:α->List Value} {s:Nat} (hs:∀ x,(ec x).length=s) {w:World} {b n:Nat} {t:TypeId} {l:List α} (h:w.heap[b]? = some (.cells (l.flatMap ec).toArray t (0,0))) (hn:n=l.length) (hm:l.length<=maxLen):aU ec s w (some ⟨b,0,none⟩) n n l:=by
 subst hn
 have hl:∀ l:List α,(l.flatMap ec).length=l.length*s:=by
  intro l;induction l with
  | nil=>simp
  | cons a r ih=>rw[List.flatMap_cons,List.length_append,ih,hs,List.length_cons,Nat.succ_mul,Nat.add_comm]
 refine aO.dI hs ⟨_,h,hl l,Nat.le_refl _,hm,?_⟩ rfl;rw[<-hl];exact List.take_length
theorem pair_at {wo w:World} {b:Nat} (g:Got w [⟨b+1+1+1+1+1,[.int .i64 0,.int .i64 1,.int .i64 1000,.int .i64 1000,.int .i64 0,.int .i64 0,.int .i64 0,.int .u64 0,.slice none 0 0],81,true⟩,
  ⟨b+1+1+1+1,[.int .i64 0,.slice (some ⟨b+1,0,none⟩) 1 1,.int .i64 0,.bool true,.int .i64 100,.int .i64 0,.slice none 0 0,.int .i64 0,.slice (some ⟨b+1,0,none⟩) 1 1,.int .i64 0,.bool false,.int .i64 0,.int .i64 0,.slice (some ⟨b+1+1+1,0,none⟩) 1 1],54,true⟩,
  ⟨b+1+1+1,[.int .i64 0],3,true⟩,⟨b+1+1,[.int .i64 0,.slice (some ⟨b+1,0,none⟩) 1 1],51,true⟩,⟨b+1,[.int .i64 0,.int .i64 0],48,true⟩,
  ⟨b,[.slice (some ⟨b+1+1+1+1,0,none⟩) 2 2,.slice (some ⟨b+1+1+1+1+1,0,none⟩) 1 1,.slice none 0 0,.int .i64 1000000,.int .u64 0],27,true⟩]) (o:Oy [] wo w) :
  ∃ s:dW,Ending.returned (.agg #[.slice (some ⟨b+1+1+1+1,0,none⟩) 2 2,.slice (some ⟨b+1+1+1+1+1,0,none⟩) 1 1,.slice none 0 0,.int .i64 1000000,.int .u64 0])=.returned (fT s)/\s.Ok w/\s.sc=eX/\Oy [] wo w:=by
 obtain⟨g1,g2,g3,-,g5,-⟩:=g
 refine⟨⟨[⟨⟨0,[⟨0,0⟩],0,true,100,0,[]⟩,some ⟨b+1,0,none⟩,1,none,0⟩,⟨⟨0,[⟨0,0⟩],0,false,0,0,[0]⟩,some ⟨b+1,0,none⟩,1,some ⟨b+1+1+1,0,none⟩,1⟩],
  [⟨⟨0,1,1000,1000,0,0,0,0,[]⟩,none,0⟩],[],1000000,0,some ⟨b+1+1+1+1,0,none⟩,2,some ⟨b+1+1+1+1+1,0,none⟩,1,none,0⟩,rfl,?_,rfl,o⟩
 have r5:aU TB 2 w (some ⟨b+1,0,none⟩) 1 1 [⟨0,0⟩]:=zL (ec:=TB) (s:=2) (l:=[(⟨0,0⟩:Sg)]) (fun _=>rfl) g5 rfl (show 1<=maxLen by decide);have r3:aU wN 1 w (some ⟨b+1+1+1,0,none⟩) 1 1 [0]:=zL (ec:=wN) (s:=1) (l:=[(0:Int)]) (fun _=>rfl) g3 rfl (show 1<=maxLen by decide);refine⟨zL (l:=[⟨⟨0,[⟨0,0⟩],0,true,100,0,[]⟩,some ⟨b+1,0,none⟩,1,none,0⟩,⟨⟨0,[⟨0,0⟩],0,false,0,0,[0]⟩,some ⟨b+1,0,none⟩,1,some ⟨b+1+1+1,0,none⟩,1⟩]) Q6 g2 rfl (show 2<=maxLen by decide),zL (l:=[⟨⟨0,1,1000,1000,0,0,0,0,[]⟩,none,0⟩]) Q8 g1 rfl (show 1<=maxLen by decide),vB w,fun x hx=>?_,fun x hx=>?_,show 2<=100000 by decide,show 1<=100000 by decide,show 0<=100000 by decide⟩
 ·simp only[List.mem_cons,List.not_mem_nil,or_false] at hx
  rcases hx with rfl|rfl
  ·exact⟨r5,vB w,show 1<=100000 by decide,show 0<=100000 by decide⟩
  ·exact⟨r5,r3,show 1<=100000 by decide,show 1<=100000 by decide⟩
 ·obtain rfl:=mem_singleton.1 hx
  exact⟨vB w,show 0<=100000 by decide⟩
theorem aU.VQ {w wr:World} {cap k:Nat} {p:Option Addr} {l:List iD} (hv:aU kC 9 w p l.length cap l) (ho:Oy [] w wr) (hk:k<l.length) :
  ∃ bk off,p=some ⟨bk,off,none⟩/\bk<wr.heap.size/\wr.cell? ⟨bk,off+k*9,none⟩=some (.int .i64 l[k].at_)/\wr.cell? ⟨bk,off+k*9+1,none⟩=some (.int .i64 l[k].nd)/\wr.cell? ⟨bk,off+k*9+2,none⟩=some (.int .i64 l[k].raw)/\wr.cell? ⟨bk,off+k*9+3,none⟩=some (.int .i64 l[k].clk)/\wr.cell? ⟨bk,off+k*9+4,none⟩=some (.int .i64 l[k].stp)/\wr.cell? ⟨bk,off+k*9+5,none⟩=some (.int .i64 l[k].lo)/\wr.cell? ⟨bk,off+k*9+6,none⟩=some (.int .i64 l[k].hi)/\wr.cell? ⟨bk,off+k*9+7,none⟩=some (.int .i64 l[k].kd)/\wr.cell? ⟨bk,off+k*9+8,none⟩=some (.int .i64 l[k].vl):=by
 obtain⟨b,off,hp,hb,hc⟩:=hv.cell k l[k] (List.getElem?_eq_getElem hk)
 have g:∀ j v,(kC l[k])[j]? = some v->wr.cell? ⟨b,off+k*9+j,none⟩=some v:=fun j v hj=>by
  rw[ho.cell hb (by simp),Nat.add_assoc];exact hc j v hj
 exact⟨b,off,hp,Nat.lt_of_lt_of_le hb ho.size,g 0 _ rfl,g 1 _ rfl,g 2 _ rfl,g 3 _ rfl,g 4 _ rfl,g 5 _ rfl,g 6 _ rfl,g 7 _ rfl,g 8 _ rfl⟩
structure dW.Ok0 (w:World) (s:dW):Prop where
 nd:aU ndC 7 w s.pn s.nd.length s.cn s.nd
 lk:aU lkC 9 w s.pl s.lk.length s.cl s.lk
 ft:aU ftC 5 w s.pf s.ft.length s.cf s.ft
 ns:∀ x∈s.nd,aU TB 2 w x.ps x.n.sg.length x.cs x.n.sg/\aU wN 1 w x.pv x.n.sv.length x.cv x.n.sv
 ls:∀ x∈s.lk,aU chC 3 w x.p x.l.ch.length x.c x.l.ch
theorem dW.Ok0.ok {w:World} {s:dW} (h:s.Ok0 w) (hf:VN s):s.Ok w:=by
 obtain⟨a1,a2,a3,a4,a5⟩:=hf;refine⟨h.nd,h.lk,h.ft,fun x hx=>?_,fun x hx=>?_,by omega,by omega,by omega⟩
 ·obtain⟨i,hi,rfl⟩:=List.getElem_of_mem hx
  have:=a4 i hi;rw[List.getD_eq_getElem?_getD,List.getElem?_eq_getElem hi] at this;exact⟨(h.ns _ hx).1,(h.ns _ hx).2,Nat.le_trans this.1 (by decide),Nat.le_trans this.2 (by decide)⟩
 ·obtain⟨i,hi,rfl⟩:=List.getElem_of_mem hx
  have:=a5 i hi;rw[List.getD_eq_getElem?_getD,List.getElem?_eq_getElem hi] at this;exact⟨h.ls _ hx,Nat.le_trans this (by decide)⟩
end Go.Proofs.YtppjhbjmfkiejaaGreat
