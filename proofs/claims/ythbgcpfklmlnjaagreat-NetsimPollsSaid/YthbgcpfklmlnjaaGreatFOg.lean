/- Og Oh -/
import Derived.Test.YthbgcpfklmlnjaaGreatFOf
namespace Go.Proofs.YthbgcpfklmlnjaaGreat
set_option linter.all false
set_option maxRecDepth 100000
set_option maxHeartbeats 4000000
open Go.RowKit Go.Sort
section
open Go.Lib (hid)
def NRunR (R:List (Int × Int)) (w:World) (s:dU) (c:Cf) (r:Ending) (w':World):Prop:=
 (nK s.sc c≠0/\r=.returned (.tuple #[.slice none 0 0,.int .i64 (nK s.sc c)])) \/
 (nK s.sc c=0/\∃ st v,CZ R s.sc (newF s.sc c) st/\r=.returned (.tuple #[v,.int .i64 0])/\Own YE 61 9 w.heap.size w' v st.mks)
theorem vB {s:fC} {c:Cf} (h:nK s c=0):mU s=0/\fG (UF c)=0:=by
 unfold nK at h;by_cases h1:mU s=0
 ·rw[if_pos h1] at h
  by_cases h2:fG (UF c)=0
  ·exact⟨h1,h2⟩
  ·rw[if_neg h2] at h;exact absurd h h2
 ·rw[if_neg h1] at h;exact absurd h h1
theorem pNRun {w:World} (s:dU) (c:Cf) (hs:s.Ok w) {R:List (Int × Int)} (hR:tT w R) :
  Calls Tryz.prog 10 #[fZ s,QO c] w fun r w'=>NRunR R w s c r w'/\Only [] w w':=by
 have HC:=hid (fun w' (o:Only [] w w')=>pNCheck s c (hs.kept o));have HNW:=hid (fun (h:nK s.sc c=0) w' (o:Only [] w w')=>SE s c ((eO.jM hs (vB h).1).kept o) (vB h).2);have HSO:=hid (fun (h:nK s.sc c=0) w' (o:Only [] w w')=>(eO.jM hs (vB h).1).kept o);have HR:=hid (fun w' (o:Only [] w w')=>hR.kept o);have HIN:=hid (fun (h:nK s.sc c=0)=>new_inv (eO.jM hs (vB h).1).p (vB h).2);unfold NRunR;generalize nK s.sc c=e at HC HNW HSO HIN |-;unfold fZ QO at *;obtain⟨wo,hwo⟩:∃ wo:World,wo=w:=⟨_,rfl⟩;subst hwo;by_cases he:e=0
 ·subst he
  have HNW2:=hid (HNW.out rfl);have HSO2:=hid (HSO.out rfl);have HIN2:=HIN.out rfl;clear HNW HSO HIN;have m:=dD wo [];have k:=m.out.k;go_enter Tryz.func10,Tryz.ntmps10
  go_wp2_with ((with_reducible first|refine cM (HC.out _ gO) ?_|refine cU ?_|refine wU ?_);clear k m;intro w m k)
  refine (HNW2.out w m.out.only).mono ?_;rintro r w2 ⟨own,p,rfl,h⟩;have HON:=hid m.out.only;have HRUN:=hid (fun w' (o:Only [] w2 w')=>pRun (h.kept o) (HSO2.out w HON.out) (HR.out w HON.out) HIN2.1 HIN2.2.1 HIN2.2.2);clear m k h;have m:=dD w2 [];have k:=m.out.k;go_wp2_with ((with_reducible first|refine cU ?_|refine wU ?_);clear k m;intro w m k)
  refine (HRUN.out w2 m.out.only).mono ?_;rintro r w3 ⟨rfl,st',own',p',hbw,h3,hrun⟩;rw[<-hbw];clear hbw;have HR3:=hid hrun;have H3:=hid h3;have hb3:=h3.wa.2;clear m k HRUN h3 hrun;have m:=mY hb3;have k:=m.out.k;clear hb3;go_wp2_with (first|((with_reducible refine wU ?_);clear k m;intro w m k)|((with_reducible refine lE (fun w o g k K hK=>⟨rfl,?_⟩));simp[results,Tryz.results10,go_sem];refine hK _ ?_;exact⟨.inr ⟨(by trivial),st',p'.vm,HR3.out,rfl,((H3.out.kept o).ms.1).base HON.out.size⟩,HON.out.aB (H3.out.only.aB o)⟩))
 ·have dne:(e != 0)=true:=by simpa using he
  have m:=dD wo [];have k:=m.out.k;go_enter Tryz.func10,Tryz.ntmps10
  go_wp2_with (first|((with_reducible first|refine cM (HC.out _ gO) ?_|refine cU ?_|refine wU ?_);clear k m;intro w m k)|((with_reducible refine lE (fun w o g k K hK=>⟨rfl,?_⟩));simp[results,Tryz.results10,go_sem];refine hK _ ?_;exact⟨.inl ⟨he,rfl⟩,o⟩))
end
section
def wZ (m:RB) (c:Cl) (ρ:Int):Prop:=m.stp<=c.ck.steps/\(m.stp=c.ck.steps->∀ r,ρ<=r->(eF c.ck r).2=0->m.clk<=(eF c.ck r).1)
theorem wZ.ck {m:RB} {c c':Cl} {ρ:Int} (h:wZ m c ρ) (e:c'.ck=c.ck):wZ m c' ρ:=by unfold wZ at *;rw[e];exact h
theorem wZ.up {m:RB} {c:Cl} {ρ ρ':Int} (h:wZ m c ρ) (hr:ρ<=ρ'):wZ m c ρ':=⟨h.1,fun e r hq=>h.2 e r (Int.le_trans hr hq)⟩
theorem wZ.upd {m:RB} {c c':Cl} {ρ er:Int} {a:Ac} (h:wZ m c ρ) (hc:pJ c) (hu:yQ c ρ a er c'):wZ m c' ρ:=by
 by_cases hn:(aY c ρ).2=0
 ·obtain⟨k1,k2⟩:=hc.upd hu.R
  have k2:=k2 hn;split at k2
  ·refine⟨by have:=h.1;omega,fun e=>?_⟩
   have:=h.1;omega
  ·obtain⟨q1,q2⟩:=k2
   refine⟨by rw[q2];exact h.1,fun e r hr hz=>?_⟩;have hn':(aY c' ρ).2=0:=by rw[q1];exact hn
   obtain⟨p1,-,p3⟩:=vN hn;obtain⟨p1',-,p3'⟩:=vN hn';have h1:=h.2 (by rw[e,q2]) ρ (Int.le_refl _) p1;have h2:=QT k1.ok.ck hr p1' hz;rw[<-p3',q1,p3] at h2;omega
 ·rcases hu with ⟨_,_,_,rfl⟩|⟨h0,_⟩
  ·exact h.ck (lD c ρ).1
  ·exact absurd (rF h0) hn
def MkR (a b:RB):Prop:=a.nd=b.nd->a.at_<=b.at_/\a.raw<=b.raw/\a.stp<=b.stp/\(a.stp=b.stp->a.clk<=b.clk)
structure mW (s:fC) (st:bS):Prop where
 tm:0<=st.tm/\st.tm<=1125899906842624
 pr:st.mks.Pairwise MkR
 mm:∀ m∈st.mks,(∃ i:Nat,m.nd=i/\i<s.nd.length)/\0<=m.at_/\m.at_<=st.tm/\m.raw=bO s m.nd m.at_/\∀ c,gQ st m.nd=some c->wZ m c (bO s m.nd st.tm)
theorem mW.eq {s:fC} {st st':bS} (h:mW s st) (e1:st'.mks=st.mks) (e2:st'.cl=st.cl) (e3:st'.tm=st.tm):mW s st':=by
 refine⟨by rw[e3];exact h.tm,by rw[e1];exact h.pr,fun m hm=>?_⟩;rw[e1] at hm;obtain⟨q1,q2,q3,q4,q5⟩:=h.mm m hm;exact⟨q1,q2,by rw[e3];exact q3,q4,fun c hc=>by rw[e3];exact q5 c (by unfold gQ at hc |-;rw[e2] at hc;exact hc)⟩
theorem V7 {s:fC} (hp:ScP s) {i:Nat} (hi:i<s.nd.length) {a b:Int} (h0:0<=a) (hab:a<=b) (h1:b<=1125899906842624):bO s i a<=bO s i b:=by
 unfold bO;exact (X9 (hp.osc i hi) h0 hab h1).1
theorem mW.time {s:fC} (hp:ScP s) {st:bS} (h:mW s st) {r:List Ev} {t:Int} (ht:st.tm<=t) (h1:t<=1125899906842624):mW s { st with q:=r,tm:=t }:=by
 refine⟨⟨by have:=h.tm;dsimp only;omega,h1⟩,h.pr,fun m hm=>?_⟩;obtain⟨⟨i,q1,q1'⟩,q2,q3,q4,q5⟩:=h.mm m hm;refine⟨⟨i,q1,q1'⟩,q2,Int.le_trans q3 ht,q4,fun c hc=>(q5 c hc).up ?_⟩;rw[q1];exact V7 hp q1' h.tm.1 ht h1
theorem ZL {st:bS} {i j:Nat} {c d:Cl} (h:gQ (dO st i c) j=some d):(i=j/\d=c)\/(i≠j/\gQ st j=some d):=by
 have h:=rM.1 h;rw[qX] at h;dsimp only at h;rw[List.getElem?_set] at h;by_cases hij:i=j
 ·rw[if_pos hij] at h
  split at h
  ·exact .inl ⟨hij,by cases h;rfl⟩
  ·cases h
 ·rw[if_neg hij] at h
  exact .inr ⟨hij,rM.2 h⟩
theorem mW.set {s:fC} {st:bS} (h:mW s st) {i:Nat} {c c':Cl} (hc:gQ st i=some c) (hk:∀ m,wZ m c (bO s i st.tm)->wZ m c' (bO s i st.tm)):mW s (dO st i c'):=by
 refine⟨h.tm,h.pr,fun m hm=>?_⟩;obtain⟨⟨j,q1,q1'⟩,q2,q3,q4,q5⟩:=h.mm m hm;refine⟨⟨j,q1,q1'⟩,q2,q3,q4,fun d hd=>?_⟩;rw[q1] at hd q5 |-;rcases ZL hd with ⟨rfl,rfl⟩|⟨_,q⟩
 ·exact hk m (q5 c hc)
 ·exact q5 d q
theorem mW.sch {s:fC} {st:bS} (h:mW s st) (t:Int) (e:EvS):mW s (eX s st t e):=h.eq (eG ..).2.2.1 (eG ..).1 (eG ..).2.2.2.2
theorem mW.cnt {s:fC} {st:bS} (h:mW s st):mW s { st with sent:=st.sent+1 }:=h.eq rfl rfl rfl
theorem mW.note {s:fC} {st:bS} (h:mW s st) (e:EvS) (t:Int):mW s (iP s st e t):=h.eq rfl rfl rfl
theorem mW.mark {s:fC} (hp:ScP s) {st:bS} (h:mW s st) {i:Nat} (hi:i<s.nd.length) {c:Cl} (hc:gQ st i=some c) (hu:pJ c) {lo hi' kd vl:Int} (hn:(aY c (bO s i st.tm)).2=0) :
  mW s { st with mks:=st.mks ++ [⟨st.tm,i,bO s i st.tm,(aY c (bO s i st.tm)).1,c.ck.steps,lo,hi',kd,vl⟩] }:=by
 obtain⟨p1,-,p3⟩:=vN hn;refine⟨h.tm,List.pairwise_append.2 ⟨h.pr,List.pairwise_singleton _ _,fun a ha b hb=>?_⟩,fun m hm=>?_⟩
 ·obtain rfl:=List.mem_singleton.1 hb
  obtain⟨⟨j,q1,q1'⟩,q2,q3,q4,q5⟩:=h.mm a ha;intro e;dsimp only at e |-;have hij:j=i:=by rw[q1] at e;omega
  subst hij;rw[q1] at q4 q5;obtain⟨k1,k2⟩:=q5 c hc;refine⟨q3,?_,k1,fun e=>?_⟩
  ·rw[q4];exact V7 hp hi q2 q3 h.tm.2
  ·rw[p3];exact k2 e _ (Int.le_refl _) p1
 ·rcases List.mem_append.1 hm with hm|hm
  ·exact h.mm m hm
  ·obtain rfl:=List.mem_singleton.1 hm
   refine⟨⟨i,rfl,hi⟩,h.tm.1,Int.le_refl _,rfl,fun d hd=>?_⟩
   have:d=c:=by
    have h1:gQ st i=some d:=hd;rw[hc] at h1
    cases h1;rfl
   subst this;refine⟨Int.le_refl _,fun _ r hr hz=>?_⟩;dsimp only;rw[p3];exact QT hu.ok.ck hr p1 hz
end
end Go.Proofs.YthbgcpfklmlnjaaGreat
