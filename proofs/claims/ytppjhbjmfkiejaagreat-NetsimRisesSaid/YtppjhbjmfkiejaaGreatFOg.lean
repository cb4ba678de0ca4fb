/- Og Oh -/
import Derived.Test.YtppjhbjmfkiejaaGreatFOf
namespace Go.Proofs.YtppjhbjmfkiejaaGreat
set_option linter.all false
section
open Go.Lib (hid)
set_option maxRecDepth 100000
set_option maxHeartbeats 4000000
open Go.RowKit Go.Sort
def NRunR (R:List (Int × Int)) (w:World) (s:ScW) (c:Cf) (r:Ending) (w':World):Prop:=
 (nchkF s.sc c≠0/\r=.returned (.tuple #[.slice none 0 0,.int .i64 (nchkF s.sc c)])) ∨
 (nchkF s.sc c=0/\∃ st v,RunR R s.sc (newF s.sc c) st/\r=.returned (.tuple #[v,.int .i64 0])/\Own mkC 41 9 w.heap.size w' v st.mks)
theorem nchk_ok {s:Scn} {c:Cf} (h:nchkF s c=0):chkS s=0/\ccheck (cf1 c)=0:=by
 unfold nchkF at h;by_cases h1:chkS s=0
 ·rw[if_pos h1] at h
  by_cases h2:ccheck (cf1 c)=0
  ·exact⟨h1,h2⟩
  ·rw[if_neg h2] at h;exact absurd h h2
 ·rw[if_neg h1] at h;exact absurd h h1
theorem pNRun {w:World} (s:ScW) (c:Cf) (hs:s.Ok w) {R:List (Int × Int)} (hR:Rnds w R) :
  Calls Tryz.prog 10 #[scnV s,cfV c] w fun r w'=>NRunR R w s c r w'/\Only [] w w':=by
 have HC:=hid (fun w' (o:Only [] w w')=>pNCheck s c (hs.kept o));have HNW:=hid (fun (h:nchkF s.sc c=0) w' (o:Only [] w w')=>pNewWorld s c ((WScOk.of_check hs (nchk_ok h).1).kept o) (nchk_ok h).2);have HSO:=hid (fun (h:nchkF s.sc c=0) w' (o:Only [] w w')=>(WScOk.of_check hs (nchk_ok h).1).kept o);have HR:=hid (fun w' (o:Only [] w w')=>hR.kept o);have HIN:=hid (fun (h:nchkF s.sc c=0)=>new_inv (WScOk.of_check hs (nchk_ok h).1).p (nchk_ok h).2);unfold NRunR;generalize nchkF s.sc c=e at HC HNW HSO HIN ⊢;unfold scnV cfV at *;obtain⟨wo,hwo⟩:∃ wo:World,wo=w:=⟨_,rfl⟩;subst hwo;by_cases he:e=0
 ·subst he
  have HNW2:=hid (HNW.out rfl);have HSO2:=hid (HSO.out rfl);have HIN2:=HIN.out rfl;clear HNW HSO HIN;have m:=mm0 wo [];have k:=m.out.k;go_enter Tryz.func10,Tryz.ntmps10
  go_wp2_with ((with_reducible first|refine cM (HC.out _ gO) ?_|refine cU ?_|refine wU ?_);clear k m;intro w m k)
  refine (HNW2.out w m.out.only).mono ?_;rintro r w2 ⟨own,p,rfl,h⟩;have HON:=hid m.out.only;have HRUN:=hid (fun w' (o:Only [] w2 w')=>pRun (h.kept o) (HSO2.out w HON.out) (HR.out w HON.out) HIN2.1 HIN2.2.1 HIN2.2.2);clear m k h;have m:=mm0 w2 [];have k:=m.out.k;go_wp2_with ((with_reducible first|refine cU ?_|refine wU ?_);clear k m;intro w m k)
  refine (HRUN.out w2 m.out.only).mono ?_;rintro r w3 ⟨rfl,st',own',p',hbw,h3,hrun⟩;rw[<-hbw];clear hbw;have HR3:=hid hrun;have H3:=hid h3;have hb3:=h3.wa.2;clear m k HRUN h3 hrun;have m:=mmR hb3;have k:=m.out.k;clear hb3;go_wp2_with (first|((with_reducible refine wU ?_);clear k m;intro w m k)|((with_reducible refine lE (fun w o g k K hK=>⟨rfl,?_⟩));simp[results,Tryz.results10,go_sem];refine hK _ ?_;exact⟨.inr ⟨(by trivial),st',p'.vm,HR3.out,rfl,((H3.out.kept o).ms.1).base HON.out.size⟩,HON.out.nil_trans (H3.out.only.nil_trans o)⟩))
 ·have dne:(e != 0)=true:=by simpa using he
  have m:=mm0 wo [];have k:=m.out.k;go_enter Tryz.func10,Tryz.ntmps10
  go_wp2_with (first|((with_reducible first|refine cM (HC.out _ gO) ?_|refine cU ?_|refine wU ?_);clear k m;intro w m k)|((with_reducible refine lE (fun w o g k K hK=>⟨rfl,?_⟩));simp[results,Tryz.results10,go_sem];refine hK _ ?_;exact⟨.inl ⟨he,rfl⟩,o⟩))
end
section
open Go.RowKit Go.Sort
theorem send_ck (c:Cl) (server raw nonce:Int):(clSend c server raw nonce).2.ck=c.ck:=by
 unfold clSend;split
 ·split
  ·exact (enter_same c raw).1
  ·rfl
 ·rfl
theorem recv_ck (c:Cl) (server:Int) (p:Np) (iv:Iv) (has:Bool) (raw:Int):(clRecv c server p iv has raw).2.ck=c.ck:=by
 unfold clRecv;split
 ·split
  ·exact (enter_same c raw).1
  ·rfl
 ·rfl
def MkOk (m:Mrk) (c:Cl) (ρ:Int):Prop:=m.stp<=c.ck.steps/\(m.stp=c.ck.steps->∀ r,ρ<=r->(cNow c.ck r).2=0->m.clk<=(cNow c.ck r).1)
theorem MkOk.ck {m:Mrk} {c c':Cl} {ρ:Int} (h:MkOk m c ρ) (e:c'.ck=c.ck):MkOk m c' ρ:=by unfold MkOk at *;rw[e];exact h
theorem MkOk.up {m:Mrk} {c:Cl} {ρ ρ':Int} (h:MkOk m c ρ) (hr:ρ<=ρ'):MkOk m c ρ':=⟨h.1,fun e r hq=>h.2 e r (Int.le_trans hr hq)⟩
theorem MkOk.upd {m:Mrk} {c c':Cl} {ρ er:Int} {a:Ac} (h:MkOk m c ρ) (hc:ClU c) (hu:UpdX c ρ a er c'):MkOk m c' ρ:=by
 by_cases hn:(clNow c ρ).2=0
 ·obtain⟨k1,k2⟩:=hc.upd hu.R
  have k2:=k2 hn;split at k2
  ·refine⟨by have:=h.1;omega,fun e=>?_⟩
   have:=h.1;omega
  ·obtain⟨q1,q2⟩:=k2
   refine⟨by rw[q2];exact h.1,fun e r hr hz=>?_⟩;have hn':(clNow c' ρ).2=0:=by rw[q1];exact hn
   obtain⟨p1,-,p3⟩:=clNow_c hn;obtain⟨p1',-,p3'⟩:=clNow_c hn';have h1:=h.2 (by rw[e,q2]) ρ (Int.le_refl _) p1;have h2:=cNow_up k1.ok.ck hr p1' hz;rw[<-p3',q1,p3] at h2;omega
 ·rcases hu with ⟨_,_,_,rfl⟩|⟨h0,_⟩
  ·exact h.ck (enter_same c ρ).1
  ·exact absurd (enter_now h0) hn
def MkR (a b:Mrk):Prop:=a.nd=b.nd->a.at_<=b.at_/\a.raw<=b.raw/\a.stp<=b.stp/\(a.stp=b.stp->a.clk<=b.clk)
structure RisI (s:Scn) (st:Sim):Prop where
 tm:0<=st.tm/\st.tm<=1125899906842624
 pr:st.mks.Pairwise MkR
 mm:∀ m∈st.mks,(∃ i:Nat,m.nd=i/\i<s.nd.length)/\0<=m.at_/\m.at_<=st.tm/\m.raw=rawF s m.nd m.at_/\∀ c,clOf st m.nd=some c->MkOk m c (rawF s m.nd st.tm)
theorem RisI.eq {s:Scn} {st st':Sim} (h:RisI s st) (e1:st'.mks=st.mks) (e2:st'.cl=st.cl) (e3:st'.tm=st.tm):RisI s st':=by
 refine⟨by rw[e3];exact h.tm,by rw[e1];exact h.pr,fun m hm=>?_⟩;rw[e1] at hm;obtain⟨q1,q2,q3,q4,q5⟩:=h.mm m hm;exact⟨q1,q2,by rw[e3];exact q3,q4,fun c hc=>by rw[e3];exact q5 c (by unfold clOf at hc ⊢;rw[e2] at hc;exact hc)⟩
theorem raw_up {s:Scn} (hp:ScP s) {i:Nat} (hi:i<s.nd.length) {a b:Int} (h0:0<=a) (hab:a<=b) (h1:b<=1125899906842624):rawF s i a<=rawF s i b:=by
 unfold rawF;exact (osc_up (hp.osc i hi) h0 hab h1).1
theorem RisI.time {s:Scn} (hp:ScP s) {st:Sim} (h:RisI s st) {r:List Ev} {t:Int} (ht:st.tm<=t) (h1:t<=1125899906842624):RisI s { st with q:=r,tm:=t }:=by
 refine⟨⟨by have:=h.tm;dsimp only;omega,h1⟩,h.pr,fun m hm=>?_⟩;obtain⟨⟨i,q1,q1'⟩,q2,q3,q4,q5⟩:=h.mm m hm;refine⟨⟨i,q1,q1'⟩,q2,Int.le_trans q3 ht,q4,fun c hc=>(q5 c hc).up ?_⟩;rw[q1];exact raw_up hp q1' h.tm.1 ht h1
theorem clOf_set {st:Sim} {i j:Nat} {c d:Cl} (h:clOf (setCl st i c) j=some d):(i=j/\d=c)∨(i≠j/\clOf st j=some d):=by
 have h:=clOf_some.1 h;rw[setCl_nat] at h;dsimp only at h;rw[List.getElem?_set] at h;by_cases hij:i=j
 ·rw[if_pos hij] at h
  split at h
  ·exact .inl ⟨hij,by cases h;rfl⟩
  ·cases h
 ·rw[if_neg hij] at h
  exact .inr ⟨hij,clOf_some.2 h⟩
theorem RisI.set {s:Scn} {st:Sim} (h:RisI s st) {i:Nat} {c c':Cl} (hc:clOf st i=some c) (hk:∀ m,MkOk m c (rawF s i st.tm)->MkOk m c' (rawF s i st.tm)):RisI s (setCl st i c'):=by
 refine⟨h.tm,h.pr,fun m hm=>?_⟩;obtain⟨⟨j,q1,q1'⟩,q2,q3,q4,q5⟩:=h.mm m hm;refine⟨⟨j,q1,q1'⟩,q2,q3,q4,fun d hd=>?_⟩;rw[q1] at hd q5 ⊢;rcases clOf_set hd with ⟨rfl,rfl⟩|⟨_,q⟩
 ·exact hk m (q5 c hc)
 ·exact q5 d q
theorem RisI.sch {s:Scn} {st:Sim} (h:RisI s st) (t:Int) (e:EvS):RisI s (schF s st t e):=h.eq (sch_same ..).2.2.1 (sch_same ..).1 (sch_same ..).2.2.2.2
theorem RisI.cnt {s:Scn} {st:Sim} (h:RisI s st):RisI s { st with sent:=st.sent+1 }:=h.eq rfl rfl rfl
theorem RisI.note {s:Scn} {st:Sim} (h:RisI s st) (e:EvS) (t:Int):RisI s (noteF s st e t):=h.eq rfl rfl rfl
theorem RisI.mark {s:Scn} (hp:ScP s) {st:Sim} (h:RisI s st) {i:Nat} (hi:i<s.nd.length) {c:Cl} (hc:clOf st i=some c) (hu:ClU c) {lo hi' kd vl:Int} (hn:(clNow c (rawF s i st.tm)).2=0) :
  RisI s { st with mks:=st.mks ++ [⟨st.tm,i,rawF s i st.tm,(clNow c (rawF s i st.tm)).1,c.ck.steps,lo,hi',kd,vl⟩] }:=by
 obtain⟨p1,-,p3⟩:=clNow_c hn;refine⟨h.tm,List.pairwise_append.2 ⟨h.pr,List.pairwise_singleton _ _,fun a ha b hb=>?_⟩,fun m hm=>?_⟩
 ·obtain rfl:=List.mem_singleton.1 hb
  obtain⟨⟨j,q1,q1'⟩,q2,q3,q4,q5⟩:=h.mm a ha;intro e;dsimp only at e ⊢;have hij:j=i:=by rw[q1] at e;omega
  subst hij;rw[q1] at q4 q5;obtain⟨k1,k2⟩:=q5 c hc;refine⟨q3,?_,k1,fun e=>?_⟩
  ·rw[q4];exact raw_up hp hi q2 q3 h.tm.2
  ·rw[p3];exact k2 e _ (Int.le_refl _) p1
 ·rcases List.mem_append.1 hm with hm|hm
  ·exact h.mm m hm
  ·obtain rfl:=List.mem_singleton.1 hm
   refine⟨⟨i,rfl,hi⟩,h.tm.1,Int.le_refl _,rfl,fun d hd=>?_⟩
   have:d=c:=by
    have h1:clOf st i=some d:=hd;rw[hc] at h1
    cases h1;rfl
   subst this;refine⟨Int.le_refl _,fun _ r hr hz=>?_⟩;dsimp only;rw[p3];exact cNow_up hu.ok.ck hr p1 hz
theorem StpR.ris {R:List (Int × Int)} {s:Scn} (hp:ScP s) {st st':Sim} (h:SimI s st) (hr:RisI s st) (hs:StpR R s st st'):RisI s st':=by
 obtain⟨x,r,hq,hx⟩:=hs;have hxm:=h.q x (by rw[hq];exact List.mem_cons_self ..);obtain⟨k,-,he,-,h0,h1,-⟩:=h.pop hq;have hun:=hp.un;have k0:=hr.time hp (r:=r) (t:=x.t) hxm.2.2.2.1 (by omega);unfold evD at he;revert hx
 generalize st.ev.getD x.x.toNat (.poll ⟨0,0,0,0⟩)=e at *;have htr:=arv_ev he;obtain⟨⟨i,j,hi0,hj0,hi,hj,hcl⟩,-⟩:=htr;have htm:({ st with q:=r,tm:=x.t }:Sim).tm=x.t:=rfl;generalize ({ st with q:=r,tm:=x.t }:Sim)=st0 at *
 cases e with
 | poll p =>
  rintro rfl;have hi0:p.c=i:=hi0;unfold pollF;rw[hi0];have s1:=k0.sch (x.t+16000000000) (.poll ⟨i,p.i,p.s,0⟩);generalize schF s st0 (x.t+16000000000) (.poll ⟨i,p.i,p.s,0⟩)=st1 at *;dsimp only;split
  ·exact s1
  ·rename_i c hc
   have s2:=s1.set hc (c':=(clSend c p.i (rawF s i x.t) (max (mixF R s.sd st1.sent) 1)).2) (fun m hm=>hm.ck (send_ck ..));split
   ·refine RisI.note ?_ _ _
    split
    ·exact s2.cnt
    ·exact s2.cnt.sch _ _
   ·exact s2
 | req p q =>
  rintro rfl;unfold reqF;refine RisI.note ?_ _ _;split
  ·split
   ·exact k0
   ·exact k0.sch _ _
  ·exact k0
 | dep p q v =>
  rintro rfl;unfold depF;refine RisI.note ?_ _ _;split
  ·exact k0
  ·exact k0.sch _ _
 | rep p q v =>
  intro hrp;have hi0:p.c=i:=hi0;unfold RepR at hrp;dsimp only at hrp;rw[hi0] at hrp;split at hrp
  ·exact hrp.elim
  ·rename_i c hc
   obtain⟨a,er,c2,hu,rfl⟩:=hrp;have hv:=(k.of hc).u;have hv1:=hv.recv p.i he.2 v true (rawF s i x.t)
   have s1:=k0.set hc (c':=c2) (fun m hm=>by
    rw[htm] at hm ⊢;exact (hm.ck (recv_ck ..)).upd hv1 hu)
   have hc2:clOf (setCl st0 i c2) i=some c2:=by
    refine clOf_some.2 ?_;rw[setCl_nat];dsimp only;rw[List.getElem?_set_self (List.getElem?_eq_some_iff.1 (clOf_some.1 hc)).1]
   refine RisI.note ?_ _ _;split
   ·rename_i hn
    have htm2:(setCl st0 i c2).tm=x.t:=htm;have:=s1.mark hp hi hc2 (hv1.upd hu.R).1 (lo:=(itvC c2 (rawF s i x.t)).1.lo) (hi':=(itvC c2 (rawF s i x.t)).1.hi) (kd:=(clRecv c p.i q v true (rawF s i x.t)).1.1.kind) (vl:=a.kind) (by rw[htm2];exact hn);rw[htm2] at this;exact this.eq rfl rfl htm2
   ·exact s1
theorem RunR.ris {R:List (Int × Int)} {s:Scn} (hp:ScP s) {a b:Sim} (h:RunR R s a b) (hI:SimI s a) (hF:ClF s a) (ht:tot s a<=900000000) (hr:RisI s a):RisI s b:=by
 induction h with
 | done _=>exact hr
 | step h _ ih =>
  have hl:=hp.nl;obtain⟨k1,k2,k3⟩:=h.inv hI hF (by omega) (by omega);exact ih k1 k2 (by omega) (h.ris hp hI hr)
theorem svK_mk (s:Scn) (i:Nat) (n:Nd) (st:Sim):∀ k,(svK s i n st k).mks=st.mks/\(svK s i n st k).tm=st.tm
 | 0=>⟨rfl,rfl⟩
 |k+1=>by
  have:=svK_mk s i n st k;unfold svK;exact⟨(sch_same ..).2.2.1.trans this.1,(sch_same ..).2.2.2.2.trans this.2⟩
theorem ndK_mk (s:Scn) (c:Cf):∀ i,(ndK s c i).mks=[]/\(ndK s c i).tm=0
 | 0=>⟨rfl,rfl⟩
 |i+1=>by
  have:=ndK_mk s c i;unfold ndK ndS;split
  ·have q:=svK_mk s i (nodeF s i) (setCl (ndK s c i) i (cl0 (cfN c (nodeF s i)) (rawF s i 0) (rawF s i 0))) (nodeF s i).sv.length
   exact⟨q.1.trans this.1,q.2.trans this.2⟩
  ·exact this
theorem new_ris (s:Scn) (c:Cf):RisI s (newF s c):=by
 have:=ndK_mk s c s.nd.length;refine⟨?_,?_,fun m hm=>?_⟩
 ·unfold newF;rw[this.2];exact⟨Int.le_refl _,by decide⟩
 ·unfold newF;rw[this.1];exact List.Pairwise.nil
 ·unfold newF at hm;rw[this.1] at hm;cases hm
theorem run_ris {R:List (Int × Int)} {s:Scn} (hp:ScP s) {c:Cf} (hc:ccheck (cf1 c)=0) {st:Sim} (h:RunR R s (newF s c) st):RisI s st:=by
 obtain⟨k1,k2,k3⟩:=new_inv hp hc;exact h.ris hp k1 k2 k3 (new_ris s c)
end
end Go.Proofs.YtppjhbjmfkiejaaGreat
