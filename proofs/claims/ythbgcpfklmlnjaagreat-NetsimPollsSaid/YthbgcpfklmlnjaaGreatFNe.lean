/- server.Reply and what it calls. Conditions: those named in each theorem. -/
import Derived.Test.YthbgcpfklmlnjaaGreatFF1
import Derived.Laws.EntriesVeiled
namespace Go.Proofs.YthbgcpfklmlnjaaGreat
open Go.Lib (hid)
set_option maxRecDepth 100000
set_option maxHeartbeats 4000000
open Go.RowKit Go.Sort
def VU (p:Np):Int:=if qM p=0 then (if p.mode=3 then 0 else 8) else 2
def RS (p:Np) (r:FB):Int:=if kX r=0 then VU p else 2
def xY (p:Np) (t:Int) (r:FB):Np × Int:=
 if RS p r=0 then (if (qP r).2.2=0 then (⟨if r.str=16 then 3 else 0,p.ver,4,if r.str=16 then 0 else r.str,p.poll,-20,(qP r).1,(qP r).2.1,r.ref,0,p.xmt,t,t⟩,0) else (yC,(qP r).2.2)) else (yC,RS p r)
theorem pHValid (p:Np) (w:World) :
  Calls Tryz.prog 174 #[iL p] w fun e w'=>e=.returned (.bool (decide (qM p=0)))/\Only [] w w':=by
 have HC:=hid (fun w'=>XC p w');generalize qM p=e at HC |-;obtain⟨q1,q2,q3,q4,q5,q6,q7,q8,q9,qa,qb,qc,qd⟩:=p;unfold iL at HC |-;dsimp only at HC |-;have h:(e == 0)=decide (e=0):=by rw[Bool.eq_iff_iff];simp
 have m:=dD w [];have k:=m.out.k;go_enter Tryz.func174,Tryz.ntmps174
 go_wp2_with (first|((with_reducible first|refine cM (HC.out _) ?_|refine wU ?_);clear k m;intro w m k)|((with_reducible refine lE (fun w o g k K hK=>⟨rfl,?_⟩));simp[results,Tryz.results174,go_sem];refine hK _ ?_;exact⟨rfl,o⟩))
theorem pHAsks (p:Np) (w:World) :
  Calls Tryz.prog 175 #[iL p] w fun e w'=>e=.returned (.bool (decide (p.mode=3)))/\Only [] w w':=by
 obtain⟨q1,q2,q3,q4,q5,q6,q7,q8,q9,qa,qb,qc,qd⟩:=p;unfold iL;dsimp only;have h:(q3 == 3)=decide (q3=3):=by rw[Bool.eq_iff_iff];simp
 have m:=dD w [];have k:=m.out.k;go_enter Tryz.func175,Tryz.ntmps175
 go_wp2_with (first|((with_reducible refine wU ?_);clear k m;intro w m k)|((with_reducible refine lE (fun w o g k K hK=>⟨rfl,?_⟩));simp[results,Tryz.results175,go_sem];refine hK _ ?_;exact⟨rfl,o⟩))
theorem pReqChk (p:Np) (w:World) :
  Calls Tryz.prog 161 #[iL p] w fun e w'=>e=.returned (.int .i64 (VU p))/\Only [] w w':=by
 have H1:=hid (fun w'=>pHValid p w');have H2:=hid (fun w'=>pHAsks p w');obtain⟨res,HE⟩:∃ zz,Hid (VU p=zz):=⟨_,hid rfl⟩;rw[HE.out];unfold VU at HE;generalize qM p=e at H1 HE;obtain⟨q1,q2,q3,q4,q5,q6,q7,q8,q9,qa,qb,qc,qd⟩:=p;unfold iL at H1 H2 |-;dsimp only at H1 H2 HE |-;by_cases h:e=0
 ·rw[if_pos h] at HE
  rw[dF h] at H1;clear h;by_cases h2:q3=3
  focus
   rw[if_pos h2] at HE;rw[dF h2] at H2;obtain rfl:=HE.out;subst h2
  rotate_left
  focus
   rw[if_neg h2] at HE;rw[bR h2] at H2;obtain rfl:=HE.out;clear h2
  rotate_left
  all_goals
   have m:=dD w [];have k:=m.out.k;go_enter Tryz.func161,Tryz.ntmps161
   go_wp2_with fail
   refine wp_loop_rounds 3 ?_;repeat (rw[rounds_succ];go_wp2_with (first|((with_reducible first|refine cM (H1.out _) ?_|refine cM (H2.out _) ?_|refine cU ?_|refine wU ?_);clear k m;intro w m k)|((with_reducible refine lE (fun w o g k K hK=>⟨rfl,?_⟩));simp[results,Tryz.results161,go_sem];refine hK _ ?_;exact⟨rfl,o⟩)))
 ·rw[if_neg h] at HE
  rw[bR h] at H1;obtain rfl:=HE.out;clear h;have m:=dD w [];have k:=m.out.k;go_enter Tryz.func161,Tryz.ntmps161
  go_wp2_with fail
  refine wp_loop_rounds 3 ?_;repeat (rw[rounds_succ];go_wp2_with (first|((with_reducible first|refine cM (H1.out _) ?_|refine cU ?_|refine wU ?_);clear k m;intro w m k)|((with_reducible refine lE (fun w o g k K hK=>⟨rfl,?_⟩));simp[results,Tryz.results161,go_sem];refine hK _ ?_;exact⟨rfl,o⟩)))
theorem pRplChk (p:Np) (r:FB) (w:World) :
  Calls Tryz.prog 145 #[iL p,IU r,.int .i64 0,.int .i64 (-20)] w fun e w'=>e=.returned (.int .i64 (RS p r))/\Only [] w w':=by
 have H1:=hid (fun w'=>WZ r w');have H2:=hid (fun w'=>pReqChk p w');obtain⟨res,HE⟩:∃ zz,Hid (RS p r=zz):=⟨_,hid rfl⟩;rw[HE.out];unfold RS at HE;generalize VU p=g at H2 HE;generalize kX r=e at H1 HE;obtain⟨q1,q2,q3,q4,q5,q6,q7,q8,q9,qa,qb,qc,qd⟩:=p;obtain⟨r1,r2,r3,r4⟩:=r;unfold iL at H2 |-;unfold IU at H1 |-;dsimp only at H1 H2 |-;by_cases h:e=0
 ·subst h
  rw[if_pos rfl] at HE;obtain rfl:=HE.out;have m:=dD w [];have k:=m.out.k;go_enter Tryz.func145,Tryz.ntmps145
  go_wp2_with (first|((with_reducible first|refine cM (H1.out _) ?_|refine cM (H2.out _) ?_|refine wU ?_);clear k m;intro w m k)|((with_reducible refine lE (fun w o g k K hK=>⟨rfl,?_⟩));simp[results,Tryz.results145,go_sem];refine hK _ ?_;exact⟨rfl,o⟩))
 ·rw[if_neg h] at HE
  obtain rfl:=HE.out;have k0:(e != 0)=true:=by simpa using h
  have m:=dD w [];have k:=m.out.k;go_enter Tryz.func145,Tryz.ntmps145
  go_wp2_with (first|((with_reducible first|refine cM (H1.out _) ?_|refine wU ?_);clear k m;intro w m k)|((with_reducible refine lE (fun w o g k K hK=>⟨rfl,?_⟩));simp[results,Tryz.results145,go_sem];refine hK _ ?_;exact⟨rfl,o⟩))
theorem WY (p:Np) (t:Int) (r:FB) (w:World) :
  Calls Tryz.prog 139 #[iL p,.int .u64 t,.int .u64 t,.int .u64 0,IU r,.int .i64 0,.int .i64 (-20)] w fun e w'=>e=.returned (.tuple #[iL (xY p t r).1,.int .i64 (xY p t r).2])/\Only [] w w':=by
 have H1:=hid (fun w'=>pRplChk p r w');have H2:=hid (fun w'=>pFields r w');obtain⟨res,HE⟩:∃ zz,Hid (xY p t r=zz):=⟨_,hid rfl⟩;rw[HE.out];unfold xY at HE;generalize RS p r=e at H1 HE;generalize qP r=f at H2 HE;obtain⟨f1,f2,f3⟩:=f;obtain⟨q1,q2,q3,q4,q5,q6,q7,q8,q9,qa,qb,qc,qd⟩:=p;obtain⟨r1,r2,r3,r4⟩:=r;unfold iL at H1 |-;unfold IU at H1 H2 |-;dsimp only at H1 H2 HE |-;by_cases h:e=0
 ·subst h
  rw[if_pos rfl] at HE;by_cases h2:f3=0
  focus
   subst h2;rw[if_pos rfl] at HE;by_cases h3:r1=16
   focus
    subst h3;rw[if_pos rfl,if_pos rfl] at HE;obtain rfl:=HE.out
   rotate_left
   focus
    rw[if_neg h3,if_neg h3] at HE;obtain rfl:=HE.out;have k3:(r1 == 16)=false:=by simpa using h3
   rotate_left
  rotate_left 2
  focus
   rw[if_neg h2] at HE;obtain rfl:=HE.out;unfold yC;have k2:(f3 != 0)=true:=by simpa using h2
  rotate_left
  all_goals
   have m:=dD w [];have k:=m.out.k;go_enter Tryz.func139,Tryz.ntmps139
   go_wp2_with (first|((with_reducible first|refine cM (H1.out _) ?_|refine cM (H2.out _) ?_|refine wU ?_);clear k m;intro w m k)|((with_reducible refine lE (fun w o g k K hK=>⟨rfl,?_⟩));simp[results,Tryz.results139,go_sem,k];refine hK _ ?_;exact⟨rfl,o⟩))
 ·rw[if_neg h] at HE
  obtain rfl:=HE.out;unfold yC;have k1:(e != 0)=true:=by simpa using h
  have m:=dD w [];have k:=m.out.k;go_enter Tryz.func139,Tryz.ntmps139
  go_wp2_with (first|((with_reducible first|refine cM (H1.out _) ?_|refine wU ?_);clear k m;intro w m k)|((with_reducible refine lE (fun w o g k K hK=>⟨rfl,?_⟩));simp[results,Tryz.results139,go_sem,k];refine hK _ ?_;exact⟨rfl,o⟩))
end Go.Proofs.YthbgcpfklmlnjaaGreat
