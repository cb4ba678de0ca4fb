/- server.Reply and what it calls. Conditions: those named in each theorem. -/
import Derived.Test.YtppjhbjmfkiejaaGreatFF1
import Derived.Laws.EntriesVeiled
namespace Go.Proofs.YtppjhbjmfkiejaaGreat
open Go.Lib (hid)
set_option maxRecDepth 100000
set_option maxHeartbeats 4000000
open Go.RowKit Go.Sort
def WZ (p:Np):Int:=if qK p=0 then (if p.mode=3 then 0 else 8) else 2
def SQ (p:Np) (r:FJ):Int:=if kU r=0 then WZ p else 2
def yB (p:Np) (t:Int) (r:FJ):Np × Int:=
 if SQ p r=0 then (if (qN r).2.2=0 then (⟨if r.str=16 then 3 else 0,p.ver,4,if r.str=16 then 0 else r.str,p.poll,-20,(qN r).1,(qN r).2.1,r.ref,0,p.xmt,t,t⟩,0) else (yG,(qN r).2.2)) else (yG,SQ p r)
theorem pHValid (p:Np) (w:World) :
  Calls Tryz.prog 211 #[iM p] w fun e w'=>e=.returned (.bool (decide (qK p=0)))/\Only [] w w':=by
 have HC:=hid (fun w'=>YA p w');generalize qK p=e at HC |-;obtain⟨q1,q2,q3,q4,q5,q6,q7,q8,q9,qa,qb,qc,qd⟩:=p;unfold iM at HC |-;dsimp only at HC |-;have h:(e == 0)=decide (e=0):=by rw[Bool.eq_iff_iff];simp
 have m:=bJ w [];have k:=m.out.k;go_enter Tryz.func211,Tryz.ntmps211
 go_wp2_with (first|((with_reducible first|refine cM (HC.out _) ?_|refine wU ?_);clear k m;intro w m k)|((with_reducible refine lE (fun w o g k K hK=>⟨rfl,?_⟩));simp[results,Tryz.results211,go_sem];refine hK _ ?_;exact⟨rfl,o⟩))
theorem pHAsks (p:Np) (w:World) :
  Calls Tryz.prog 212 #[iM p] w fun e w'=>e=.returned (.bool (decide (p.mode=3)))/\Only [] w w':=by
 obtain⟨q1,q2,q3,q4,q5,q6,q7,q8,q9,qa,qb,qc,qd⟩:=p;unfold iM;dsimp only;have h:(q3 == 3)=decide (q3=3):=by rw[Bool.eq_iff_iff];simp
 have m:=bJ w [];have k:=m.out.k;go_enter Tryz.func212,Tryz.ntmps212
 go_wp2_with (first|((with_reducible refine wU ?_);clear k m;intro w m k)|((with_reducible refine lE (fun w o g k K hK=>⟨rfl,?_⟩));simp[results,Tryz.results212,go_sem];refine hK _ ?_;exact⟨rfl,o⟩))
theorem pReqChk (p:Np) (w:World) :
  Calls Tryz.prog 201 #[iM p] w fun e w'=>e=.returned (.int .i64 (WZ p))/\Only [] w w':=by
 have H1:=hid (fun w'=>pHValid p w');have H2:=hid (fun w'=>pHAsks p w');obtain⟨res,HE⟩:∃ zz,Hid (WZ p=zz):=⟨_,hid rfl⟩;rw[HE.out];unfold WZ at HE;generalize qK p=e at H1 HE;obtain⟨q1,q2,q3,q4,q5,q6,q7,q8,q9,qa,qb,qc,qd⟩:=p;unfold iM at H1 H2 |-;dsimp only at H1 H2 HE |-;by_cases h:e=0
 ·rw[if_pos h] at HE
  rw[dW h] at H1;clear h;by_cases h2:q3=3
  focus
   rw[if_pos h2] at HE;rw[dW h2] at H2;obtain rfl:=HE.out;subst h2
  rotate_left
  focus
   rw[if_neg h2] at HE;rw[dD h2] at H2;obtain rfl:=HE.out;clear h2
  rotate_left
  all_goals
   have m:=bJ w [];have k:=m.out.k;go_enter Tryz.func201,Tryz.ntmps201
   go_wp2_with fail
   refine wp_loop_rounds 3 ?_;repeat (rw[rounds_succ];go_wp2_with (first|((with_reducible first|refine cM (H1.out _) ?_|refine cM (H2.out _) ?_|refine cU ?_|refine wU ?_);clear k m;intro w m k)|((with_reducible refine lE (fun w o g k K hK=>⟨rfl,?_⟩));simp[results,Tryz.results201,go_sem];refine hK _ ?_;exact⟨rfl,o⟩)))
 ·rw[if_neg h] at HE
  rw[dD h] at H1;obtain rfl:=HE.out;clear h;have m:=bJ w [];have k:=m.out.k;go_enter Tryz.func201,Tryz.ntmps201
  go_wp2_with fail
  refine wp_loop_rounds 3 ?_;repeat (rw[rounds_succ];go_wp2_with (first|((with_reducible first|refine cM (H1.out _) ?_|refine cU ?_|refine wU ?_);clear k m;intro w m k)|((with_reducible refine lE (fun w o g k K hK=>⟨rfl,?_⟩));simp[results,Tryz.results201,go_sem];refine hK _ ?_;exact⟨rfl,o⟩)))
theorem pRplChk (p:Np) (r:FJ) (w:World) :
  Calls Tryz.prog 185 #[iM p,I7 r,.int .i64 0,.int .i64 (-20)] w fun e w'=>e=.returned (.int .i64 (SQ p r))/\Only [] w w':=by
 have H1:=hid (fun w'=>X6 r w');have H2:=hid (fun w'=>pReqChk p w');obtain⟨res,HE⟩:∃ zz,Hid (SQ p r=zz):=⟨_,hid rfl⟩;rw[HE.out];unfold SQ at HE;generalize WZ p=g at H2 HE;generalize kU r=e at H1 HE;obtain⟨q1,q2,q3,q4,q5,q6,q7,q8,q9,qa,qb,qc,qd⟩:=p;obtain⟨r1,r2,r3,r4⟩:=r;unfold iM at H2 |-;unfold I7 at H1 |-;dsimp only at H1 H2 |-;by_cases h:e=0
 ·subst h
  rw[if_pos rfl] at HE;obtain rfl:=HE.out;have m:=bJ w [];have k:=m.out.k;go_enter Tryz.func185,Tryz.ntmps185
  go_wp2_with (first|((with_reducible first|refine cM (H1.out _) ?_|refine cM (H2.out _) ?_|refine wU ?_);clear k m;intro w m k)|((with_reducible refine lE (fun w o g k K hK=>⟨rfl,?_⟩));simp[results,Tryz.results185,go_sem];refine hK _ ?_;exact⟨rfl,o⟩))
 ·rw[if_neg h] at HE
  obtain rfl:=HE.out;have k0:(e != 0)=true:=by simpa using h
  have m:=bJ w [];have k:=m.out.k;go_enter Tryz.func185,Tryz.ntmps185
  go_wp2_with (first|((with_reducible first|refine cM (H1.out _) ?_|refine wU ?_);clear k m;intro w m k)|((with_reducible refine lE (fun w o g k K hK=>⟨rfl,?_⟩));simp[results,Tryz.results185,go_sem];refine hK _ ?_;exact⟨rfl,o⟩))
theorem X5 (p:Np) (t:Int) (r:FJ) (w:World) :
  Calls Tryz.prog 179 #[iM p,.int .u64 t,.int .u64 t,.int .u64 0,I7 r,.int .i64 0,.int .i64 (-20)] w fun e w'=>e=.returned (.tuple #[iM (yB p t r).1,.int .i64 (yB p t r).2])/\Only [] w w':=by
 have H1:=hid (fun w'=>pRplChk p r w');have H2:=hid (fun w'=>pFields r w');obtain⟨res,HE⟩:∃ zz,Hid (yB p t r=zz):=⟨_,hid rfl⟩;rw[HE.out];unfold yB at HE;generalize SQ p r=e at H1 HE;generalize qN r=f at H2 HE;obtain⟨f1,f2,f3⟩:=f;obtain⟨q1,q2,q3,q4,q5,q6,q7,q8,q9,qa,qb,qc,qd⟩:=p;obtain⟨r1,r2,r3,r4⟩:=r;unfold iM at H1 |-;unfold I7 at H1 H2 |-;dsimp only at H1 H2 HE |-;by_cases h:e=0
 ·subst h
  rw[if_pos rfl] at HE;by_cases h2:f3=0
  focus
   subst h2;rw[if_pos rfl] at HE;by_cases h3:r1=16
   focus
    subst h3;rw[if_pos rfl,if_pos rfl] at HE;obtain rfl:=HE.out
   rotate_left
   focus
    rw[if_neg h3,if_neg h3] at HE;obtain rfl:=HE.out;have k3:(r1 == 16)=false:=by simpa using h3
   rotate_left
  rotate_left 2
  focus
   rw[if_neg h2] at HE;obtain rfl:=HE.out;unfold yG;have k2:(f3 != 0)=true:=by simpa using h2
  rotate_left
  all_goals
   have m:=bJ w [];have k:=m.out.k;go_enter Tryz.func179,Tryz.ntmps179
   go_wp2_with (first|((with_reducible first|refine cM (H1.out _) ?_|refine cM (H2.out _) ?_|refine wU ?_);clear k m;intro w m k)|((with_reducible refine lE (fun w o g k K hK=>⟨rfl,?_⟩));simp[results,Tryz.results179,go_sem,k];refine hK _ ?_;exact⟨rfl,o⟩))
 ·rw[if_neg h] at HE
  obtain rfl:=HE.out;unfold yG;have k1:(e != 0)=true:=by simpa using h
  have m:=bJ w [];have k:=m.out.k;go_enter Tryz.func179,Tryz.ntmps179
  go_wp2_with (first|((with_reducible first|refine cM (H1.out _) ?_|refine wU ?_);clear k m;intro w m k)|((with_reducible refine lE (fun w o g k K hK=>⟨rfl,?_⟩));simp[results,Tryz.results179,go_sem,k];refine hK _ ?_;exact⟨rfl,o⟩))
end Go.Proofs.YtppjhbjmfkiejaaGreat
