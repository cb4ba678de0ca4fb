/- audit.Marks of the example. Conditions: those named in each theorem. -/
import Derived.Test.YtppjhbjmfkiejaaGreatFIg
namespace Go.Proofs.YtppjhbjmfkiejaaGreat
set_option linter.all false
open Go.Lib (hid)
set_option maxRecDepth 100000
set_option maxHeartbeats 8000000
open Go.RowKit Go.Sort
structure Fnd where
 k:Int
 n:Int
 i:Int
def fdC (x:Fnd):List Value:=[.int .i64 x.k,.int .i64 x.n,.int .i64 x.i]
theorem vI (x:Fnd):(fdC x).length=3:=rfl
theorem RA (x:Fnd):∀ u∈fdC x,u.oneCell'=true:=by simp[fdC,Value.oneCell']
def UJ:lI:=⟨3101,1,2000,2500,0,900,3100,0,0⟩
theorem UH:pX eO [UJ]=true:=by kernel_rfl
theorem pChecks (w:World) :
  Calls Tryz.prog 31 #[] w fun e w'=>(∃ b,e=.returned (.slice (some ⟨b,0,none⟩) 3 3)/\w.heap.size<=b/\w'.heap[b]? = some (.cells [.int .i64 1,.func (.func 53) #[] #[],.int .i64 2,.func (.func 54) #[] #[],.int .i64 3,.func (.func 55) #[] #[]].toArray 112 (0,0)))/\Only [] w w':=by
 have m:=bJ w [];have k:=m.out.k;go_enter Tryz.func31,Tryz.ntmps31
 go_wp2_with (first|((with_reducible first|refine cU ?_|refine wU ?_);clear k m;intro w m k)|((with_reducible refine lE (fun w o g k K hK=>⟨rfl,?_⟩));simp[results,Tryz.results31,go_sem];refine hK _ ?_;exact⟨⟨_,rfl,by omega,Has.h w g⟩,o⟩))
theorem YD {w:World} (s:dU) (hs:s.Ok w) (hsc:s.sc=eO) {R:List (Int × Int)} (hR:sD w R) {p:Option Addr} {cp:Nat} (ha:aR rQ 9 w p 1 cp [UJ]) :
  Calls Tryz.prog 17 #[fG s,NR xM,.slice p 1 cp] w fun e w'=>(∃ v B,e=.returned (.tuple #[v,.int .i64 0])/\Own fdC 99 3 B w' v [⟨1,1,0⟩,⟨5,1,0⟩])/\Only [] w w':=by
 have HRUN:=hid (fun w' (o:Only [] w w')=>pNRun s xM (hs.kept o) (hR.kept o));have HVL:=hid (fun w' (o:Only [] w w')=>QD s (hs.kept o).nd (show aR rQ 9 w' p [UJ].length cp [UJ] from ha.kept o));rw[hsc,UH] at HVL;dsimp only[List.length_cons,List.length_nil] at HVL;have HUM:=hid (fun w' (o:Only [] w w')=>TG s (hs.kept o) hsc);have HSC:=hid hsc;have HA:=hid (show aR rQ 9 w p [UJ].length cp [UJ] from ha);obtain⟨bk,off,rfl,-⟩:=HA.out.I8 (k:=0) (Only.refl [] w) (by simp)
 have HX:=hid (show ∀ w',Only [] w w'->bk<w'.heap.size/\w'.cell? ⟨bk,off,none⟩=some (.int .i64 3101)/\w'.cell? ⟨bk,off+1,none⟩=some (.int .i64 1)/\w'.cell? ⟨bk,off+2,none⟩=some (.int .i64 2000)/\w'.cell? ⟨bk,off+3,none⟩=some (.int .i64 2500)/\w'.cell? ⟨bk,off+4,none⟩=some (.int .i64 0)/\w'.cell? ⟨bk,off+5,none⟩=some (.int .i64 900)/\w'.cell? ⟨bk,off+6,none⟩=some (.int .i64 3100)/\w'.cell? ⟨bk,off+7,none⟩=some (.int .i64 0)/\w'.cell? ⟨bk,off+8,none⟩=some (.int .i64 0) from fun w' o=>by
  obtain⟨b1,o1,e1,z1⟩:=HA.out.I8 (k:=0) o (by simp)
  cases e1
  rw[Nat.zero_mul,Nat.add_zero] at z1;exact z1)
 obtain⟨y0,y1,hnd,-,-,e1⟩:=P8 hsc;have hlen:s.nd.length=2:=by rw[hnd];rfl
 have HN:=hid hs.nd;obtain⟨bn,on,hpn,-⟩:=HN.out.nd (k:=1) (Only.refl [] w) (by rw[hnd];simp)
 have HXN:=hid (show ∀ w',Only [] w w'->bn<w'.heap.size/\w'.cell? ⟨bn,on+9,none⟩=some (.int .i64 0) from fun w' o=>by
  obtain⟨b',o',e,q1,q2,q3,q4,-⟩:=HN.out.nd (k:=1) o (by rw[hnd];simp);rw[hpn] at e
  cases e
  rw[hnd,show [y0,y1].getD 1 bC=y1 from rfl,e1] at q4;exact⟨q1,q4⟩)
 clear hs hsc hR ha;unfold fG NR xM at *;rw[hlen,hpn] at HRUN HVL HUM |-;clear hlen hpn HN hnd e1;dsimp only at HRUN HVL HUM |-;obtain⟨wo,hwo⟩:∃ wo:World,wo=w:=⟨_,rfl⟩;subst hwo;have m:=bJ wo [];have k:=m.out.k;go_enter Tryz.func17,Tryz.ntmps17
 go_wp2_with ((with_reducible first|refine cU ?_|refine wU ?_);clear k m;intro w m k)
 refine (HRUN.out _ gO).mono ?_;rintro r w3 ⟨hr,o3⟩;unfold NRunR at hr;rw[HSC.out] at hr;rcases hr with ⟨hz,-⟩|⟨-,st,v,hrun,rfl,own⟩
 ·exact absurd XO hz
 obtain⟨mk,hmk,e0,-⟩:=aw_run hrun;obtain⟨q,cap,rfl,hv⟩:=own.dI iQ;rw[hmk] at hv |-;have HV:=hid hv;have HNE:=hid (show UJ.at_≠mk.at_ by rw[e0];decide);replace m:Mm wo [] w3 _:=⟨m.out.call o3⟩;have O03:=hid m.out.only;have hq0:=gB (w:=w3) (b:=wo.heap.size);clear k m hrun own hv hmk e0 o3 HRUN;have m:=jZ hq0;have k:=m.out.k;clear hq0;rw[show [mk].length=1 from rfl];go_wp2_with ((with_reducible first|refine cM (HVL.out _ (O03.out.aA gO)) ?_|refine cU ?_|refine wU ?_);clear k m;intro w m k)
 refine (HUM.out _ (O03.out.aA gO)).mono ?_;rintro r w4 ⟨b,rfl,hb,hmp,o4⟩;have HMP:=hid hmp;replace m:Mm w3 [] w4 _:=⟨m.out.call o4⟩;have O34:=hid m.out.only;have OB:=hid (O03.out.aA m.out.only);have hsc:=gB (w:=w4) (b:=wo.heap.size);clear k hmp o4 HUM m;have m:=jZ hsc;have k:=m.out.k;clear hsc;go_wp2_with ((with_reducible first|refine cU ?_|refine wU ?_);clear k m;intro w m k)
 refine VO (G:=fun W=>Oper.upon _ _ _ _ _ ((Sem.run _ _ W).andThen _)) ?_;clear k m;intro w m k;rw[@run_makeMap Tryz.prog];go_upto_region 9 with (fail)
 refine aF (G:=fun w0=>Code.wp _ _ _ _ w0) ?_;intro w5 hb5 ho5 hs5;have O5:=m.out.only.aA ho5
 have HXM:=hid (show ∀ w',Only [] w5 w'->(bk<w'.heap.size/\w'.cell? ⟨bk,off,none⟩=some (.int .i64 3101)/\w'.cell? ⟨bk,off+1,none⟩=some (.int .i64 1)/\w'.cell? ⟨bk,off+2,none⟩=some (.int .i64 2000)/\w'.cell? ⟨bk,off+3,none⟩=some (.int .i64 2500)/\w'.cell? ⟨bk,off+4,none⟩=some (.int .i64 0)/\w'.cell? ⟨bk,off+5,none⟩=some (.int .i64 900)/\w'.cell? ⟨bk,off+6,none⟩=some (.int .i64 3100)/\w'.cell? ⟨bk,off+7,none⟩=some (.int .i64 0)/\w'.cell? ⟨bk,off+8,none⟩=some (.int .i64 0))/\(bn<w'.heap.size/\w'.cell? ⟨bn,on+9,none⟩=some (.int .i64 0))/\w'.heap[b]? = some (.map #[] 0)/\w'.heap[w.heap.size]? = some (.map #[] 0) from fun w' o =>
  ⟨HX.out w' ((OB.out.aA O5).aA o),HXN.out w' ((OB.out.aA O5).aA o),(O5.aA o).got HMP.out (by simp),o.got hb5 (by simp)⟩)
 have hsc5:=ho5.got (gB (w:=w) (b:=wo.heap.size)) (by simp)
 have HLK:=hid (show ∀ w',Only [] w5 w'->(Instr.lookup 102 (.map (some b)) (.int .i64 1) false).run Tryz.prog w'=.ok (.bool false) w' from fun w' o =>
  nZ (kE:=fun n:Int=>Value.int .i64 n) (vE:=Value.bool) (dY Tryz.underlying3) Tryz.underlying102 (Tryz.zeroValue4 w') (nD ((O5.aA o).got HMP.out (by simp))) 1 false)
 have HMB:=hid (Nat.le_trans OB.out.size m.out.only.size);have HMC:=hid (Nat.le_trans O34.out.size m.out.only.size);clear k m ho5 hs5 hb5;generalize w.heap.size=mb at HXM HMB HMC |-;have m:=jZ hsc5;have k:=m.out.k;have c:=HXM.out w5 (Only.refl _ _);clear hsc5;go_wp2_with ((with_reducible first|refine cU ?_|refine wU ?_);clear k m c;intro w m k;have c:=HXM.out w m.out.only)
 refine wp_loop_rounds 2 ?_;rw[rounds_succ];go_wp2_with ((with_reducible first|refine cU ?_|refine wU ?_);clear k m c;intro w m k;have c:=HXM.out w m.out.only)
 have hlk:=fun (a:CZ [] w)=>HLK.out a.val ((m.out.only).aA a.ok);refine rA (id:=12) [0,1,2,3,4,5,6,7,8,9,10,11,12,13] [] 14 [15] (by kernel_rfl) (by kernel_rfl) ?_;simp only[pick,List.map_cons,List.map_nil,List.getD_cons_succ,List.getD_cons_zero]
 (repeat (refine aO (fun K hK=>?_);go_simp;refine hK _ ?_;clear hK K))
 refine aP ?_;refine aJ ?_;clear k m c hlk;intro w o m k;refine aC rfl ?_;go_wp2;simp only[aY];obtain⟨nb,hnb⟩:∃ n,n=w.heap.size:=⟨_,rfl⟩;refine⟨o.alloc _,tW ?_⟩;clear o k m;intro w m k;rw[<-hnb] at m |-;clear hnb k;have k:True:=trivial;unfold aT;refine aC rfl ?_;refine iG (ty:=106) (b:=nb) (cs:=[.int .i64 3101,.int .i64 1,.int .i64 2000,.int .i64 2500,.int .i64 0,.int .i64 900,.int .i64 3100,.int .i64 0,.int .i64 0,.int .i64 0,.int .i64 0,.int .i64 0,.int .i64 0,.int .i64 0,.int .i64 0,.int .i64 0,.int .i64 0,.int .i64 0,.bool false,.bool true,.int .i64 0]) ?_ ?_ ?_ ?_ ?_ ?_
 ·simp[Act.eval]
 ·simp[Act.eval]
 ·kernel_rfl
 ·rfl
 ·rfl
 clear k m;intro w m;go_wp2;simp only[aY];refine tW ?_;clear m;intro w m k;unfold aT;have c:=HXM.out w m.out.only
 have hl2:(Instr.lookup 104 (.map (some mb)) (.int .i64 1) true).run Tryz.prog w=.ok (.tuple #[.agg #[.int .i64 0,.int .i64 0,.int .i64 0,.int .i64 0,.int .i64 0,.int .i64 0,.int .i64 0,.int .i64 0,.int .i64 0],.bool false]) w:=
  nZ (kE:=fun n:Int=>Value.int .i64 n) (vE:=fun x:lI=>Value.agg (rQ x).toArray) (dY Tryz.underlying3) Tryz.underlying104 (Tryz.zeroValue41 w) (nD c.2.2.2) 1 true
 go_upto_region 14 with (fail)
 refine wU ?_;clear k m c hl2;intro w m k;have c:=HXM.out w m.out.only;go_wp2_with ((with_reducible first|refine cU ?_|refine wU ?_);clear k m c;intro w m k;have c:=HXM.out w m.out.only)
 refine (pChecks w).mono ?_;rintro r w6 ⟨⟨cb,rfl,hcb,hck⟩,o6⟩;have hrv:=o6.got (gB (w:=w) (b:=nb)) (by simp);have hcp:=o6.got (gB (w:=w) (b:=w5.heap.size)) (by simp);have hn1:nb≠w5.heap.size:=gN w;have hn2:nb<w.heap.size:=aD gB;have hn3:w5.heap.size<w.heap.size:=aD gB;have O6:=hid (m.out.only.aA o6);clear k m c;have m:Mm w6 [] w6 _:=⟨(((Mem.start w6 []).ext false hck (by simp) (by simp)).ext false hcp (by simp;omega) (by simp)).ext false hrv (by simp;omega) (by simp)⟩;have k:=m.out.k;clear hck hcp hrv hn1 hn2 hn3 hcb;have HLI:=hid (fun w'=>pLies UJ 0 (by decide) w');have HTB:=hid (fun w'=>XU UJ 0 w');have HGR:=hid (fun w'=>YH UJ 0 w');unfold rvV UJ at HLI HTB HGR;dsimp only at HLI HTB HGR;go_wp2_with ((with_reducible first|refine cU ?_|refine wU ?_);clear k m;intro w m k)
 refine wp_loop_rounds 4 ?_;rw[rounds_succ];go_wp2_with (first|((with_reducible refine qU (ty:=106) (b:=nb) ?_ Tryz.underlying106 ?_ ?_ ?_);(. simp[Act.eval]);(. rfl);(. kernel_rfl))|((with_reducible first|refine cM (HLI.out _) ?_|refine cM (HTB.out _) ?_|refine cM (HGR.out _) ?_|refine cU ?_|refine wU ?_);clear k m;intro w m k)|(at_builtin;refine aV ?_))
 refine aF (G:=fun w0=>Stop (wpList _ _ _ _ _ w0)) ?_;intro w7 hb7 ho7 hs7;have B7:=hid hb7;replace m:Mm w6 [] w7 _:=⟨m.out.call ho7⟩;have O7:=m.out.only;clear k hb7 ho7 hs7;refine bD ?_;refine dF (B:=w6.heap.size) rfl _ _ 62 rfl 99 (.agg #[.int .i64 0,.int .i64 0,.int .i64 0]) 3 24 Tryz.underlying62 (by kernel_rfl) rfl (by decide) fdC vI RA [] (.slice none 0 0) rfl (bU _ _) _ ⟨1,1,0⟩ rfl (fun j u hj=>by rw[aB B7.out,<-hj];simp[fdC]) (by decide) (by decide) O7.size ?_;intro v8 w8 hown8 hk8 ho8;obtain⟨pa,ca,rfl,-⟩:=hown8.dI vI;have HF1:=hid (show Own fdC 99 3 w6.heap.size w8 (.slice pa 1 ca) [⟨1,1,0⟩] from hown8);replace m:Mm w6 [] w8 _:=⟨m.out.call ho8⟩;have O68:=hid m.out.only;have g1:=gB (w:=w8) (b:=cb);have g2:=gB (w:=w8) (b:=w5.heap.size);have g3:=gB (w:=w8) (b:=nb);have n1:cb≠w5.heap.size:=gN w8;have n2:cb≠nb:=gN w8;have n3:w5.heap.size≠nb:=gN w8;clear m;have m:Mm w8 [] w8 _:=⟨(((Mem.start w8 []).ext false g1 (by simp) (by simp)).ext false g2 (by simp;omega) (by simp)).ext false g3 (by simp;omega) (by simp)⟩;clear g1 g2 g3 n1 n2 n3;clear hown8 hk8 ho8 O7;have k:=m.out.k;simp only[List.nil_append,List.length_singleton];go_wp2_with (first|((with_reducible refine qU (ty:=106) (b:=nb) ?_ Tryz.underlying106 ?_ ?_ ?_);(. simp[Act.eval]);(. rfl);(. kernel_rfl))|((with_reducible first|refine cM (HTB.out _) ?_|refine cM (HGR.out _) ?_|refine cU ?_|refine wU ?_);clear k m;intro w m k))
 repeat (rw[rounds_succ];go_wp2_with (first|(at_mapUpdate;refine aV ?_)|((with_reducible refine qU (ty:=106) (b:=nb) ?_ Tryz.underlying106 ?_ ?_ ?_);(. simp[Act.eval]);(. rfl);(. kernel_rfl))|((with_reducible first|refine cM (HTB.out _) ?_|refine cM (HGR.out _) ?_|refine cU ?_|refine wU ?_);clear k m;intro w m k)))
 have O9:=m.out.only;have hmb:=(HXM.out w ((O6.out.aA O68.out).aA O9)).2.2.2;refine bD ?_;refine jR (kE:=fun n:Int=>Value.int .i64 n) (vE:=fun x:lI=>Value.agg (rQ x).toArray) rfl _ _ _ 104 rfl 3 41 (dY Tryz.underlying3) Tryz.underlying104 mb _ rfl (nD hmb) 1 rfl UJ rfl ?_;intro w9 hm9 ho9 hs9;have OY:=hid (((((O34.out.aA O5).aA O6.out).aA O68.out).aA O9).trans ho9 (fun x hx=>.inr (by rw[List.mem_singleton.1 hx];exact HMC.out)));have OZ:=hid (((((OB.out.aA O5).aA O6.out).aA O68.out).aA O9).trans ho9 (fun x hx=>.inr (by rw[List.mem_singleton.1 hx];exact HMB.out)));have HS9:=hid (Nat.le_trans O9.size ho9.size);have HF9:=hid (HF1.out.jB ((O9.mono (by simp)).trans ho9 (fun x hx=>.inl hx)) (fun x hx=>by rw[List.mem_singleton.1 hx];exact aD (HXM.out w6 O6.out).2.2.2));clear k m hm9 ho9 hs9 O9 hmb;have m:=bJ w9 [];have k:=m.out.k;go_wp2_with ((with_reducible first|refine cU ?_|refine wU ?_);clear k m;intro w m k)
 rw[rounds_succ];go_wp2_with ((with_reducible first|refine cU ?_|refine wU ?_);clear k m;intro w m k)
 refine (MQ (x:=UJ) (HA.out.kept OZ.out) (HV.out.kept OY.out) HNE.out).mono ?_;rintro r w10 ⟨⟨fb,rfl,hfb,hfd⟩,o10⟩;have HF10:=hid (HF9.out.kept o10);have HS10:=hid (Nat.le_trans HS9.out o10.size);have OV:=hid (OZ.out.aA o10);have hfd2:aR fdC 3 w10 (some ⟨fb,0,none⟩) 1 1 [⟨5,1,0⟩]:=row_one vI hfd;clear k m;have m:=bJ w10 [];have k:=m.out.k;go_wp2_with (first|((with_reducible first|refine cU ?_|refine wU ?_);clear k m;intro w m k)|(at_builtin;refine aV ?_))
 refine bD ?_;refine sQ (B:=w6.heap.size) rfl _ _ 62 rfl 99 (.agg #[.int .i64 0,.int .i64 0,.int .i64 0]) 3 24 Tryz.underlying62 (by kernel_rfl) rfl (by decide) fdC vI RA [⟨1,1,0⟩] (.slice pa 1 ca) rfl HF10.out (some ⟨fb,0,none⟩) 1 1 [⟨5,1,0⟩] rfl hfd2 (by decide) (by decide) (Nat.le_trans O68.out.size (by have:=HF10.out.FH;exact Nat.le_trans (Nat.le_refl _) HS10.out)) ?_;intro v11 w11 hown11 hk11 ho11;have OW:=hid (OV.out.trans ho11 (fun x hx=>.inr (Nat.le_trans ((OB.out.aA O5).aA O6.out).size (HF10.out.FH x hx).1)));have W11:=hid (show Own fdC 99 3 w6.heap.size w11 v11 [⟨1,1,0⟩,⟨5,1,0⟩] from hown11);clear m k hown11 hk11 ho11;have m:=bJ w11 [];have k:=m.out.k;go_wp2_with (first|((with_reducible first|refine cU ?_|refine wU ?_);clear k m;intro w m k)|((with_reducible refine lE (fun w o g k K hK=>⟨rfl,?_⟩));simp[results,Tryz.results17,go_sem];refine hK _ ?_;exact⟨⟨_,_,rfl,W11.out.kept o⟩,OW.out.aA o⟩))
end Go.Proofs.YtppjhbjmfkiejaaGreat
