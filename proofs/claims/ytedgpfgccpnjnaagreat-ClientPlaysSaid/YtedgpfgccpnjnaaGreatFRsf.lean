/- timesyncref32: Update, to the same plain relation. Conditions: those named in each theorem. -/
import Derived.Test.YtedgpfgccpnjnaaGreatFRse
import Derived.Test.YtedgpfgccpnjnaaGreatFRsc
import Derived.Test.YtedgpfgccpnjnaaGreatFRs5
import Derived.Test.YtedgpfgccpnjnaaGreatFMx
namespace Go.Proofs.YtedgpfgccpnjnaaGreat
open Go.Lib (hid)
set_option maxRecDepth 100000
set_option maxHeartbeats 8000000
open Go.RowKit Go.Sort
theorem qUpdate {M:List Nat} {w:World} {P:Pl} {c:Cl} (h:QClAt M w P c) (hok:ClOk c) (hsv:SvOk c.sv) (hg:∀ s∈c.srcs,SrG s) (hft:∀ s∈c.srcs,s.fl.tol=c.cf.tol) (hri:∀ s∈c.srcs,Ris s.fl.l∧s.fl.l.length≤8) (htol:0≤c.cf.tol∧c.cf.tol≤500000) (hkp:1≤c.cf.keep) (hrd: -4503599627370496≤c.rd∧c.rd≤4503599627370496) (raw:Int) :
  Calls Tryz.prog 33 #[.pointer (some ⟨P.bc,0,none⟩),.int .i64 raw] w fun e w'=>∃ a er c',e=.returned (.tuple #[acV a,.int .i64 er])∧UpdX c raw a er c'∧(∃ P' M',P'.bc=P.bc∧QClAt M' w' P' c'∧(∀ x∈M,x∈M')∧(∀ x∈M',x∈M∨w.heap.size≤x)∧(∀ b∈P'.all,b∈P.all∨w.heap.size≤b))∧Only P.all w w':=by
 have HSE:c.cf.servers=(P.ps.length:Int):=by have:=h.len;have:=hok.len;have:=hok.s0;omega
 have HN12:P.ps.length≤12:=by have:=h.len;have:=hok.len;have:=hok.s1;omega
 have HN1:1≤P.ps.length:=by have:=h.len;have:=hok.len;have:=hok.s0;omega
 have HC:=hid h;have HEN:=hid (fun w' (o:Only [] w w')=>qClEnter (h.kept o) hok.ck raw);have HSM:=hid (enter_same c raw)
 have HBD:=hid (fun (he:(clEnter c raw).2.1=0)=>And.intro (enter_bd he hok.ck) (show -4503599627370496≤(clEnter c raw).1∧(clEnter c raw).1≤4503599627370496 by
  have h1:=clNow_bd (enter_now he);unfold clEnter;split<;>exact h1))
 obtain⟨R,HR⟩:∃ R,Hid (R=UpdX c raw):=⟨_,hid rfl⟩;rw[←HR.out];have HRE:=hid (show (clEnter c raw).2.1≠0→R ⟨0,0⟩ (clEnter c raw).2.1 (clEnter c raw).2.2 from fun he=>by rw[HR.out];exact .inl ⟨he,rfl,rfl,rfl⟩);have HRS:=hid (show (clEnter c raw).2.1=0→∀ er,er≠0→er=selE (cndC (updB c raw) raw)→R ⟨0,0⟩ er (updB c raw) from fun he er h1 h2=>by rw[HR.out];exact .inr ⟨he,.inl ⟨h1,h2,rfl,rfl⟩⟩);have HRG:=hid (show (clEnter c raw).2.1=0→∀ ins hv,Gd (cndC (updB c raw) raw)→sel (cndC (updB c raw) raw)=some (ins,hv)→R (strC (updB c raw) raw (clEnter c raw).1 (meanC (updK c raw ins)) (updK c raw ins)).1 (strC (updB c raw) raw (clEnter c raw).1 (meanC (updK c raw ins)) (updK c raw ins)).2.1 (strC (updB c raw) raw (clEnter c raw).1 (meanC (updK c raw ins)) (updK c raw ins)).2.2 from fun he ins hv h1 h2=>by rw[HR.out];exact .inr ⟨he,.inr ⟨ins,hv,h1,h2,rfl⟩⟩);have HKG:=hid (fun ins hv=>keep_gd (c:=c) (raw:=raw) (ins:=ins) (hv:=hv) hkp);have HCB:=hid (show updB c raw={ (clEnter c raw).2.2 with own:=renC (clEnter c raw).2.2 raw,owned:=raw } from rfl);have HUK:=hid (fun ins=>show updK c raw ins=prnC c.cf.keep (chsC (cndC (updB c raw) raw) ins) from rfl);generalize updK c raw=uk at HRG HKG HUK;generalize updB c raw=cb at HRS HRG HKG HCB HUK;generalize clEnter c raw=ce at HEN HSM HBD HRE HRS HRG HCB;obtain⟨now,er,c1⟩:=ce;dsimp only at HEN HSM HBD HRE HRS HRG HCB;have HOK:=hid hok;have HSV:=hid hsv;have HG:=hid hg;have HLT:=hid h.lt;have HML:=hid h.ml;have HKP:=hid hkp;have HFT:=hid hft;have HRI:=hid hri;clear h hok hsv hg HR hkp hft hri;obtain⟨wo,hwo⟩:∃ wo:World,wo=w:=⟨_,rfl⟩;subst hwo;have m:=mm0 wo [];have k:=m.out.k;go_enter Tryz.func33,Tryz.ntmps33
 go_wp2_with ((with_reducible first|refine cU ?_|refine wU ?_);clear k m;intro w m k)
 refine (HEN.out _ m.out.only).mono ?_;rintro e w2 ⟨rfl,hcb,ho2⟩;have hrb:∀ b∈P.all,b<wo.heap.size:=HLT.out;have hbl:=hrb P.bc (by simp[Pl.all]);have hrs:∀ (x:Nat),x∈[wo.heap.size]→x∈P.all∨wo.heap.size≤x:=fun x hx=>.inr (by rw[List.mem_singleton.1 hx];exact Nat.le_refl _);have HRB:=hid (show ∀ b∈P.all,b ∉ [wo.heap.size] from fun b hb hm=>by have:=hrb b hb;rw[List.mem_singleton.1 hm] at this;omega);have HMM:=hid (show ∀ x∈wo.heap.size::M,x∈M∨wo.heap.size≤x from fun x hx=>(List.mem_cons.1 hx).elim (fun e=>.inr (Nat.le_of_eq e.symm)) .inl);have HRM:=hid (fun (s:Nat)=>show ∀ x∈[wo.heap.size],x∈wo.heap.size::M∨s≤x from fun x hx=>.inl (by rw[List.mem_singleton.1 hx];simp));have HMC:=hid (show ∀ x∈M,x∈wo.heap.size::M from fun x hx=>List.mem_cons_of_mem _ hx);have HLW:Hid (wo.heap.size<w.heap.size):=hid (got_lt (gB (w:=w) (b:=wo.heap.size)));have hb2:w2.heap[wo.heap.size]? = some (.cells #[.int .i64 0,.int .i64 0] 95 (0,0)):=ho2.got (gB (w:=w)) (by simp;omega);have hob:=(m.out.only.weak (S':=[P.bc]) (by simp)).trans ho2 (by simp);have HC2:=hid (HC.out.putBM (M':=wo.heap.size::M) hob (by simp) (fun x hx=>.inl (by rw[List.mem_singleton.1 hx];exact List.mem_cons_of_mem _ (HC.out.sub _ (by simp[Pl.all])))) HMM.out HMC.out (fun x hx=>(List.mem_cons.1 hx).elim (fun e=>e ▸ Nat.lt_of_lt_of_le HLW.out ho2.size) (fun h=>by have:=HML.out x h;have:=HLW.out;have:=ho2.size;omega)) hcb HSM.out.1 HSM.out.2.1 HSM.out.2.2.1);have O2:=hid (hob.weak (S':=P.all) (by simp[Pl.all]));clear k m HC HEN hcb ho2 hob;obtain⟨wq,hwq⟩:∃ wq:World,wq=w2:=⟨_,rfl⟩;subst hwq;by_cases he:er=0
 rotate_left
 ·have q1:(er != 0)=true:=by simpa using he
  have m:=mm1 hb2;have k:=m.out.k;clear hb2;go_wp2_with (first|((with_reducible first|refine cU ?_|refine wU ?_);clear k m;intro w m k)|((with_reducible refine lE (fun w o g k K hK=>⟨rfl,?_⟩));simp[results,Tryz.results33,go_sem,k];refine hK _ ?_;exact⟨⟨0,0⟩,er,c1,rfl,HRE.out he,⟨P,_,rfl,HC2.out.off o HRB.out (HRM.out _),HMC.out,HMM.out,fun b hb=>.inl hb⟩,O2.out.trans o hrs⟩))
 subst he;obtain⟨⟨hb0,hb1⟩,hn0⟩:=HBD.out rfl;have HRN:=hid (fun w' (o:Only [] wq w')=>qClRen (HC2.out.kept o) HN12 (by rw[HSM.out.2.2.2.1];exact HSE) HN1 raw (fun s hs=>by have:=(HOK.out.src s (by rw[←HSM.out.2.2.1];exact hs)).2;omega) (by have:=HOK.out.own;rw[HSM.out.2.2.2.2.2];omega));have m:=mmR hb2;have k:=m.out.k;have HB2:=hid hb2;clear hb2;go_wp2_with ((with_reducible first|refine cU ?_|refine wU ?_);clear k m;intro w m k)
 refine (HRN.out _ m.out.only).mono ?_;rintro e w3 ⟨rfl,ho3⟩;have ho3:=m.out.only.nil_trans ho3;obtain⟨wp,hwp⟩:∃ wp:World,wp=w3:=⟨_,rfl⟩;subst hwp;have hb3:=ho3.got HB2.out (by simp);have HC3:=hid (HC2.out.kept ho3);have O3:=hid (O2.out.trans ho3 (by simp));obtain⟨⟨x1,x2⟩,hx⟩:∃ x,renC c1 raw=x:=⟨_,rfl⟩;rw[hx] at HCB;rw[hx];unfold ivV;have hcb3:=HC3.out.cl;unfold QClB at hcb3;clear k m ho3 HRN HB2 hx;have m:Mm wp [P.bc,wo.heap.size] wp _:=⟨((Mem.start wp [P.bc,wo.heap.size]).ext true hb3 (by simp) (by simp)).ext true hcb3 (by simp;omega) (by simp)⟩;have k:=m.out.k;clear hb3 hcb3;go_wp2_with ((with_reducible first|refine cU ?_|refine wU ?_);clear k m;intro w m k)
 have HC4:=hid (HC3.out.putB2 (c':=cb) m.out.only (fun b hb hm=>by
  rcases List.mem_cons.1 hm with e|hm
  ·exact e
  ·exact absurd hm (HRB.out b hb)) (fun x hx=>.inl (by
  rcases List.mem_cons.1 hx with e|hx
  ·rw[e];exact HC3.out.sub _ (by simp[Pl.all])
  ·rw[List.mem_singleton.1 hx];simp)) (by rw[HCB.out];unfold QClB;exact gB) (by rw[HCB.out]) (by rw[HCB.out]) (by rw[HCB.out]))
 have O4:=hid (O3.out.trans m.out.only (fun x hx=>by
  rcases List.mem_cons.1 hx with e|hx
  ·exact .inl (by rw[e];simp[Pl.all])
  ·exact hrs x hx))
 have hb4:=gB (w:=w) (b:=wo.heap.size)
 have HCF:Hid (CkOk cb.ck∧cb.sv=c.sv∧cb.cf=c.cf∧cb.rd=c.rd∧cb.srcs=c.srcs):=hid (by
  rw[HCB.out];dsimp only;rw[HSM.out.1,HSM.out.2.1,HSM.out.2.2.2.1,HSM.out.2.2.2.2.1,HSM.out.2.2.1];exact⟨HOK.out.ck,rfl,rfl,rfl,rfl⟩)
 have HPK:=hid (qPicked HC4.out HCF.out.1 HN12 (by rw[HCF.out.2.2.1];exact htol) (by rw[HCF.out.2.2.1,HCF.out.2.2.2.2];exact HFT.out) (by rw[HCF.out.2.2.2.2];exact HG.out) (by rw[HCF.out.2.2.2.2];exact HRI.out) (by rw[HCF.out.2.2.1];exact HKP.out) raw);have HLW4:=hid (got_lt hb4);obtain⟨wl,hwl⟩:∃ wl:World,wl=w:=⟨_,rfl⟩;subst hwl;have HB4:=hid hb4;clear k m HC3 HC2 O2 O3 hb4;refine HPK.out.mono ?_;rintro e w5 ⟨hpk,ho5⟩;have HC5:=hid (HC4.out.kept ho5);have O5:=hid (O4.out.trans ho5 (by simp));have hb5:=ho5.got HB4.out (by simp);have HSZ:=hid ho5.size;obtain⟨wp3,hwp3⟩:∃ wp3:World,wp3=w5:=⟨_,rfl⟩;subst hwp3;clear HPK ho5;unfold PickR at hpk;rcases hpk with ⟨er,he,hex,rfl⟩|⟨ins,hv,v,hgd,hsel,rfl,hown⟩
 ·have q1:(er != 0)=true:=by simpa using he
  have HEX:=hid hex;have m:=mm1 hb5;have k:=m.out.k;clear hb5 hex;go_wp2_with (first|((with_reducible first|refine cU ?_|refine wU ?_);clear k m;intro w m k)|((with_reducible refine lE (fun w o g k K hK=>⟨rfl,?_⟩));simp[results,Tryz.results33,go_sem,k];refine hK _ ?_;exact⟨⟨0,0⟩,er,cb,rfl,HRS.out trivial er he HEX.out,⟨P,_,rfl,HC5.out.off o HRB.out (HRM.out _),HMC.out,HMM.out,fun b hb=>.inl hb⟩,O5.out.trans o hrs⟩))
 obtain⟨hgc,hc0,hgk,hk0,hkid⟩:=HKG.out ins _ hgd hsel;have HRG2:=hid (HRG.out trivial ins _ hgd hsel);have HGK:=hid hgk;have HKI:=hid hkid;have huk:prnC cb.cf.keep (chsC (cndC cb raw) ins)=uk ins:=by rw[HCF.out.2.2.1,HUK.out]
 rw[huk] at hown;generalize uk ins=kp at HGK HKI HRG2 hk0 hown hgk hkid huk;have HOW:=hid hown;obtain⟨pp,cap',rfl,hvr⟩:=Own.vrow (enc:=cdC) (s:=5) cdC_len hown
 have HPF:=hid (show ∀ a,pp=some a→wl.heap.size≤a.block from fun a ha=>by
  rcases hown with ⟨h,-⟩|⟨q,cp,h,hq,-⟩
  ·rw[ha] at h;cases h
  ·simp only[Value.slice.injEq] at h
   rw[ha] at h;obtain⟨h,-⟩:=h;simp only[Option.some.injEq] at h;subst h;exact hq)
 have HV:=hid hvr;have HB5:=hid hb5;have m:=mmR hb5;have k:=m.out.k;clear hb5 hown hvr hgd hsel hgc hgk hkid huk HRS HRG HKG HUK;go_wp2_with ((with_reducible first|refine cU ?_|refine wU ?_);clear k m;intro w m k)
 refine (qMeanC (HV.out.kept m.out.only) HGK.out hk0).mono ?_;rintro e w8 ⟨rfl,ho8⟩;have ho8:=m.out.only.nil_trans ho8;have O11:=hid (O5.out.trans ho8 (by simp));have HC11:=hid (HC5.out.kept ho8);have hb11:=ho8.got HB5.out (by simp);have HV11:=hid (HV.out.kept ho8);have HSZ8:=hid (Nat.le_trans HSZ.out ho8.size);clear k m HC5 O5 ho8 HV HB5;obtain⟨wp7,hwp7⟩:∃ wp7:World,wp7=w8:=⟨_,rfl⟩;subst hwp7;have HB11:=hid hb11;have m:=mmR hb11;have k:=m.out.k;clear hb11;go_wp2_with ((with_reducible first|refine cU ?_|refine wU ?_);clear k m;intro w m k)
 obtain⟨o0,o1,-⟩:=mean_bd HGK.out hk0;have HC12:=HC11;obtain⟨bq,oq,rfl,hbq,-⟩:=HV11.out.at hk0;have hbq2:wl.heap.size≤bq:=HPF.out _ rfl
 have HROW:=hid (show ∀ (S:List Nat) w',(∀ x∈S,x∈wo.heap.size::M∨wp7.heap.size≤x)→Only S wp7 w'→VRow cdC 5 w' (some ⟨bq,oq,none⟩) kp.length cap' kp from fun S w' hS o=>HV11.out.kept' o (fun a ha hm=>by
  cases ha
  have h1:=HLW4.out;rcases hS _ hm with h|h
  ·rcases List.mem_cons.1 h with e|h
   ·dsimp only at e;omega
   ·have:=HML.out _ h;dsimp only at this;omega
  ·dsimp only at h;omega))
 have O12:=O11;have HB12:=HB11;refine (qDisc HC12.out HCF.out.1 (by rw[HCF.out.2.1];exact HSV.out) HN12 (by rw[HCF.out.2.2.1];exact htol) HROW.out HGK.out hk0 (fun k hk=>by have:=(HKI.out k hk).2;have:=HC12.out.len;omega) raw now _ hn0 (by rw[HCF.out.2.2.2.1];exact hrd) ⟨o0,o1⟩).mono ?_;rintro e w9 ⟨rfl,⟨P',M',hP,hcl,hm1,hm2,hpa⟩,ho9⟩;have hb13:=ho9.got HB12.out (fun hm=>by have:=hrb _ hm;omega);have hlw:=got_lt HB12.out;have HPA:=hid (show ∀ b∈P'.all,b∈P.all∨wo.heap.size≤b from fun b hb=>(hpa b hb).imp_right (fun h=>by omega))
 have HRBQ:=hid (show ∀ b∈P'.all,b ∉ [wo.heap.size] from fun b hb hm=>by
  rw[List.mem_singleton.1 hm] at hb;rcases hpa _ hb with h|h
  ·have:=hrb _ h;omega
  ·omega)
 have HM1:=hid (show ∀ x∈M,x∈M' from fun x hx=>hm1 x (HMC.out x hx));have HM2:=hid (show ∀ x∈M',x∈M∨wo.heap.size≤x from fun x hx=>(hm2 x hx).elim (HMM.out x) (fun h=>.inr (by omega)));have HQR:=hid (fun (s:Nat)=>show ∀ x∈[wo.heap.size],x∈M'∨s≤x from fun x hx=>.inl (by rw[List.mem_singleton.1 hx];exact hm1 _ (by simp)));have O13:=hid (O12.out.trans ho9 (fun x hx=>.inl hx));generalize strC cb raw now (meanC kp) kp=st at HRG2 hcl ⊢;obtain⟨⟨sa,sv⟩,se,sc⟩:=st;unfold acV;dsimp only at HRG2 hcl ⊢;have HC13:=hid hcl;have HPP:=hid hP;clear k m ho9 HV11 hcl hpa hP HROW hm1 hm2;obtain⟨wp8,hwp8⟩:∃ wp8:World,wp8=w9:=⟨_,rfl⟩;subst hwp8;have m:=mm1 hb13;have k:=m.out.k;clear hb13;go_wp2_with (first|((with_reducible first|refine cU ?_|refine wU ?_);clear k m;intro w m k)|((with_reducible refine lE (fun w o g k K hK=>⟨rfl,?_⟩));simp[results,Tryz.results33,go_sem,k];refine hK _ ?_;exact⟨⟨sa,sv⟩,se,sc,rfl,HRG2.out,⟨P',M',HPP.out,HC13.out.off o HRBQ.out (HQR.out _),HM1.out,HM2.out,HPA.out⟩,O13.out.trans o hrs⟩))
end Go.Proofs.YtedgpfgccpnjnaaGreat
