/- ClientPlays: act, walked. Conditions: those named in each theorem. -/
import Derived.Test.YtedgpfgccpnjnaaGreatFRt3
import Derived.Test.YtedgpfgccpnjnaaGreatFRsf
import Derived.Test.YtedgpfgccpnjnaaGreatFJh
import Derived.Test.YtedgpfgccpnjnaaGreatFRt0
namespace Go.Proofs.YtedgpfgccpnjnaaGreat
open Go.Lib (hid)
set_option maxRecDepth 100000
set_option maxHeartbeats 16000000
open Go.RowKit Go.Sort
def ActR (wz w0:World) (P Q:Pl) (M:List Nat) (bn:Nat) (e:Ending) (w:World):Prop:=
 e=.returned (.bool true)∧(∃ P' Q' M' c' ns',P'.bc=P.bc∧Q'.bc=Q.bc∧ClR c'∧TwS wz w P' Q' M' c' c' bn ns')∧Only M w0 w
set_option synthInstance.maxSize 2000 in
set_option synthInstance.maxHeartbeats 400000 in
theorem pActN {wz w:World} {P Q:Pl} {M:List Nat} {c:Cl} {bn:Nat} {ns:List Int} (h:TwS wz w P Q M c c bn ns) (hR:ClR c) (raw:Int) (hraw: -4611686018427387904≤raw∧raw≤4611686018427387904) (x2 x3 x4 e0 e1 e2 e3 e4 e5 e6 e7 e8 e9 e10 e11 e12 i1 i2:Int) (xh xg:Bool) (x1:Int) (z0:(x1 == 0)=false) (z1:(x1 == 1)=false) (z2:(x1 == 2)=false) :
  Calls Tryz.prog 10 #[.pointer (some ⟨P.bc,0,none⟩),.pointer (some ⟨Q.bc,0,none⟩),.agg #[.int .i64 x1,.int .i64 x2,.int .i64 x3,.int .u64 x4,.int .i64 e0,.int .i64 e1,.int .i64 e2,.int .i64 e3,.int .i64 e4,.int .i64 e5,.int .u32 e6,.int .u32 e7,.int .u32 e8,.int .u64 e9,.int .u64 e10,.int .u64 e11,.int .u64 e12,.int .i64 i1,.int .i64 i2,.bool xh,.bool xg],.int .i64 raw,.slice (some ⟨bn,0,none⟩) 12 12] w fun e w'=>ActR wz w P Q M bn e w':=by
 have HT:=hid h;have HMP:=hid (show ∀ b∈P.all,b∈M∨w.heap.size≤b from fun b hb=>.inl (h.pm b hb));have HMQ:=hid (show ∀ b∈Q.all,b∈M∨w.heap.size≤b from fun b hb=>.inl (h.y.sub b hb));have HMB:=hid (show ∀ b∈[bn],b∈M∨w.heap.size≤b from fun b hb=>.inl (List.mem_singleton.1 hb ▸ h.nb));have r0: -9223372036854775808≤raw:=by omega
 have r1:raw≤9223372036854775807:=by omega
 have HPL:=hid h.x.lt;have HQL:=hid h.y.lt;have HBL:=hid (h.ml bn h.nb);clear h;obtain⟨wo,hwo⟩:∃ wo:World,wo=w:=⟨_,rfl⟩;subst hwo;have m:=mm0 wo [];have k:=m.out.k;go_enter Tryz.func10,Tryz.ntmps10
 go_wp2_with (first|((with_reducible first|refine cU ?_|refine wU ?_);clear k m;intro w m k)|((with_reducible refine lE (fun w o g k K hK=>⟨rfl,?_⟩));simp[results,Tryz.results10,go_sem];refine hK _ ?_;exact⟨rfl,⟨P,Q,M,c,ns,rfl,rfl,hR,HT.out.grow o⟩,o.weak (by simp)⟩))
set_option synthInstance.maxSize 2000 in
set_option synthInstance.maxHeartbeats 400000 in
theorem pAct2 {wz w:World} {P Q:Pl} {M:List Nat} {c:Cl} {bn:Nat} {ns:List Int} (h:TwS wz w P Q M c c bn ns) (hR:ClR c) (raw:Int) (hraw: -4611686018427387904≤raw∧raw≤4611686018427387904) (x2 x3 x4 e0 e1 e2 e3 e4 e5 e6 e7 e8 e9 e10 e11 e12 i1 i2:Int) (xh xg:Bool)  :
  Calls Tryz.prog 10 #[.pointer (some ⟨P.bc,0,none⟩),.pointer (some ⟨Q.bc,0,none⟩),.agg #[.int .i64 2,.int .i64 x2,.int .i64 x3,.int .u64 x4,.int .i64 e0,.int .i64 e1,.int .i64 e2,.int .i64 e3,.int .i64 e4,.int .i64 e5,.int .u32 e6,.int .u32 e7,.int .u32 e8,.int .u64 e9,.int .u64 e10,.int .u64 e11,.int .u64 e12,.int .i64 i1,.int .i64 i2,.bool xh,.bool xg],.int .i64 raw,.slice (some ⟨bn,0,none⟩) 12 12] w fun e w'=>ActR wz w P Q M bn e w':=by
 have HT:=hid h;have HMP:=hid (show ∀ b∈P.all,b∈M∨w.heap.size≤b from fun b hb=>.inl (h.pm b hb));have HMQ:=hid (show ∀ b∈Q.all,b∈M∨w.heap.size≤b from fun b hb=>.inl (h.y.sub b hb));have HMB:=hid (show ∀ b∈[bn],b∈M∨w.heap.size≤b from fun b hb=>.inl (List.mem_singleton.1 hb ▸ h.nb));have r0: -9223372036854775808≤raw:=by omega
 have r1:raw≤9223372036854775807:=by omega
 have HPL:=hid h.x.lt;have HQL:=hid h.y.lt;have HBL:=hid (h.ml bn h.nb);clear h;obtain⟨wo,hwo⟩:∃ wo:World,wo=w:=⟨_,rfl⟩;subst hwo;have m:=mm0 wo [];have k:=m.out.k;go_enter Tryz.func10,Tryz.ntmps10
 go_wp2_with ((with_reducible first|refine cU ?_|refine wU ?_);clear k m;intro w m k)
 have T1:=hid (HT.out.grow m.out.only);have hbx:=gB (w:=w) (b:=wo.heap.size);refine (pUpdateX T1.out.x hR.u.ok hR.u.sv hR.u.g hR.u.tol hR.u.kp hR.u.rd raw r0 r1).mono ?_;rintro e w2 ⟨⟨a1,a2⟩,er,c2,rfl,hu,⟨P',hP,hcl,hpa⟩,ho2⟩;have T2:=hid (T1.out.opX ho2 hcl hpa);have O2:=hid ((m.out.only.weak (S':=M) (by simp)).trans ho2 HMP.out);have HPB:=hid hP;have HU:=hid hu;unfold acV;dsimp only;clear k m HT T1 hbx hcl hpa ho2 hP hu;have m:=mm0 w2 [];have k:=m.out.k;go_wp2_with ((with_reducible first|refine cU ?_|refine wU ?_);clear k m;intro w m k)
 obtain⟨b3,e3,g3,f3,n3⟩:=m.box0 rfl;rw[←e3];have T3:=hid (T2.out.grow m.out.only);clear e3 n3;refine (qUpdate T3.out.y hR.u.ok hR.u.sv hR.u.g hR.ft hR.ri hR.u.tol hR.u.kp hR.u.rd raw).mono ?_;rintro e w4 ⟨⟨a3,a4⟩,er2,c3,rfl,hu2,⟨Q',M',hQ,hy,hm1,hm2,hqa⟩,ho4⟩;obtain⟨ha,rfl,rfl⟩:=UpdX.one HU.out hu2;obtain⟨rfl,rfl⟩:a1=a3∧a2=a4:=by simpa using ha
 have T4:=hid (T3.out.opY ho4 hy hm1 hm2 hqa);have O4:=hid ((O2.out.trans m.out.only (by simp)).trans ho4 HMQ.out);have HQB:=hid hQ;have hb3:=ho4.got g3 (fun hm=>by have:=T2.out.y.lt b3 hm;omega);unfold acV;dsimp only;clear k m T2 T3 g3 ha hu2 hy hm1 hm2 hqa ho4 hQ;have m:=mmR hb3;have k:=m.out.k;clear hb3;go_wp2_with (first|((with_reducible first|refine cU ?_|refine wU ?_);clear k m;intro w m k)|((with_reducible refine lE (fun w o g k K hK=>⟨rfl,?_⟩));simp[results,Tryz.results10,go_sem];refine hK _ ?_;exact⟨rfl,⟨P',Q',M',c2,ns,HPB.out,HQB.out,hR.upd HU.out,T4.out.grow o⟩,O4.out.trans o (by simp)⟩))
end Go.Proofs.YtedgpfgccpnjnaaGreat
