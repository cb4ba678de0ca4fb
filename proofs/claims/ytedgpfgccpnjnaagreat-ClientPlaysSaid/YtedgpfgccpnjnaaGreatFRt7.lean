/- Rt7 Rt8 -/
import Derived.Test.YtedgpfgccpnjnaaGreatFRs8t
import Derived.Test.YtedgpfgccpnjnaaGreatFRt1
import Derived.Test.YtedgpfgccpnjnaaGreatFRt6
namespace Go.Proofs.YtedgpfgccpnjnaaGreat
section
open Go.RowKit Go.Sort
theorem qRecv {M:List Nat} {w:World} {P:Pl} {c:Cl} (h:QClAt M w P c) (hok:CkOk c.ck) (raw server:Int) (p:Np) (iv:Iv) (has:Bool) (hn:c.srcs.length≤100) (hpo:npOk p) (h8:∀ s∈c.srcs,s.fl.l.length≤8)
  (hw:(clEnter c raw).2.1=0→∀ s∈c.srcs,(-9223372036854775808≤raw-s.sent∧raw-s.sent≤9223372036854775807)∧(-9223372036854775808≤raw-s.pat∧raw-s.pat≤9223372036854775807)) :
  Calls Tryz.prog 31 #[.pointer (some ⟨P.bc,0,none⟩),.int .i64 server,npV p,ivV iv,.bool has,.int .i64 raw] w fun e w'=>e=.returned (.tuple #[hdV (clRecv c server p iv has raw).1.1,.int .i64 (clRecv c server p iv has raw).1.2])∧QClAt M w' P (clRecv c server p iv has raw).2∧Only P.all w w':=by
 have hlen:=h.len;have hbc:∀ x∈[P.bc],x∈P.all:=fun x hx=>by simp only[List.mem_cons,List.not_mem_nil,or_false] at hx;subst hx;unfold Pl.all;simp
 unfold clRecv;by_cases hwi:wth server 0 (c.srcs.length-1)=true
 ·rw[if_pos hwi]
  by_cases he:(clEnter c raw).2.1=0
  ·rw[if_pos he]
   have hb:=wth_iff.1 hwi;obtain⟨i,rfl⟩:∃ i:Nat,server=i:=⟨server.toNat,by omega⟩;have hi:i<P.ps.length:=by omega
   have hic:i<c.srcs.length:=by omega
   rw[show c.srcs.getD (i:Int).toNat (sr0 c.cf)=c.srcs[i] by simp[hic]];have hwi:=hw he _ (List.getElem_mem hic);refine (qClRecv h hok raw p hpo iv has i (by omega) hi hic he (h8 _ (List.getElem_mem hic)) hwi.1 hwi.2).mono ?_;rintro e w' ⟨rfl,hq,ho⟩;exact⟨rfl,hq,ho.weak (Pl.sub_all hi)⟩
  ·rw[if_neg he]
   refine (qClRecvNo h hok raw server p iv has (fun _=>he)).mono ?_;rintro e w' ⟨rfl,hq,ho⟩;rw[if_pos hwi];exact⟨rfl,hq,ho.weak hbc⟩
 ·rw[if_neg hwi]
  refine (qClRecvNo h hok raw server p iv has (fun hh=>absurd hh hwi)).mono ?_;rintro e w' ⟨rfl,hq,ho⟩;rw[if_neg hwi];exact⟨rfl,hq,ho.weak hbc⟩
end
section
open Go.Lib (hid)
set_option maxRecDepth 100000
set_option maxHeartbeats 16000000
open Go.RowKit Go.Sort
set_option synthInstance.maxSize 2000 in
set_option synthInstance.maxHeartbeats 400000 in
theorem pAct0 {wz w:World} {P Q:Pl} {M:List Nat} {c:Cl} {bn:Nat} {ns:List Int} (h:TwS wz w P Q M c c bn ns) (hR:ClR c) (raw:Int) (hraw: -4611686018427387904≤raw∧raw≤4611686018427387904) (x2 x3 x4 e0 e1 e2 e3 e4 e5 e6 e7 e8 e9 e10 e11 e12 i1 i2:Int) (xh xg:Bool) (hx4:0≤x4∧x4≤18446744073709551615) :
  Calls Tryz.prog 10 #[.pointer (some ⟨P.bc,0,none⟩),.pointer (some ⟨Q.bc,0,none⟩),.agg #[.int .i64 0,.int .i64 x2,.int .i64 x3,.int .u64 x4,.int .i64 e0,.int .i64 e1,.int .i64 e2,.int .i64 e3,.int .i64 e4,.int .i64 e5,.int .u32 e6,.int .u32 e7,.int .u32 e8,.int .u64 e9,.int .u64 e10,.int .u64 e11,.int .u64 e12,.int .i64 i1,.int .i64 i2,.bool xh,.bool xg],.int .i64 raw,.slice (some ⟨bn,0,none⟩) 12 12] w fun e w'=>ActR wz w P Q M bn e w':=by
 have HT:=hid h;have HMP:=hid (show ∀ b∈P.all,b∈M∨w.heap.size≤b from fun b hb=>.inl (h.pm b hb));have HMQ:=hid (show ∀ b∈Q.all,b∈M∨w.heap.size≤b from fun b hb=>.inl (h.y.sub b hb));have HMB:=hid (show ∀ b∈[bn],b∈M∨w.heap.size≤b from fun b hb=>.inl (List.mem_singleton.1 hb ▸ h.nb));have r0: -9223372036854775808≤raw:=by omega
 have r1:raw≤9223372036854775807:=by omega
 have HPL:=hid h.x.lt;have HQL:=hid h.y.lt;have HBL:=hid (h.ml bn h.nb);clear h;obtain⟨wo,hwo⟩:∃ wo:World,wo=w:=⟨_,rfl⟩;subst hwo;have m:=mm0 wo [];have k:=m.out.k;go_enter Tryz.func10,Tryz.ntmps10
 go_wp2_with ((with_reducible first|refine cU ?_|refine wU ?_);clear k m;intro w m k)
 have T1:=hid (HT.out.grow m.out.only);have hbx:=gB (w:=w) (b:=wo.heap.size);have HSY:=hid (fun M' w' (hy:QClAt M' w' Q c)=>qSend hy hR.u.ok.ck raw x2 x4);refine (cSend T1.out.x hR.u.ok.ck raw r0 r1 x2 x4).mono ?_;rintro e w2 ⟨rfl,hcl,ho2⟩;have T2:=hid (T1.out.opX ho2 hcl (fun b hb=>.inl hb));have O2:=hid ((m.out.only.weak (S':=M) (by simp)).trans ho2 HMP.out);have hb2:=ho2.got hbx (fun hm=>by have:=HPL.out _ hm;omega);have HUS:=hid (hR.send x2 raw x4);clear k m HT T1 hbx hcl ho2;generalize clSend c x2 raw x4=rr at T2 HSY HUS ⊢;obtain⟨⟨⟨p0,p1,p2,p3,p4,p5,p6,p7,p8,p9,p10,p11,p12⟩,er2⟩,c2⟩:=rr;unfold npV at HSY ⊢;dsimp only at HSY T2 HUS ⊢;have m:=mmR hb2;have k:=m.out.k;clear hb2;go_wp2_with ((with_reducible first|refine cU ?_|refine wU ?_);clear k m;intro w m k)
 obtain⟨b3,e3,g3,f3,n3⟩:=m.box0 rfl;rw[←e3];have n3x:b3≠wo.heap.size:=n3 _ (List.mem_cons_self ..);have T3:=hid (T2.out.grow m.out.only);have hbx:=gB (w:=w) (b:=wo.heap.size);refine (HSY.out _ _ T3.out.y).mono ?_;rintro e w4 ⟨rfl,hy,ho4⟩;have T4:=hid (T3.out.opY ho4 hy (fun x hx=>hx) (fun x hx=>.inl hx) (fun b hb=>.inl hb));have O4:=hid ((O2.out.trans m.out.only (by simp)).trans ho4 HMQ.out);have hb3:=ho4.got g3 (fun hm=>by have:=T2.out.y.lt b3 hm;omega);have hb4:=ho4.got hbx (fun hm=>by have:=HQL.out _ hm;omega);have n3b:b3≠bn:=by have:=T2.out.ml bn T2.out.nb;omega
 have hbl:=HBL.out;clear k m e3 n3 T2 T3 hbx hy ho4 g3 HSY;by_cases hez:er2=0
 focus
  subst hez;by_cases h0:0≤x2
  focus
   have kn0:decide (0≤x2)=true:=decide_eq_true h0;have kn0':decide (x2 ≥ 0)=true:=decide_eq_true h0;by_cases h1:x2<12
   focus
    have kn1:decide (x2<12)=true:=decide_eq_true h1;have HNS:=hid (nr_set (j:=x2.toNat) T4.out.nr hx4);have HLN:=hid (show (ns.set x2.toNat x4).length=12 by rw[List.length_set];exact T4.out.ln);obtain⟨nz,hnz⟩:∃ z,ns[x2.toNat]? = some z:=⟨_,List.getElem?_eq_getElem (by rw[T4.out.ln];omega)⟩;have HNC:=hid (fun (w':World) (h:w'.heap[bn]? = some (.cells (nsV ns).toArray 38 (0,0)))=>show w'.cell? ⟨bn,x2.toNat,none⟩=some (.int .u64 nz) from by rw[cell_got h,List.getElem?_toArray];exact ns_at hnz);clear hnz;have m:Mm w4 [bn] w4 _:=⟨(((Mem.start w4 [bn]).ext false hb3 (by simp) (by simp)).ext false hb4 (by simp;omega) (by simp)).ext true T4.out.hn (by simp;omega) (by simp)⟩;have k:=m.out.k;clear hb3 hb4;have c:=HNC.out _ T4.out.hn;go_wp2_with (first|((with_reducible first|refine cU ?_|refine wU ?_);clear k m;(try clear c);intro w m k;try have c:=HNC.out w (gB (w:=w) (b:=bn)))|((with_reducible refine lE (fun w o g k K hK=>⟨rfl,?_⟩));simp[results,Tryz.results10,go_sem];refine hK _ ?_;exact⟨rfl,⟨P,Q,_,c2,ns.set x2.toNat x4,rfl,rfl,HUS.out,T4.out.non o (by rw[←ns_set];exact Has.h w g) HLN.out HNS.out⟩,O4.out.trans o HMB.out⟩))
   rotate_left 0
   focus
    have kn1:decide (x2<12)=false:=decide_eq_false h1;have m:Mm w4 [] w4 _:=⟨((Mem.start w4 []).ext false hb3 (by simp) (by simp)).ext false hb4 (by simp;omega) (by simp)⟩;have k:=m.out.k;clear hb3 hb4;go_wp2_with (first|((with_reducible first|refine cU ?_|refine wU ?_);clear k m;intro w m k)|((with_reducible refine lE (fun w o g k K hK=>⟨rfl,?_⟩));simp[results,Tryz.results10,go_sem];refine hK _ ?_;exact⟨rfl,⟨P,Q,_,c2,ns,rfl,rfl,HUS.out,T4.out.grow o⟩,O4.out.trans o (by simp)⟩))
  rotate_left 0
  focus
   have kn0:decide (0≤x2)=false:=decide_eq_false h0;have kn0':decide (x2 ≥ 0)=false:=decide_eq_false h0;have m:Mm w4 [] w4 _:=⟨((Mem.start w4 []).ext false hb3 (by simp) (by simp)).ext false hb4 (by simp;omega) (by simp)⟩;have k:=m.out.k;clear hb3 hb4;go_wp2_with (first|((with_reducible first|refine cU ?_|refine wU ?_);clear k m;intro w m k)|((with_reducible refine lE (fun w o g k K hK=>⟨rfl,?_⟩));simp[results,Tryz.results10,go_sem];refine hK _ ?_;exact⟨rfl,⟨P,Q,_,c2,ns,rfl,rfl,HUS.out,T4.out.grow o⟩,O4.out.trans o (by simp)⟩))
 rotate_left 0
 focus
  have dz:(er2 == 0)=false:=by simpa using hez
  have m:Mm w4 [] w4 _:=⟨((Mem.start w4 []).ext false hb3 (by simp) (by simp)).ext false hb4 (by simp;omega) (by simp)⟩;have k:=m.out.k;clear hb3 hb4;go_wp2_with (first|((with_reducible first|refine cU ?_|refine wU ?_);clear k m;intro w m k)|((with_reducible refine lE (fun w o g k K hK=>⟨rfl,?_⟩));simp[results,Tryz.results10,go_sem];refine hK _ ?_;exact⟨rfl,⟨P,Q,_,c2,ns,rfl,rfl,HUS.out,T4.out.grow o⟩,O4.out.trans o (by simp)⟩))
end
end Go.Proofs.YtedgpfgccpnjnaaGreat
