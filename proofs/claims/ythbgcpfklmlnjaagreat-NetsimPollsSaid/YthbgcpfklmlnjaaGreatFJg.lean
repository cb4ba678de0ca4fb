/- Texts of one chain: De, Df. Conditions: those named in each theorem. -/
import Derived.Test.YthbgcpfklmlnjaaGreatFJf
namespace Go.Proofs.YthbgcpfklmlnjaaGreat
open List (length_map map_cons map_nil mem_cons mem_singleton not_mem_nil)
open IntKind (wrap_i64)
open Go.Lib (hid)
set_option maxRecDepth 100000
set_option maxHeartbeats 16000000
section
open Go.RowKit
set_option synthInstance.maxSize 2000 in
set_option synthInstance.maxHeartbeats 400000 in
theorem pClRecv {w:World} {P:Pl} {c:Cl} (h:bP w P c) (hok:iY c.ck) (raw:Int) (h0: -9223372036854775808<=raw) (h1:raw<=9223372036854775807) (i:Nat) (hi:i<P.ps.length) (hi2:(i:Int)<=100) (he:(aH c raw).2.1=0) (p:Np) (hpo:eP p) (iv:Iv) (has:Bool)
  (hw1: -9223372036854775808<=raw-(c.srcs[i]'(h.len ▸ hi)).sent/\raw-(c.srcs[i]'(h.len ▸ hi)).sent<=9223372036854775807) (hw2: -9223372036854775808<=raw-(c.srcs[i]'(h.len ▸ hi)).pat/\raw-(c.srcs[i]'(h.len ▸ hi)).pat<=9223372036854775807) :
  Calls Tryz.prog 215 #[.pointer (some ⟨P.bc,0,none⟩),.int .i64 i,iL p,dS iv,.bool has,.int .i64 raw] w fun e w'=>∃ (hi':i<c.srcs.length),e=.returned (.tuple #[IV (j6 c.srcs[i] i p iv has raw (aH c raw).1 c.cf.prec c.cf.tol).1,.int .i64 0])/\(mI w' P (aH c raw).2.2/\rZ w' P.ps[i] (j6 c.srcs[i] i p iv has raw (aH c raw).1 c.cf.prec c.cf.tol).2)/\Only [P.bc,P.ps[i].1,P.ps[i].2.1,P.ps[i].2.2] w w':=by
 have hic:i<c.srcs.length:=h.len ▸ hi;suffices HW:Calls Tryz.prog 215 #[.pointer (some ⟨P.bc,0,none⟩),.int .i64 i,iL p,dS iv,.bool has,.int .i64 raw] w fun e w'=>e=.returned (.tuple #[IV (j6 c.srcs[i] i p iv has raw (aH c raw).1 c.cf.prec c.cf.tol).1,.int .i64 0])/\(mI w' P (aH c raw).2.2/\rZ w' P.ps[i] (j6 c.srcs[i] i p iv has raw (aH c raw).1 c.cf.prec c.cf.tol).2)/\Only [P.bc,P.ps[i].1,P.ps[i].2.1,P.ps[i].2.2] w w' from HW.mono fun e w' h=>⟨hic,h⟩
 have hn12:P.ps.length<=9223372036854775807:=by
  obtain⟨cur,_,_,g1,g2,_⟩:=h.row;rw[length_map] at g1;exact Nat.le_trans (Nat.le_trans g1 g2) (by decide)
 obtain⟨pb,pa,pf,hp⟩:∃ pb pa pf,P.ps[i]=(pb,pa,pf):=⟨_,_,_,rfl⟩;obtain⟨⟨d1,d2,d3,d4,d5,d6⟩,d7,d8,d9⟩:=WK h.nd hi hp;have hps:∀ x∈[pb,pa,pf],x∈P.all:=fun x hx=>by unfold Pl.all;simp only[mem_cons];exact .inr (.inr (.inr (.inr (List.mem_flatMap.2 ⟨P.ps[i],List.getElem_mem hi,by rw[hp];exact hx⟩))))
 have lbc:=h.lt P.bc (by simp[Pl.all]);have lpb:=h.lt pb (hps _ (by simp));have lpa:=h.lt pa (hps _ (by simp));have lpf:=h.lt pf (hps _ (by simp));have HEN:=hid (fun w' (o:Only [] w w')=>qJ (h.kept o) hok raw h0 h1);have HO:=hid (fun w'=>gF i 0 ((P.ps.length:Int)-1) w');rw[show bT (i:Int) 0 ((P.ps.length:Int)-1)=true from aW.2 ⟨by omega,by omega⟩] at HO;have r1:IntKind.i64.wrap ((P.ps.length:Int)-1)=(P.ps.length:Int)-1:=by rw[wrap_i64];omega
 have HCF:=hid (show (aH c raw).2.2.cf=c.cf from by unfold aH;split<;>rfl);obtain⟨now,er,c1,hce⟩:∃ now er c1,aH c raw=(now,er,c1):=⟨_,_,_,rfl⟩;rw[hce] at HEN he HCF |-;obtain rfl:er=0:=he;obtain⟨s,hs⟩:∃ s,c.srcs[i]=s:=⟨_,rfl⟩;rw[hs] at hw1 hw2;rw[hs,hp];dsimp only at HEN HCF |-;obtain⟨tol,htl⟩:∃ t,c.cf.tol=t:=⟨_,rfl⟩;obtain⟨prec,hpr⟩:∃ t,c.cf.prec=t:=⟨_,rfl⟩;rw[htl,hpr];have HTL:=hid htl;have HPR:=hid hpr;obtain⟨R,HR⟩:∃ R:Hd × Sr,Hid (j6 s i p iv has raw now prec tol=R):=⟨_,hid rfl⟩;rw[HR.out];unfold j6 at HR;have HPT:=hid (h.ptr hi);have hsr:=h.src i hi hic;rw[hp] at HPT;rw[hp,hs] at hsr;have HSR:=hid hsr;have hl:=h.cl;unfold mI at hl;have hii:(i:Int)<(P.ps.length:Int):=by omega
 have hn0:¬ (i:Int)<0:=by omega
 have HQ:=hid hpo;clear hp hs hce h hsr hpo htl hpr;obtain⟨wo,hwo⟩:∃ wo:World,wo=w:=⟨_,rfl⟩;subst hwo;have m:=mY hl;have k:=m.out.k;clear hl;obtain⟨q1,q2,q3,q4,q5,q6,q7,q8,q9,q10,q11,q12,q13⟩:=p;obtain⟨x1,x2⟩:=iv;simp only[iL,dS] at |-;go_enter Tryz.func215,Tryz.ntmps215
 go_upto_region 1 with (fail)
 refine wU ?_;clear k m;intro w m k;go_wp2_with ((with_reducible first|refine cU ?_|refine cM (HO.out _) ?_|refine wU ?_);clear k m;intro w m k)
 obtain⟨b2,e2,g2,f2,n2⟩:=m.box0 rfl;obtain⟨b1,e1,g1,f1,n1⟩:=m.box1 rfl;obtain⟨b0,e0,g0,f0,n0⟩:=m.box2 rfl;have n21:b2≠b1:=by omega
 have n20:b2≠b0:=by omega
 have n10:b1≠b0:=by omega
 rw[<-e2,<-e1,<-e0];clear n2 n1 n0 e0 e1 e2;refine (HEN.out _ m.out.only).mono ?_;rintro e w2 ⟨rfl,hcl,ho2⟩;have OQ:=hid ((m.out.only.weak (S':=[P.bc]) (by simp)).trans ho2 (by simp));have G2:=hid (ho2.got g2 (by simp;omega));have G1:=hid (ho2.got g1 (by simp;omega));have g0:=ho2.got g0 (by simp;omega);clear k m HEN ho2 g1 g2;obtain⟨wq,hwq⟩:∃ wq:World,wq=w2:=⟨_,rfl⟩;subst hwq;have hsr:=HSR.out.kept OQ.out (by simp;omega) (by simp;omega) (by simp;omega);have hsb:=hsr.b;unfold mI at hcl;unfold xM at hsb;have HX:=hid (fun w' (o:Only [] wq w')=>And.intro (Nat.lt_of_lt_of_le HPT.out.1 (OQ.out.trans o (by simp)).size) (((OQ.out.trans o (by simp)).cell HPT.out.1 (by simp;omega)).trans HPT.out.2));have HCL:=hid hcl;have HSB:=hid hsb;have G0:=hid g0;have HF:=hid hsr.f;have HRV:=hid (fun w' (o:Only [] wq w')=>pARecv (hsr.a.kept o (by simp)) ⟨q1,q2,q3,q4,q5,q6,q7,q8,q9,q10,q11,q12,q13⟩ now HQ.out);generalize jP s.sa ⟨q1,q2,q3,q4,q5,q6,q7,q8,q9,q10,q11,q12,q13⟩ now=arv at HRV HR;obtain⟨⟨hk,hc,⟨y1,y2,y3,y4⟩⟩,as2⟩:=arv;simp only[IV,iL] at HRV;dsimp only at HR HRV;have m:Mm wq [] wq _:=⟨(((Mem.start wq []).ext false hcl (by simp) (by simp)).ext false hsb (by simp;omega) (by simp)).ext false g0 (by simp;omega) (by simp)⟩;have k:=m.out.k;have c:=HX.out wq (Only.refl _ _);clear hcl hsb hsr g0;go_wp2_with ((with_reducible first|refine cU ?_|refine wU ?_);clear k m c;intro w m k;have c:=HX.out w m.out.only)
 obtain⟨wa,hwa⟩:∃ wa:World,wa=wq:=⟨_,rfl⟩;subst hwa;refine dA [0,1,2,3,4,5] [6,8] (OnlyC ([]:List Nat) wa) (by kernel_rfl) (by kernel_rfl) ?_;simp only[pick,map_cons,map_nil,List.getD_cons_succ,List.getD_cons_zero];iterate 6 (refine aJ (fun K hK=>?_);go_simp;refine hK _ ?_;clear hK K)
 refine aN ?_;refine Rest.by (X:=Nat) (fun y a=>(a.put (some 53) (.agg #[.int .i64 hk,.string hc,.int .i64 y1,.int .i64 y2,.int .i64 y3,.int .i64 y4])).put (some 17) (.pointer (some ⟨y,0,none⟩))) (fun y w'=>wa.heap.size<=y/\w'.heap[y]? = some (.cells #[.int .i64 hk,.string hc,.int .i64 y1,.int .i64 y2,.int .i64 y3,.int .i64 y4] 322 (0,0))/\tV w' pa as2/\Only [pa] wa w') ?_ ?_
 rotate_left
 focus
  have HL:Hid (pa<wa.heap.size):=hid (by have:=OQ.out.size;omega);clear k m c;refine aK [6,7] (by kernel_rfl) (by simp) (.inr (aZ (Only.refl [] wa).drew)) ?_;simp only[mem_cons,not_mem_nil,or_false,forall_eq_or_imp,forall_eq];refine⟨?_,?_⟩
  focus
   refine aC rfl ?_;go_wp2_with fail
   refine (HRV.out _ (Only.refl [] wa).drew).mono ?_;rintro e x1 ⟨rfl,hA1,ho⟩;go_wp2;simp only[bG];refine aK [7] (by kernel_rfl) (by simp) (.inl (aQ (by kernel_rfl))) ?_;simp only[mem_cons,not_mem_nil,or_false,forall_eq];refine aC rfl ?_;go_wp2;simp only[bG];refine aF (G:=fun w0=>eU _ _ _ _ _ _ _ _ _ w0) ?_;intro x2 hb0 ho0 _;have HA2:=hid (hA1.kept ho0 (by simp));have O2:=hid (((Only.refl [pa] wa).drew.trans ho (by simp)).aB ho0);have HY:Hid (wa.heap.size<=x1.heap.size):=hid (by have:=ho.size;simpa using this);generalize x1.heap.size=y at hb0 HY |-;have B0:=hid hb0;clear hb0 ho ho0 hA1;refine aK [8] (by kernel_rfl) (by simp) (.inl (aQ (by kernel_rfl))) ?_;simp only[mem_cons,not_mem_nil,or_false,forall_eq];refine aC rfl ?_;have m:=lQ B0.out;have k:=m.out.k;go_wp2;simp only[bG];exact dV (by kernel_rfl) (.inl (aQ (by kernel_rfl))) ⟨y,by simp[Act.put],by first|exact HY.out|exact Nat.le_refl _,gB,HA2.out.kept gO (by have e1:=HY.out;have e2:=HL.out;simp only[mem_cons,not_mem_nil,or_false];omega),O2.out.trans gO (fun x hx=>.inr (by rw[mem_singleton.1 hx];exact HY.out))⟩
  focus
   refine aC rfl ?_;go_wp2;simp only[bG];refine K4 (G:=fun w0=>eU _ _ _ _ _ _ _ _ _ w0) ?_;intro x1 hb0 ho0;have HY:Hid (wa.heap.size<=wa.heap.size):=hid (Nat.le_refl _);have B0:=hid hb0;have O1:=hid ho0;obtain⟨y,hy⟩:∃ y,wa.heap.size=y:=⟨_,rfl⟩;rw[hy] at B0;rw[hy];replace HY:Hid (wa.heap.size<=y):=hid (by omega);clear hb0 ho0 hy;refine aK [6] (by kernel_rfl) (by simp) (.inr (aZ O1.out)) ?_;simp only[mem_cons,not_mem_nil,or_false,forall_eq];refine aC rfl ?_;go_wp2_with fail
   refine (HRV.out _ O1.out).mono ?_;rintro e x2 ⟨rfl,hA1,ho⟩;replace B0:=hid (ho.got B0.out (by have e1:=HY.out;have e2:=HL.out;simp only[mem_cons,not_mem_nil,or_false];omega));have HA2:=hid hA1;have O2:=hid ((O1.out.weak (S':=[pa]) (by simp)).trans ho (by simp));clear ho hA1;go_wp2;simp only[bG];refine aK [8] (by kernel_rfl) (by simp) (.inl (aQ (by kernel_rfl))) ?_;simp only[mem_cons,not_mem_nil,or_false,forall_eq];refine aC rfl ?_;have m:=lQ B0.out;have k:=m.out.k;go_wp2;simp only[bG];exact dV (by kernel_rfl) (.inl (aQ (by kernel_rfl))) ⟨y,by simp[Act.put],by first|exact HY.out|exact Nat.le_refl _,gB,HA2.out.kept gO (by have e1:=HY.out;have e2:=HL.out;simp only[mem_cons,not_mem_nil,or_false];omega),O2.out.trans gO (fun x hx=>.inr (by rw[mem_singleton.1 hx];exact HY.out))⟩
 rintro b7 w3 ⟨hbn,hb7,hA,ho3⟩;simp only[Act.put,List.setIfInBounds_toArray,List.set_cons_succ,List.set_cons_zero];have OQ3:=hid ho3;have f7:wo.heap.size<=b7:=by have:=OQ.out.size;omega
 have n7:b7≠b2/\b7≠b1/\b7≠b0:=by
  have h2:=aD G2.out;have h1:=aD G1.out;have h0:=aD G0.out;omega
 replace G2:=hid (OQ3.out.got G2.out (by simp;omega));replace G1:=hid (OQ3.out.got G1.out (by simp;omega));replace G0:=hid (OQ3.out.got G0.out (by simp;omega));replace HCL:=hid (OQ3.out.got HCL.out (by simp;omega));replace HSB:=hid (OQ3.out.got HSB.out (by simp;omega));replace HF:=hid (HF.out.kept OQ3.out (by simp;omega));have HA3:=hid hA;have G7:=hid hb7;have O3:=hid ((OQ.out.weak (S':=[P.bc,pb,pa,pf]) (by simp)).trans OQ3.out (by simp));clear k m c hA hb7 ho3 OQ OQ3 HRV HX hbn;obtain⟨wr,hwr⟩:∃ wr:World,wr=w3:=⟨_,rfl⟩;subst hwr
 have HEND:=hid (fun w' s' (o:Only [b2,pb] wr w') (hb:xM w' pb pa pf s') (e1:s'.sa=as2) (e2:s'.fl=s.fl)=>show (mI w' P c1/\rZ w' (pb,pa,pf) s')/\Only [P.bc,pb,pa,pf] wo w' from
  ⟨⟨o.got HCL.out (by simp;omega),hb,by rw[e1];exact HA3.out.kept o (by simp;omega),by rw[e2];exact HF.out.kept o (by simp;omega)⟩,O3.out.trans o (fun x hx=>(mem_cons.1 hx).elim (fun e=>.inr (by omega)) (fun hx=>.inl (by rw[mem_singleton.1 hx];simp)))⟩)
 have HBK:=hid (fun w'=>pBack s.rc w');by_cases hk4:hk=4
 focus
  subst hk4;rw[if_pos rfl] at HR;generalize JA s.rc=rb at HBK HR;obtain⟨r1,r2,r3,r4,r5⟩:=rb;simp only[I9] at HBK;obtain rfl:=HR.out;have m:Mm wr [b2,pb] wr _:=⟨(((Mem.start wr [b2,pb]).ext false G7.out (by simp) (by simp)).ext true G2.out (by simp;omega) (by simp)).ext true HSB.out (by simp;omega) (by simp)⟩;have k:=m.out.k;clear HR;go_wp2_with (first|((with_reducible first|refine cU ?_|refine cM (HBK.out _) ?_|refine wU ?_);clear k m;intro w m k)|((with_reducible refine lE (fun w o g k K hK=>⟨rfl,?_⟩));simp[results,Tryz.results215,go_sem,k];refine hK _ ?_;exact⟨rfl,HEND.out w _ o (Has.h w g) rfl rfl⟩))
 rw[if_neg hk4] at HR;have k4:(hk == 4)=false:=by simpa using hk4
 by_cases hk7:hk=7
 rotate_left
 focus
  rw[if_neg hk7] at HR;have k7:(hk == 7)=false:=by simpa using hk7
  obtain rfl:=HR.out;have m:Mm wr [b2,pb] wr _:=⟨(((Mem.start wr [b2,pb]).ext false G7.out (by simp) (by simp)).ext true G2.out (by simp;omega) (by simp)).ext true HSB.out (by simp;omega) (by simp)⟩;have k:=m.out.k;clear HR;go_wp2_with (first|((with_reducible first|refine cU ?_|refine wU ?_);clear k m;intro w m k)|((with_reducible refine lE (fun w o g k K hK=>⟨rfl,?_⟩));simp[results,Tryz.results215,go_sem,k];refine hK _ ?_;exact⟨rfl,HEND.out w _ o (Has.h w g) rfl rfl⟩))
 subst hk7;rw[if_pos rfl] at HR;clear HEND HBK;have HSF:=hid (show (xX s as2).sa=as2/\(xX s as2).fl=s.fl from ⟨rfl,rfl⟩);have HPF:=hid (show (iO (xX s as2) ⟨x1,x2⟩ raw tol).sa=as2/\(iO (xX s as2) ⟨x1,x2⟩ raw tol).fl=s.fl from by unfold iO;split<;>(try split)<;>exact⟨rfl,rfl⟩)
 have HCT:=hid (fun w' (hc:mI w' P c1)=>show w'.cell? ⟨P.bc,1,none⟩=some (.int .i64 tol)/\w'.cell? ⟨P.bc,2,none⟩=some (.int .i64 prec)/\P.bc<w'.heap.size from by
  unfold mI at hc;rw[HCF.out,HTL.out,HPR.out] at hc;exact⟨aA hc 1,aA hc 2,aD hc⟩)
 have m:Mm wr [pb] wr _:=⟨(((((Mem.start wr [pb]).ext false HCL.out (by simp) (by simp)).ext false G0.out (by simp;omega) (by simp)).ext false G1.out (by simp;omega) (by simp)).ext false G7.out (by simp;omega) (by simp)).ext true HSB.out (by simp;omega) (by simp)⟩;have k:=m.out.k;obtain⟨s2,hs2⟩:∃ s2:Sr,(if has=true then iO (xX s as2) ⟨x1,x2⟩ raw tol else xX s as2)=s2:=⟨_,rfl⟩;rw[hs2] at HR;have HS2:Hid (s2.sa=as2/\s2.fl=s.fl):=hid (by rw[<-hs2];split;exact HPF.out;exact HSF.out);rcases has with _ | _;all_goals simp only[Bool.false_eq_true,if_false,if_true] at hs2
 all_goals go_wp2_with ((with_reducible first|refine cU ?_|refine wU ?_);clear k m;intro w m k)
 focus
  have HZ:Hid (xM w pb pa pf s2):=hid (by rw[<-hs2];unfold xM xX;exact gB);have OZ:=hid m.out.only;clear k m;obtain⟨wz,hwz⟩:∃ wz:World,wz=w:=⟨_,rfl⟩;subst hwz
 rotate_left
 focus
  refine (pProve (HCT.out w (by unfold mI;exact gB)).1 (HCT.out w (by unfold mI;exact gB)).2.2 (show xM w pb pa pf (xX s as2) from by unfold xM xX;exact gB) ⟨x1,x2⟩ raw hw1.1 hw1.2 hw2.1 hw2.2 d1).mono ?_;rintro e w5 ⟨rfl,hsb5,ho5⟩;have HZ:Hid (xM w5 pb pa pf s2):=hid (by rw[<-hs2];exact hsb5);have OZ:=hid (m.out.only.trans ho5 (fun x hx=>.inl hx));clear k m hsb5 ho5;obtain⟨wz,hwz⟩:∃ wz:World,wz=w5:=⟨_,rfl⟩;subst hwz;have h0z:=OZ.out.got G0.out (by simp;omega);have h7z:=OZ.out.got G7.out (by simp;omega);have m:Mm wz [] wz _:=⟨((Mem.start wz []).ext false h0z (by simp) (by simp)).ext false h7z (by simp;omega) (by simp)⟩;have k:=m.out.k;clear h0z h7z;go_wp2_with ((with_reducible first|refine cU ?_|refine wU ?_);clear k m;intro w m k)
  clear m k
 all_goals (
  have hclz:=OZ.out.got HCL.out (by simp;omega);have HCZ:=hid (HCT.out wz hclz);have hfz:jQ wz pf s2.fl:=by rw[HS2.out.2];exact HF.out.kept OZ.out (by simp;omega)
  have HSA:=hid (show (mE s2 (i+1) ⟨q1,q2,q3,q4,q5,q6,q7,q8,q9,q10,q11,q12,q13⟩ ⟨y1,y2,y3,y4⟩ prec tol).sa=as2 from by rw[<-HS2.out.1];unfold mE;split<;>(try split)<;>rfl);refine (XE HCZ.out.1 HCZ.out.2.1 HCZ.out.2.2 HZ.out hfz ⟨d8,hfz.lt⟩ i (by omega) hi2 ⟨q1,q2,q3,q4,q5,q6,q7,q8,q9,q10,q11,q12,q13⟩ HQ.out ⟨y1,y2,y3,y4⟩).mono ?_;rintro e w8 ⟨rfl,⟨hsb8,hf8⟩,ho8⟩;try dsimp only at HR
  generalize mE s2 (i+1) ⟨q1,q2,q3,q4,q5,q6,q7,q8,q9,q10,q11,q12,q13⟩ ⟨y1,y2,y3,y4⟩ prec tol=s3 at HR hsb8 hf8 HSA;obtain rfl:=HR.out;have O8:=hid ((OZ.out.weak (S':=[pb,pf]) (by simp)).trans ho8 (fun x hx=>.inl hx));have h2:=O8.out.got G2.out (by simp;omega);have h7:=O8.out.got G7.out (by simp;omega);have HC8:=hid (show mI w8 P c1 from O8.out.got HCL.out (by simp;omega));have HA8:=hid (HA3.out.kept O8.out (by simp;omega));have O9:=hid (O3.out.trans O8.out (by simp))
  have HEND:=hid (fun w' (o:Only [b2] w8 w')=>show (mI w' P c1/\rZ w' (pb,pa,pf) s3)/\Only [P.bc,pb,pa,pf] wo w' from
   ⟨⟨o.got HC8.out (by simp;omega),o.got hsb8 (by simp;omega),by rw[HSA.out];exact HA8.out.kept o (by simp;omega),hf8.kept o (by simp;omega)⟩,O9.out.trans o (fun x hx=>.inr (by rw[mem_singleton.1 hx];exact f2))⟩)
  have m:Mm w8 [b2] w8 _:=⟨((Mem.start w8 [b2]).ext false h7 (by simp) (by simp)).ext true h2 (by simp;omega) (by simp)⟩;have k:=m.out.k;clear h2 h7 HR;go_wp2_with (first|((with_reducible first|refine cU ?_|refine wU ?_);clear k m;intro w m k)|((with_reducible refine lE (fun w o g k K hK=>⟨rfl,?_⟩));simp[results,Tryz.results215,go_sem,k];refine hK _ ?_;exact⟨rfl,HEND.out w o⟩)))
end
section
open Go.RowKit
def J5 (l:List Iv) (f:Int):Option Iv:=if f<0\/((l.filter bW).length:Int)<=f then none else qO l ((l.filter bW).length-f)
def jJ (raw tol:Int) (s:Sr):Iv:=if s.hp=true then lJ s.prf s.pat raw tol else MS
def DN (c:Cl) (raw:Int):Iv:=(J5 (c.srcs.map (jJ raw c.cf.tol)) ((c.cf.servers-1) / 2)).getD MS
def uR (c:Cl) (raw:Int):Iv:=(vD (DN c raw) (lJ c.own c.owned raw c.cf.tol)).getD (DN c raw)
def nN (c:Cl) (raw:Int):Iv × Int:=if (aY c raw).2=0 then (uR c raw,0) else (⟨0,0⟩,(aY c raw).2)
def HonR (w1:World) (P:Pl) (c:Cl) (raw:Int) (vo vi:Value) (wr:World):Prop:=
 ∃ k:Nat,k<=P.ps.length/\vi=.int .i64 k/\Own qN 33 2 w1.heap.size wr vo ((c.srcs.take k).map (jJ raw c.cf.tol))/\Only [] w1 wr
theorem XH {w:World} {p:Option Addr} {n cap:Nat} {l:List Iv} (hv:aS qN 2 w p n cap l) (hn:l.length<=48) (f:Int) (_h0: -9223372036854775000<=f) :
  Calls Tryz.prog 171 #[.slice p n cap,.int .i64 f] w fun e w'=>e=.returned (kC (J5 l f))/\Only [] w w':=by
 have HV:=hid hv;have HR:Hid (J5 l f=if f<0\/((l.filter bW).length:Int)<=f then none else qO l ((l.filter bW).length-f)):=hid rfl;generalize J5 l f=res at HR |-;have hfl:(l.filter bW).length<=48:=Nat.le_trans (List.length_filter_le _ _) hn;clear hv;go_enter Tryz.func171,Tryz.ntmps171
 go_upto_region 1 with (fail)
 refine aF (G:=fun w0=>Code.wp _ _ _ _ w0) ?_;intro w1 hb1 ho1 hs1;obtain⟨b1,hbe1⟩:∃ b,w.heap.size=b:=⟨_,rfl⟩;rw[hbe1] at hb1;rw[hbe1];have HN:Hid (w.heap.size<=b1):=hid (by omega);have B1:=hid hb1;have OO:=hid ho1;clear hb1 hs1 hbe1;replace HV:=hid (HV.out.kept ho1);clear ho1;have k1:=c_2 B1.out;go_wp2_with fail
 refine (A9 HV.out hn).mono ?_;rintro e w2 ⟨⟨v,rfl,hown⟩,ho⟩;obtain⟨pp,cap',rfl,-⟩:=Own.eH (enc:=qN) (s:=2) iF hown;clear hown;clear k1;replace OO:=hid (OO.out.aB ho);replace B1:=hid (ho.got B1.out (by simp));replace HV:=hid (HV.out.kept ho);have k1:=c_2 B1.out;clear ho;generalize (l.filter bW).length=m at HR hfl |-;by_cases h1:f<0
 focus
  obtain rfl:res=none:=by have:=HR.out;simpa [h1] using this
  have a1:decide (f<0)=true:=dF h1
 rotate_left
 focus
  have a1:decide (f<0)=false:=bR h1;by_cases h2:(m:Int)<=f
  rotate_left
  focus
   have a2:decide ((m:Int)<=f)=false:=bR h2;have he:res=qO l (m-f):=by have:=HR.out;simpa [h1,h2] using this
   clear HR;obtain⟨d,hd⟩:∃ d,(m:Int)-f=d:=⟨_,rfl⟩;have r1:IntKind.i64.wrap ((m:Int)-f)=d:=by rw[wrap_i64];omega
   rw[hd] at he;have HH:=hid (fun (w':World) (hv:aS qN 2 w' p n cap l)=>pHull hv hn d);rw[<-he] at HH;clear hd h1 h2 hfl he
   cases res with
   | none =>
    unfold kC dS at HH;go_wp2_with fail
    refine (HH.out _ HV.out).mono ?_;rintro e w3 ⟨rfl,ho⟩;clear k1;replace OO:=hid (OO.out.aB ho);replace B1:=hid (ho.got B1.out (by simp));replace HV:=hid (HV.out.kept ho);clear ho;have k1:=c_2 B1.out;go_wp2;have HD:=aG (o:=1) (.int .i64 0) (aG (o:=0) (.int .i64 0) (B1.out));have e0:=aA HD 0;have e1:=aA HD 1;have le:=aD HD;refine bodyPost_ret (v:=.tuple #[.agg #[.int .i64 0,.int .i64 0],.bool false]) (by simp[results,Tryz.results171,go_sem,e0,e1]) rfl ⟨rfl,((OO.out.setCell (.inr HN.out) _).setCell (.inr HN.out) _)⟩
   | some x =>
    obtain⟨xl,xh⟩:=x;unfold kC dS at HH;dsimp only at HH;go_wp2_with fail
    refine (HH.out _ HV.out).mono ?_;rintro e w3 ⟨rfl,ho⟩;clear k1;replace OO:=hid (OO.out.aB ho);replace B1:=hid (ho.got B1.out (by simp));replace HV:=hid (HV.out.kept ho);clear ho;have k1:=c_2 B1.out;go_wp2;have HD:=aG (o:=1) (.int .i64 xh) (aG (o:=0) (.int .i64 xl) (B1.out));have e0:=aA HD 0;have e1:=aA HD 1;have le:=aD HD;refine bodyPost_ret (v:=.tuple #[.agg #[.int .i64 xl,.int .i64 xh],.bool true]) (by simp[results,Tryz.results171,go_sem,e0,e1]) rfl ⟨rfl,((OO.out.setCell (.inr HN.out) _).setCell (.inr HN.out) _)⟩
  obtain rfl:res=none:=by have:=HR.out;simpa [h1,h2] using this
  have a2:decide ((m:Int)<=f)=true:=dF h2
 rotate_left
 all_goals
  clear HR;go_wp2;have HD:=aG (o:=1) (.int .i64 0) (aG (o:=0) (.int .i64 0) (B1.out));have e0:=aA HD 0;have e1:=aA HD 1;have le:=aD HD;refine bodyPost_ret (v:=.tuple #[.agg #[.int .i64 0,.int .i64 0],.bool false]) (by simp[results,Tryz.results171,go_sem,e0,e1]) rfl ⟨rfl,((OO.out.setCell (.inr HN.out) _).setCell (.inr HN.out) _)⟩
theorem SH {w:World} {P:Pl} {c:Cl} (h:bP w P c) (hn:P.ps.length<=12) (hs1:1<=c.cf.servers) (hs2:c.cf.servers<=12) (raw:Int) (hr:∀ s∈c.srcs,-9223372036854775808<=raw-s.pat/\raw-s.pat<=9223372036854775807) :
  Calls Tryz.prog 158 #[.pointer (some ⟨P.bc,0,none⟩),.int .i64 raw] w fun e w'=>e=.returned (dS (DN c raw))/\Only [] w w':=by
 have HC:=hid h;have hcs:P.ps.length=c.srcs.length:=h.len;have HE:Hid (DN c raw=(J5 (c.srcs.map (jJ raw c.cf.tol)) ((c.cf.servers-1) / 2)).getD MS):=hid rfl;generalize DN c raw=res at HE |-;have HHR:=hid hr;have HCS:=hid hcs;have HSV:=hid (And.intro hs1 hs2);have HN12:=hid hn;have HEV:=hid (fun w'=>GA w');unfold dS MS at HEV;dsimp only at HEV;clear h hr hcs hs1 hs2;have hnn:=hn;clear hn;go_enter Tryz.func158,Tryz.ntmps158
 go_upto_region 2 with (fail)
 refine aF (G:=fun w0=>Code.wp _ _ _ _ w0) ?_;intro w1 hb1 ho1 hs1;obtain⟨b1,hbe1⟩:∃ b,w.heap.size=b:=⟨_,rfl⟩;rw[hbe1] at hb1;rw[hbe1];have HN:Hid (w.heap.size<=b1):=hid (by omega);have B1:=hid hb1;have OO:=hid ho1;clear hb1 hs1 hbe1;replace HC:=hid (HC.out.kept ho1);clear ho1;have k1:=c_2 B1.out;have kc:=nU HC.out.cl;obtain⟨wa,hwa⟩:∃ wa:World,wa=w1:=⟨_,rfl⟩;subst hwa;go_wp2;go_loopw [5,16] (fun vo vi wr=>HonR wa P c raw vo vi wr) (fun _ vi _=>P.ps.length-(intOf vi).toNat)
 case atStart=>exact⟨0,Nat.zero_le _,rfl,dZ _ _,Only.refl _ _⟩
 case round =>
  obtain⟨k,hk,rfl,hown,ho⟩:=hrel;have OW:=hid hown;have OL:=hid ho;clear hown;clear k1 kc;replace OO:=hid (OO.out.aB ho);replace B1:=hid (ho.got B1.out (by simp));replace HC:=hid (HC.out.kept ho);have k1:=c_2 B1.out;have kc:=nU HC.out.cl;clear ho;by_cases hlt:k<P.ps.length
  ·have hic:k<c.srcs.length:=HCS.out ▸ hlt
   obtain⟨s,hs⟩:∃ s,c.srcs[k]=s:=⟨_,rfl⟩;obtain⟨pb,pa,pf,hp⟩:∃ pb pa pf,P.ps[k]=(pb,pa,pf):=⟨_,_,_,rfl⟩;have hsr:=(HC.out.src k hlt hic).b;rw[hp,hs] at hsr;have hmem:s∈c.srcs:=hs ▸ List.getElem_mem hic;have HRW:=hid (HHR.out s hmem)
   have HSN:Hid ((c.srcs.take (k+1)).map (jJ raw c.cf.tol)=(c.srcs.take k).map (jJ raw c.cf.tol) ++ [jJ raw c.cf.tol s]):=hid (by
    rw[List.take_succ_eq_append_getElem hic,List.map_append,hs];rfl)
   have hfl:((c.srcs.take k).map (jJ raw c.cf.tol)).length<=k:=by rw[length_map,List.length_take];omega
   generalize (c.srcs.take k).map (jJ raw c.cf.tol)=acc at OW HSN hfl
   have cg:wr.cell? ⟨P.g,k,none⟩=some (.pointer (some ⟨pb,0,none⟩)):=by
    have:=HC.out.row.cell kR (i:=k) (j:=0) (x:=pb) (by rw[List.getElem?_map,List.getElem?_eq_getElem hlt,hp];rfl) (by decide);simpa [wB] using this
   have lg:=HC.out.row.lt;have hi0:decide (k<P.ps.length)=true:=dF hlt;have hi1:decide ((k:Int)<(P.ps.length:Int))=true:=dF (by omega);have B2:=hid hsr;unfold xM at B2;clear hsr hs hp hmem hic;have k2:=MZ B2.out;go_wp2_with fail
   refine (HEV.out _).mono ?_;rintro e w2 ⟨rfl,ho⟩;clear k1 kc k2;replace OO:=hid (OO.out.aB ho);replace B1:=hid (ho.got B1.out (by simp));replace B2:=hid (ho.got B2.out (by simp));replace HC:=hid (HC.out.kept ho);replace OW:=hid (OW.out.kept ho);replace OL:=hid (OL.out.aB ho);clear ho cg lg;have k1:=c_2 B1.out;have k2:=MZ B2.out;have kc:=nU HC.out.cl;have HC2:=HC;have OW2:=OW;have OL2:=OL;have O3:=hid (Only.refl [] w2);go_upto_region 6 with (fail)
   refine aF (G:=fun w0=>Code.wp _ _ _ _ w0) ?_;intro w3 hb ho hs;obtain⟨b3,hbe⟩:∃ b,w2.heap.size=b:=⟨_,rfl⟩;rw[hbe] at hb;rw[hbe];have HN3:Hid (w.heap.size<=b3):=hid (by rw[<-hbe];exact OO.out.size);have HM3_1:Hid (b1≠b3):=hid (by omega);have HM3_2:Hid (pb≠b3):=hid (by omega);have HB3:Hid (w2.heap.size<=b3):=hid (by omega);clear k1 k2 kc;replace OO:=hid (OO.out.aB ho);replace B1:=hid (ho.got B1.out (by simp));replace B2:=hid (ho.got B2.out (by simp));have B3:=hid hb;replace HC:=hid (HC.out.kept ho);replace OW:=hid (OW.out.kept ho);replace OL:=hid (OL.out.aB ho);replace O3:=hid (O3.out.aB ho);clear hb ho hs hbe;have k1:=c_2 B1.out;have k2:=MZ B2.out;have k3:=c_2 B3.out;have kc:=nU HC.out.cl;have HX2:=hid (aD B2.out);obtain⟨pp,cap',rfl,-⟩:=Own.eH (enc:=qN) (s:=2) iF OW.out;by_cases hhp:s.hp=true
   ·have oa:bits .and .i64 (SS s.hr s.hp) 2=2:=by rw[hhp];cases s.hr<;>decide
    have HPX:Hid (jJ raw c.cf.tol s=lJ s.prf s.pat raw c.cf.tol):=hid (by unfold jJ;rw[if_pos hhp]);have HAG:=hid (fun (w':World) (h1:w'.cell? ⟨P.bc,1,none⟩=some (.int .i64 c.cf.tol)) (h2:P.bc<w'.heap.size)=>X0 h1 h2 s.prf s.pat raw HRW.out.1 HRW.out.2);generalize lJ s.prf s.pat raw c.cf.tol=ag at HAG HPX;obtain⟨o1,o2⟩:=ag;unfold dS at HAG;dsimp only at HAG;clear hhp;go_upto_region 7 with (fail)
    refine aL [0,1,2,3,4,5,6,7,8,9,10] [11] (by kernel_rfl) (by kernel_rfl) ?_;simp only[pick,map_cons,map_nil,List.getD_cons_succ,List.getD_cons_zero];iterate 10 (refine wpQuiet_step (fun K hK=>?_);go_simp;refine hK _ ?_;clear hK K)
    refine aX (by kernel_rfl) 160 #[.pointer (some ⟨P.bc,0,none⟩),.agg #[.int .i64 s.prf.lo,.int .i64 s.prf.hi],.int .i64 s.pat,.int .i64 raw] (fun _=>by kernel_rfl) (.agg #[.int .i64 o1,.int .i64 o2]) (bM (fun w' hw'=>HAG.out w' (aA (hw'.got HC.out.cl (by simp)) 1) (aD (hw'.got HC.out.cl (by simp))))) ?_;refine wpQuiet_nil ?_;intro w4 hw;have ho:=aI hw;clear hw;clear k1 k2 k3 kc;replace OO:=hid (OO.out.aB ho);replace B1:=hid (ho.got B1.out (by simp));replace B2:=hid (ho.got B2.out (by simp));replace B3:=hid (ho.got B3.out (by simp));replace HC:=hid (HC.out.kept ho);replace OW:=hid (OW.out.kept ho);replace OL:=hid (OL.out.aB ho);replace O3:=hid (O3.out.aB ho);have k1:=c_2 B1.out;have k2:=MZ B2.out;have k3:=c_2 B3.out;have kc:=nU HC.out.cl;clear ho;go_upto_region 8 with (fail)
    refine kP (G:=fun w0=>Code.wp _ _ _ _ w0) (R:=fun w5=>w5.heap[b1]? = some (.cells #[.int .i64 0,.int .i64 0] 33 (0,0))/\w5.heap[pb]? = some (.cells #[.pointer (some ⟨pa,0,none⟩),.pointer (some ⟨pf,0,none⟩),.int .i64 (SS s.hr s.hp),.int .i64 s.rc.bits,.int .i64 s.rc.poll,.int .i64 s.rc.mn,.int .i64 s.rc.mx,.int .i64 s.rc.cnt,.int .i64 s.sent,.int .i64 s.hdr.leap,.int .i64 s.hdr.ver,.int .i64 s.hdr.mode,.int .i64 s.hdr.strat,.int .i64 s.hdr.poll,.int .i64 s.hdr.prec,.int .u32 s.hdr.rdel,.int .u32 s.hdr.rdsp,.int .u32 s.hdr.rid,.int .u64 s.hdr.ref,.int .u64 s.hdr.org,.int .u64 s.hdr.rcv,.int .u64 s.hdr.xmt,.int .i64 s.rt.str,.int .i64 s.rt.dly,.int .i64 s.rt.dsp,.int .u32 s.rt.ref,.int .i64 s.prf.lo,.int .i64 s.prf.hi,.int .i64 s.pat] 145 (0,0))/\w5.heap[b3]? = some (.cells #[.int .i64 o1,.int .i64 o2] 33 (0,0))/\Only [] w w5/\bP w5 P c/\Own qN 33 2 wa.heap.size w5 (.slice pp acc.length cap') acc/\Only [] wa w5) ⟨(iK (.int .i64 o2) (iK (.int .i64 o1) B1.out HM3_1.out) HM3_1.out),(iK (.int .i64 o2) (iK (.int .i64 o1) B2.out HM3_2.out) HM3_2.out),(aG (o:=1) (.int .i64 o2) (aG (o:=0) (.int .i64 o1) B3.out)),((OO.out.setCell (.inr HN3.out) _).setCell (.inr HN3.out) _),HC2.out.kept ((O3.out.setCell (.inr HB3.out) _).setCell (.inr HB3.out) _),OW2.out.kept ((O3.out.setCell (.inr HB3.out) _).setCell (.inr HB3.out) _),OL2.out.aB ((O3.out.setCell (.inr HB3.out) _).setCell (.inr HB3.out) _)⟩ ?_;rintro w5 ⟨g1,g2,g3,ho,q0,q1,q2⟩;clear k1 k2 k3 kc;replace B1:=hid g1;replace B2:=hid g2;replace B3:=hid g3;replace OO:=hid ho;replace HC:=hid q0;replace OW:=hid q1;replace OL:=hid q2;clear ho g1 g2 g3;have k1:=c_2 B1.out;have k2:=MZ B2.out;have k3:=c_2 B3.out;have kc:=nU HC.out.cl;clear O3 HC2 OW2 OL2;go_wp2_with (at_builtin;refine bD ?_)
    refine aF (G:=fun w0=>Stop (wpList _ _ _ _ _ w0)) ?_;intro w8 hb ho hs8;have B5:=hid hb;clear k1 k2 k3 kc;replace OO:=hid (OO.out.aB ho);replace B1:=hid (ho.got B1.out (by simp));replace B2:=hid (ho.got B2.out (by simp));replace B3:=hid (ho.got B3.out (by simp));replace HC:=hid (HC.out.kept ho);replace OW:=hid (OW.out.kept ho);replace OL:=hid (OL.out.aB ho);have k1:=c_2 B1.out;have k2:=MZ B2.out;have k3:=c_2 B3.out;have kc:=nU HC.out.cl;clear hb ho;refine cK ?_;refine bK (w0:=wa) rfl _ _ 281 rfl 33 (.agg #[.int .i64 0,.int .i64 0]) 2 16 Tryz.underlying281 (by kernel_rfl) rfl (by decide) qN iF zH acc _ rfl OW.out w5.heap.size ⟨o1,o2⟩ rfl (fun j u hj=>?_) (by simp[maxLen];omega) (by omega) OL.out ?_
    ·rw[aA B5.out,<-hj];simp[qN]
    intro v9 w9 hown9 ho9 _;go_wp2;go_roundw
    case rel=>exact⟨k+1,by omega,by go_num,by rw[HSN.out,HPX.out];exact hown9,ho9⟩
    case measure=>first|(simp[intOf];done)|(simp[intOf];omega)
   ·have oa:bits .and .i64 (SS s.hr s.hp) 2=0:=by rw[show s.hp=false by simpa using hhp];cases s.hr<;>decide
    have HPX:Hid (jJ raw c.cf.tol s=⟨-4503599627370496,4503599627370496⟩):=hid (by unfold jJ;rw[if_neg hhp];rfl);clear hhp;go_wp2_with (at_builtin;refine bD ?_)
    refine aF (G:=fun w0=>Stop (wpList _ _ _ _ _ w0)) ?_;intro w8 hb ho hs8;have B5:=hid hb;clear k1 k2 k3 kc;replace OO:=hid (OO.out.aB ho);replace B1:=hid (ho.got B1.out (by simp));replace B2:=hid (ho.got B2.out (by simp));replace B3:=hid (ho.got B3.out (by simp));replace HC:=hid (HC.out.kept ho);replace OW:=hid (OW.out.kept ho);replace OL:=hid (OL.out.aB ho);have k1:=c_2 B1.out;have k2:=MZ B2.out;have k3:=c_2 B3.out;have kc:=nU HC.out.cl;clear hb ho;refine cK ?_;refine bK (w0:=wa) rfl _ _ 281 rfl 33 (.agg #[.int .i64 0,.int .i64 0]) 2 16 Tryz.underlying281 (by kernel_rfl) rfl (by decide) qN iF zH acc _ rfl OW.out w3.heap.size ⟨-4503599627370496,4503599627370496⟩ rfl (fun j u hj=>?_) (by simp[maxLen];omega) (by omega) OL.out ?_
    ·rw[aA B5.out,<-hj];simp[qN]
    intro v9 w9 hown9 ho9 _;go_wp2;go_roundw
    case rel=>exact⟨k+1,by omega,by go_num,by rw[HSN.out,HPX.out];exact hown9,ho9⟩
    case measure=>first|(simp[intOf];done)|(simp[intOf];omega)
  ·obtain rfl:k=P.ps.length:=by omega
   have HT:Hid ((c.srcs.take P.ps.length).map (jJ raw c.cf.tol)=c.srcs.map (jJ raw c.cf.tol)):=hid (by rw[List.take_of_length_le (by rw[HCS.out];exact Nat.le_refl _)]);rw[HT.out] at OW;have hi1:decide ((P.ps.length:Int)<(P.ps.length:Int))=false:=by simp
   have hll:(c.srcs.map (jJ raw c.cf.tol)).length<=48:=by rw[length_map,<-HCS.out];omega
   obtain⟨f,hf⟩:∃ f,(c.cf.servers-1) / 2=f:=⟨_,rfl⟩;obtain⟨sm,hsm⟩:∃ sm,c.cf.servers-1=sm:=⟨_,rfl⟩;have r1:IntKind.i64.wrap (c.cf.servers-1)=sm:=by rw[wrap_i64];have:=HSV.out;omega
   have r2:sm.tdiv 2=f:=by have:=HSV.out;rw[Int.tdiv_eq_ediv_of_nonneg (by omega)];omega
   have r3:IntKind.i64.wrap f=f:=by rw[wrap_i64];have:=HSV.out;omega
   have hf0: -9223372036854775000<=f:=by have:=HSV.out;omega
   rw[hf] at HE;obtain⟨pp,cap',rfl,hvr⟩:=Own.eH (enc:=qN) (s:=2) iF OW.out;have HVR:=hid hvr;clear hvr hf hsm HT;generalize c.srcs.map (jJ raw c.cf.tol)=l at HE HVR hll OW |-;have HH:=hid (fun (w':World) (hv:aS qN 2 w' pp l.length cap' l)=>XH hv hll f hf0);generalize J5 l f=ho at HE HH;go_wp2_with fail
   cases ho with
   | none =>
    obtain rfl:res=⟨-4503599627370496,4503599627370496⟩:=HE.out;unfold kC dS at HH;dsimp only at HH;refine (HH.out _ HVR.out).mono ?_;rintro e w2 ⟨rfl,ho⟩;clear k1 kc;replace OO:=hid (OO.out.aB ho);replace B1:=hid (ho.got B1.out (by simp));clear ho;have k1:=c_2 B1.out;go_upto_region 11 with (fail)
    refine aF (G:=fun w0=>Code.wp _ _ _ _ w0) ?_;intro w3 hb ho hs;obtain⟨b2,hbe⟩:∃ b,w2.heap.size=b:=⟨_,rfl⟩;rw[hbe] at hb;rw[hbe];have HN2:Hid (w.heap.size<=b2):=hid (by rw[<-hbe];exact OO.out.size);have HM2_1:Hid (b1≠b2):=hid (by omega);clear k1;replace OO:=hid (OO.out.aB ho);replace B1:=hid (ho.got B1.out (by simp));have B2:=hid hb;clear hb ho hs hbe;have k1:=c_2 B1.out;have k2:=c_2 B2.out;go_wp2_with fail
    refine (HEV.out _).mono ?_;rintro e w4 ⟨rfl,ho⟩;clear k1 k2;replace OO:=hid (OO.out.aB ho);replace B1:=hid (ho.got B1.out (by simp));replace B2:=hid (ho.got B2.out (by simp));clear ho;have k1:=c_2 B1.out;have k2:=c_2 B2.out;go_wp2;have HD:=aG (o:=1) (.int .i64 4503599627370496) (aG (o:=0) (.int .i64 (-4503599627370496)) (B1.out));have e0:=aA HD 0;have e1:=aA HD 1;have le:=aD HD;refine bodyPost_ret (v:=.agg #[.int .i64 (-4503599627370496),.int .i64 4503599627370496]) (by simp[results,Tryz.results158,go_sem,e0,e1]) rfl ⟨rfl,((OO.out.setCell (.inr HN.out) _).setCell (.inr HN.out) _)⟩
   | some x =>
    obtain⟨xl,xh⟩:=x;obtain rfl:res=⟨xl,xh⟩:=HE.out;unfold kC dS at HH;dsimp only at HH;refine (HH.out _ HVR.out).mono ?_;rintro e w2 ⟨rfl,ho⟩;clear k1 kc;replace OO:=hid (OO.out.aB ho);replace B1:=hid (ho.got B1.out (by simp));clear ho;have k1:=c_2 B1.out;go_upto_region 11 with (fail)
    refine aF (G:=fun w0=>Code.wp _ _ _ _ w0) ?_;intro w3 hb ho hs;obtain⟨b2,hbe⟩:∃ b,w2.heap.size=b:=⟨_,rfl⟩;rw[hbe] at hb;rw[hbe];have HN2:Hid (w.heap.size<=b2):=hid (by rw[<-hbe];exact OO.out.size);have HM2_1:Hid (b1≠b2):=hid (by omega);clear k1;replace OO:=hid (OO.out.aB ho);replace B1:=hid (ho.got B1.out (by simp));have B2:=hid hb;clear hb ho hs hbe;have k1:=c_2 B1.out;have k2:=c_2 B2.out;go_wp2;have HD:=aG (o:=1) (.int .i64 xh) (aG (o:=0) (.int .i64 xl) (B1.out));have e0:=aA HD 0;have e1:=aA HD 1;have le:=aD HD;refine bodyPost_ret (v:=.agg #[.int .i64 xl,.int .i64 xh]) (by simp[results,Tryz.results158,go_sem,e0,e1]) rfl ⟨rfl,((OO.out.setCell (.inr HN.out) _).setCell (.inr HN.out) _)⟩
theorem BD {w:World} {P:Pl} {c:Cl} (h:bP w P c) (hn:P.ps.length<=12) (hs1:1<=c.cf.servers) (hs2:c.cf.servers<=12) (raw:Int) (hr:∀ s∈c.srcs,-9223372036854775808<=raw-s.pat/\raw-s.pat<=9223372036854775807) (ho0: -9223372036854775808<=raw-c.owned) (ho1:raw-c.owned<=9223372036854775807) :
  Calls Tryz.prog 143 #[.pointer (some ⟨P.bc,0,none⟩),.int .i64 raw] w fun e w'=>e=.returned (dS (uR c raw))/\Only [] w w':=by
 have HH:=hid (fun w' (o:Only [] w w')=>SH (h.kept o) hn hs1 hs2 raw hr)
 have HAG:=hid (fun w' (o:Only [] w w')=>by
  have hc:=(h.kept o).cl;unfold mI at hc;exact X0 (aA hc 1) (aD hc) c.own c.owned raw ho0 ho1)
 obtain⟨res,HE⟩:∃ zz,Hid (uR c raw=zz):=⟨_,hid rfl⟩;rw[HE.out];unfold uR at HE;have HM:=hid (fun w'=>pMeet (DN c raw) (lJ c.own c.owned raw c.cf.tol) w');generalize vD (DN c raw) (lJ c.own c.owned raw c.cf.tol)=mt at HM HE;generalize DN c raw=hh at HH HM HE;generalize lJ c.own c.owned raw c.cf.tol=ag at HAG HM;obtain⟨a1,a2⟩:=hh;obtain⟨b1,b2⟩:=ag;have hl:=h.cl;unfold mI at hl;rcases mt with _|⟨e1,e2⟩
 focus
  skip
 rotate_left 1
 focus
  skip
 all_goals
  simp only[P6,dS] at HH HM HAG;first|(simp only[Option.getD_none] at HE)|(simp only[Option.getD_some] at HE)
  obtain rfl:=HE.out;clear HE;have m:=mY hl;have k:=m.out.k;clear hl;go_enter Tryz.func143,Tryz.ntmps143
  go_wp2_with (first|((with_reducible first|refine cU ?_|refine cM (HH.out _ m.out.only) ?_|refine wU ?_);clear k m;intro w m k)|((with_reducible refine rA (id:=2) [0,1,2,3,4,5,6,7,8,9,10,11,12,13,14] [15] 16 [17,18] (by kernel_rfl) (by kernel_rfl) ?_);simp only[pick,map_cons,map_nil,List.getD_cons_succ,List.getD_cons_zero];(repeat (first|(refine aO (fun K hK=>?_);go_simp;refine hK _ ?_;clear hK K)|(refine cG (by kernel_rfl) ⟨_,_,_,?_,fun w' o=>HAG.out w' (m.out.only.aB o),?_⟩;(focus (intro w;go_simp;done)))|(refine cG (by kernel_rfl) ⟨_,_,_,?_,fun w' o=>HM.out w',?_⟩;(focus (intro w;go_simp;done)))));refine aR ?_;(repeat (refine aJ (fun K hK=>?_);go_simp;refine hK _ ?_;clear hK K));refine aN ?_;clear k m;intro w o m k;refine aC rfl ?_;go_wp2;simp only[bG];refine⟨o.alloc _,tW ?_⟩;clear o;clear k m;intro w m k;unfold aV;refine aC rfl ?_;go_wp2;simp only[bG];refine tW ?_;clear k m;intro w m k;unfold aV;refine aC rfl ?_;go_wp2;simp only[bG];refine tW ?_;clear k m;intro w m k;unfold aV)|((with_reducible refine lE (fun w o g k K hK=>⟨rfl,?_⟩));simp[results,Tryz.results143,go_sem,k];refine hK _ ?_;exact⟨rfl,o⟩))
theorem JN {w:World} {P:Pl} {c:Cl} (h:bP w P c) (hok:iY c.ck) (hn:P.ps.length<=12) (hs1:1<=c.cf.servers) (hs2:c.cf.servers<=12) (raw:Int) (h0: -9223372036854775808<=raw) (h1:raw<=9223372036854775807) (hr:(aY c raw).2=0->∀ s∈c.srcs,-9223372036854775808<=raw-s.pat/\raw-s.pat<=9223372036854775807) (ho0:(aY c raw).2=0-> -9223372036854775808<=raw-c.owned/\raw-c.owned<=9223372036854775807) :
  Calls Tryz.prog 136 #[.pointer (some ⟨P.bc,0,none⟩),.int .i64 raw] w fun e w'=>e=.returned (.tuple #[dS (nN c raw).1,.int .i64 (nN c raw).2])/\Only [] w w':=by
 have HC:=hid h;have HE:Hid (nN c raw=if (aY c raw).2=0 then (uR c raw,0) else (⟨0,0⟩,(aY c raw).2)):=hid rfl;generalize nN c raw=res at HE |-;have HNW:=hid (fun (w':World) (h:bP w' P c)=>BF h hok raw h0 h1);have HH:=hid (fun (w':World) (hz:(aY c raw).2=0) (h:bP w' P c)=>BD h hn hs1 hs2 raw (hr hz) (ho0 hz).1 (ho0 hz).2);generalize aY c raw=nn at HNW HE HH;generalize uR c raw=ren at HH HE;obtain⟨nv,ne⟩:=nn;obtain⟨r1,r2⟩:=ren;unfold dS at HH |-;dsimp only at HNW HH HE |-;clear h hr ho0;go_enter Tryz.func136,Tryz.ntmps136
 go_upto_region 1 with (fail)
 refine aF (G:=fun w0=>Code.wp _ _ _ _ w0) ?_;intro w1 hb1 ho1 hs1;obtain⟨b1,hbe1⟩:∃ b,w.heap.size=b:=⟨_,rfl⟩;rw[hbe1] at hb1;rw[hbe1];have HN:Hid (w.heap.size<=b1):=hid (by omega);have B1:=hid hb1;have OO:=hid ho1;clear hb1 hs1 hbe1;replace HC:=hid (HC.out.kept ho1);clear ho1;have k1:=c_2 B1.out;go_wp2_with fail
 refine (HNW.out _ HC.out).mono ?_;rintro e w2 ⟨rfl,ho⟩;clear k1;replace OO:=hid (OO.out.aB ho);replace B1:=hid (ho.got B1.out (by simp));replace HC:=hid (HC.out.kept ho);clear ho;have k1:=c_2 B1.out;by_cases hz:ne=0
 ·subst hz
  obtain rfl:res=(⟨r1,r2⟩,0):=by have:=HE.out;simpa using this
  clear HE HNW;go_wp2_with fail
  refine (HH.out _ trivial HC.out).mono ?_;rintro e w3 ⟨rfl,ho⟩;clear k1;replace OO:=hid (OO.out.aB ho);replace B1:=hid (ho.got B1.out (by simp));replace HC:=hid (HC.out.kept ho);clear ho;have k1:=c_2 B1.out;go_wp2;have HD:=aG (o:=1) (.int .i64 r2) (aG (o:=0) (.int .i64 r1) (B1.out));have e0:=aA HD 0;have e1:=aA HD 1;have le:=aD HD;refine bodyPost_ret (v:=.tuple #[.agg #[.int .i64 r1,.int .i64 r2],.int .i64 0]) (by simp[results,Tryz.results136,go_sem,e0,e1]) rfl ⟨rfl,((OO.out.setCell (.inr HN.out) _).setCell (.inr HN.out) _)⟩
 ·have q1:(ne != 0)=true:=by simpa using hz
  obtain rfl:res=(⟨0,0⟩,ne):=by have:=HE.out;simpa [hz] using this
  clear HE HNW HH hz;go_wp2;have HD:=aG (o:=1) (.int .i64 0) (aG (o:=0) (.int .i64 0) (B1.out));have e0:=aA HD 0;have e1:=aA HD 1;have le:=aD HD;refine bodyPost_ret (v:=.tuple #[.agg #[.int .i64 0,.int .i64 0],.int .i64 ne]) (by simp[results,Tryz.results136,go_sem,e0,e1]) rfl ⟨rfl,((OO.out.setCell (.inr HN.out) _).setCell (.inr HN.out) _)⟩
end
end Go.Proofs.YthbgcpfklmlnjaaGreat
