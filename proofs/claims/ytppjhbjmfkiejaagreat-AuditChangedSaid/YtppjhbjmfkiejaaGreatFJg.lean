/- Jg Jh -/
import Derived.Test.YtppjhbjmfkiejaaGreatFJe
namespace Go.Proofs.YtppjhbjmfkiejaaGreat
open List (getElem_mem length_map mem_cons mem_flatMap mem_singleton not_mem_nil)
open IntKind (wrap_i64)
set_option maxRecDepth 100000
set_option maxHeartbeats 16000000
open IntKind (wrap)
section
open Go.RowKit
set_option synthInstance.maxSize 2000 in
set_option synthInstance.maxHeartbeats 400000 in
theorem pClRecv {w:World} {P:Pl} {c:Cl} (h:bP w P c) (hok:jE c.ck) (raw:Int) (h0: -9223372036854775808<=raw) (h1:raw<=9223372036854775807) (i:Nat) (hi:i<P.ps.length) (hi2:(i:Int)<=100) (he:(aI c raw).2.1=0) (p:Np) (hpo:fA p) (iv:Iv) (has:Bool)
  (hw1: -9223372036854775808<=raw-(c.srcs[i]'(h.len ▸ hi)).sent/\raw-(c.srcs[i]'(h.len ▸ hi)).sent<=9223372036854775807) (hw2: -9223372036854775808<=raw-(c.srcs[i]'(h.len ▸ hi)).pat/\raw-(c.srcs[i]'(h.len ▸ hi)).pat<=9223372036854775807) :
  Calls Tryz.prog 230 #[.pointer (some ⟨P.bc,0,none⟩),.int .i64 i,iR p,dV iv,.bool has,.int .i64 raw] w fun e w'=>∃ (hi':i<c.srcs.length),e=.returned (.tuple #[JL (kJ c.srcs[i] i p iv has raw (aI c raw).1 c.cf.prec c.cf.tol).1,.int .i64 0])/\(mW w' P (aI c raw).2.2/\tJ w' P.ps[i] (kJ c.srcs[i] i p iv has raw (aI c raw).1 c.cf.prec c.cf.tol).2)/\Oy [P.bc,P.ps[i].1,P.ps[i].2.1,P.ps[i].2.2] w w':=by
 have hic:i<c.srcs.length:=h.len ▸ hi;suffices HW:Calls Tryz.prog 230 #[.pointer (some ⟨P.bc,0,none⟩),.int .i64 i,iR p,dV iv,.bool has,.int .i64 raw] w fun e w'=>e=.returned (.tuple #[JL (kJ c.srcs[i] i p iv has raw (aI c raw).1 c.cf.prec c.cf.tol).1,.int .i64 0])/\(mW w' P (aI c raw).2.2/\tJ w' P.ps[i] (kJ c.srcs[i] i p iv has raw (aI c raw).1 c.cf.prec c.cf.tol).2)/\Oy [P.bc,P.ps[i].1,P.ps[i].2.1,P.ps[i].2.2] w w' from HW.mono fun e w' h=>⟨hic,h⟩
 have hn12:P.ps.length<=9223372036854775807:=by
  obtain⟨cur,_,_,g1,g2,_⟩:=h.row;rw[length_map] at g1;exact Nat.le_trans (Nat.le_trans g1 g2) (by decide)
 obtain⟨pb,pa,pf,hp⟩:∃ pb pa pf,P.ps[i]=(pb,pa,pf):=⟨_,_,_,rfl⟩;obtain⟨⟨d1,d2,d3,d4,d5,d6⟩,d7,d8,d9⟩:=X7 h.nd hi hp;have hps:∀ x∈[pb,pa,pf],x∈P.all:=fun x hx=>by unfold Pl.all;simp only[mem_cons];exact .inr (.inr (.inr (.inr (mem_flatMap.2 ⟨P.ps[i],getElem_mem hi,by rw[hp];exact hx⟩))))
 have lbc:=h.lt P.bc (by simp[Pl.all]);have lpb:=h.lt pb (hps _ (by simp));have lpa:=h.lt pa (hps _ (by simp));have lpf:=h.lt pf (hps _ (by simp));have HEN:=aA (fun w' (o:Oy [] w w')=>qQ (h.kept o) hok raw h0 h1);have HO:=aA (fun w'=>gK i 0 ((P.ps.length:Int)-1) w');rw[show bZ (i:Int) 0 ((P.ps.length:Int)-1)=true from aY.2 ⟨by omega,by omega⟩] at HO;have r1:wrap .i64 ((P.ps.length:Int)-1)=(P.ps.length:Int)-1:=by rw[wrap_i64];omega
 have HCF:=aA (show (aI c raw).2.2.cf=c.cf from by unfold aI;split<;>rfl);obtain⟨now,er,c1,hce⟩:∃ now er c1,aI c raw=(now,er,c1):=⟨_,_,_,rfl⟩;rw[hce] at HEN he HCF |-;obtain rfl:er=0:=he;obtain⟨s,hs⟩:∃ s,c.srcs[i]=s:=⟨_,rfl⟩;rw[hs] at hw1 hw2;rw[hs,hp];dsimp only at HEN HCF |-;obtain⟨tol,htl⟩:∃ t,c.cf.tol=t:=⟨_,rfl⟩;obtain⟨prec,hpr⟩:∃ t,c.cf.prec=t:=⟨_,rfl⟩;rw[htl,hpr];have HTL:=aA htl;have HPR:=aA hpr;obtain⟨R,HR⟩:∃ R:Hd × Sr,Hid (kJ s i p iv has raw now prec tol=R):=⟨_,aA rfl⟩;rw[HR.out];unfold kJ at HR;have HPT:=aA (h.ptr hi);have hsr:=h.src i hi hic;rw[hp] at HPT;rw[hp,hs] at hsr;have HSR:=aA hsr;have hl:=h.cl;unfold mW at hl;have hii:(i:Int)<(P.ps.length:Int):=by omega
 have hn0:¬ (i:Int)<0:=by omega
 have HQ:=aA hpo;clear hp hs hce h hsr hpo htl hpr;obtain⟨wo,rfl⟩:∃ wo:World,wo=w:=⟨_,rfl⟩;have m:=iX hl;have k:=m.zK;clear hl;obtain⟨q1,q2,q3,q4,q5,q6,q7,q8,q9,q10,q11,q12,q13⟩:=p;obtain⟨x1,x2⟩:=iv;simp only[iR,dV] at |-;go_enter Tryz.func230,Tryz.ntmps230
 go_upto_region 1 with (fail)
 refine wU ?_;clear k m;intro w m k;go_wp2_with ((with_reducible first|refine cU ?_|refine cM (HO.out _) ?_|refine wU ?_);clear k m;intro w m k)
 obtain⟨b2,e2,g2,f2,n2⟩:=m.box0 rfl;obtain⟨b1,e1,g1,f1,n1⟩:=m.box1 rfl;obtain⟨b0,e0,g0,f0,n0⟩:=m.box2 rfl;have n21:b2≠b1:=by omega
 have n20:b2≠b0:=by omega
 have n10:b1≠b0:=by omega
 rw[<-e2,<-e1,<-e0];clear n2 n1 n0 e0 e1 e2;refine (HEN.out _ m.zO).mono ?_;rintro e w2 ⟨rfl,hcl,ho2⟩;have OQ:=aA ((m.zO.weak (S':=[P.bc]) (by simp)).trans ho2 (by simp));have G2:=aA (ho2.got g2 (by simp;omega));have G1:=aA (ho2.got g1 (by simp;omega));have g0:=ho2.got g0 (by simp;omega);clear k m HEN ho2 g1 g2;obtain⟨wq,rfl⟩:∃ wq:World,wq=w2:=⟨_,rfl⟩;have hsr:=HSR.out.kept OQ.out (by simp;omega) (by simp;omega) (by simp;omega);have hsb:=hsr.b;unfold mW at hcl;unfold yK at hsb;have HX:=aA (fun w' (o:Oy [] wq w')=>And.intro (Nat.lt_of_lt_of_le HPT.out.1 (OQ.out.trans o (by simp)).size) (((OQ.out.trans o (by simp)).cell HPT.out.1 (by simp;omega)).trans HPT.out.2));have HCL:=aA hcl;have HSB:=aA hsb;have G0:=aA g0;have HF:=aA hsr.f;have HRV:=aA (fun w' (o:Oy [] wq w')=>pARecv (hsr.a.kept o (by simp)) ⟨q1,q2,q3,q4,q5,q6,q7,q8,q9,q10,q11,q12,q13⟩ now HQ.out);generalize jV s.sa ⟨q1,q2,q3,q4,q5,q6,q7,q8,q9,q10,q11,q12,q13⟩ now=arv at HRV HR;obtain⟨⟨hk,hc,⟨y1,y2,y3,y4⟩⟩,as2⟩:=arv;simp only[JL,iR] at HRV;dsimp only at HR HRV;have m:Mm wq [] wq _:=⟨(((Mem.start wq []).ext false hcl (by simp) (by simp)).ext false hsb (by simp;omega) (by simp)).ext false g0 (by simp;omega) (by simp)⟩;have k:=m.zK;have c:=HX.out wq (aR _ _);clear hcl hsb hsr g0;go_wp2_with ((with_reducible first|refine cU ?_|refine wU ?_);clear k m c;intro w m k;have c:=HX.out w m.zO)
 obtain⟨wa,rfl⟩:∃ wa:World,wa=wq:=⟨_,rfl⟩;refine dG [0,1,2,3,4,5] [6,8] (OnlyC ([]:List Nat) wa) (by kernel_rfl) (by kernel_rfl) ?_;simp only[bV];iterate 6 (refine aJ (fun K hK=>?_);go_simp;refine hK _ ?_;clear hK K)
 refine aK ?_;refine Rest.by (X:=Nat) (fun y a=>(a.put (some 53) (.agg #[.int .i64 hk,.string hc,.int .i64 y1,.int .i64 y2,.int .i64 y3,.int .i64 y4])).put (some 17) (.pointer (some ⟨y,0,none⟩))) (fun y w'=>wa.heap.size<=y/\w'.heap[y]? = some (.cells #[.int .i64 hk,.string hc,.int .i64 y1,.int .i64 y2,.int .i64 y3,.int .i64 y4] 366 (0,0))/\uW w' pa as2/\Oy [pa] wa w') ?_ ?_
 rotate_left
 focus
  have HL:Hid (pa<wa.heap.size):=aA (by have:=OQ.out.size;omega);clear k m c;refine aL [6,7] (by kernel_rfl) (by simp) (.inr (bC (aR [] wa).drew)) ?_;simp only[mem_cons,not_mem_nil,or_false,forall_eq_or_imp,forall_eq];refine⟨?_,?_⟩
  focus
   refine aD rfl ?_;go_wp2_with fail
   refine (HRV.out _ (aR [] wa).drew).mono ?_;rintro e x1 ⟨rfl,hA1,ho⟩;go_wp2;simp only[bA];refine aL [7] (by kernel_rfl) (by simp) (.inl (aT (by kernel_rfl))) ?_;simp only[eD];refine aD rfl ?_;go_wp2;simp only[bA];refine aG (G:=fun w0=>fD _ _ _ _ _ _ _ _ _ w0) ?_;intro x2 hb0 ho0 _;have HA2:=aA (hA1.kept ho0 (by simp));have O2:=aA (((aR [pa] wa).drew.trans ho (by simp)).aB ho0);have HY:Hid (wa.heap.size<=x1.heap.size):=aA (by have:=ho.size;simpa using this);generalize x1.heap.size=y at hb0 HY |-;have B0:=aA hb0;clear hb0 ho ho0 hA1;refine aL [8] (by kernel_rfl) (by simp) (.inl (aT (by kernel_rfl))) ?_;simp only[eD];refine aD rfl ?_;have m:=kV B0.out;have k:=m.zK;go_wp2;simp only[bA];exact dX (by kernel_rfl) (.inl (aT (by kernel_rfl))) ⟨y,by simp[Act.put],by first|exact HY.out|exact Nat.le_refl _,gB,HA2.out.kept gO (by have e1:=HY.out;have e2:=HL.out;simp only[mem_cons,not_mem_nil,or_false];omega),O2.out.trans gO (fun x hx=>.inr (by rw[mem_singleton.1 hx];exact HY.out))⟩
  focus
   refine aD rfl ?_;go_wp2;simp only[bA];refine LY (G:=fun w0=>fD _ _ _ _ _ _ _ _ _ w0) ?_;intro x1 hb0 ho0;have HY:Hid (wa.heap.size<=wa.heap.size):=aA (Nat.le_refl _);have B0:=aA hb0;have O1:=aA ho0;obtain⟨y,hy⟩:∃ y,wa.heap.size=y:=⟨_,rfl⟩;rw[hy] at B0;rw[hy];replace HY:Hid (wa.heap.size<=y):=aA (by omega);clear hb0 ho0 hy;refine aL [6] (by kernel_rfl) (by simp) (.inr (bC O1.out)) ?_;simp only[eD];refine aD rfl ?_;go_wp2_with fail
   refine (HRV.out _ O1.out).mono ?_;rintro e x2 ⟨rfl,hA1,ho⟩;replace B0:=aA (ho.got B0.out (by have e1:=HY.out;have e2:=HL.out;simp only[mem_cons,not_mem_nil,or_false];omega));have HA2:=aA hA1;have O2:=aA ((O1.out.weak (S':=[pa]) (by simp)).trans ho (by simp));clear ho hA1;go_wp2;simp only[bA];refine aL [8] (by kernel_rfl) (by simp) (.inl (aT (by kernel_rfl))) ?_;simp only[eD];refine aD rfl ?_;have m:=kV B0.out;have k:=m.zK;go_wp2;simp only[bA];exact dX (by kernel_rfl) (.inl (aT (by kernel_rfl))) ⟨y,by simp[Act.put],by first|exact HY.out|exact Nat.le_refl _,gB,HA2.out.kept gO (by have e1:=HY.out;have e2:=HL.out;simp only[mem_cons,not_mem_nil,or_false];omega),O2.out.trans gO (fun x hx=>.inr (by rw[mem_singleton.1 hx];exact HY.out))⟩
 rintro b7 w3 ⟨hbn,hb7,hA,ho3⟩;simp only[Act.put,List.setIfInBounds_toArray,List.set_cons_succ,List.set_cons_zero];have OQ3:=aA ho3;have f7:wo.heap.size<=b7:=by have:=OQ.out.size;omega
 have n7:b7≠b2/\b7≠b1/\b7≠b0:=by
  have h2:=aF G2.out;have h1:=aF G1.out;have h0:=aF G0.out;omega
 replace G2:=aA (OQ3.out.got G2.out (by simp;omega));replace G1:=aA (OQ3.out.got G1.out (by simp;omega));replace G0:=aA (OQ3.out.got G0.out (by simp;omega));replace HCL:=aA (OQ3.out.got HCL.out (by simp;omega));replace HSB:=aA (OQ3.out.got HSB.out (by simp;omega));replace HF:=aA (HF.out.kept OQ3.out (by simp;omega));have HA3:=aA hA;have G7:=aA hb7;have O3:=aA ((OQ.out.weak (S':=[P.bc,pb,pa,pf]) (by simp)).trans OQ3.out (by simp));clear k m c hA hb7 ho3 OQ OQ3 HRV HX hbn;obtain⟨wr,rfl⟩:∃ wr:World,wr=w3:=⟨_,rfl⟩
 have HEND:=aA (fun w' s' (o:Oy [b2,pb] wr w') (hb:yK w' pb pa pf s') (e1:s'.sa=as2) (e2:s'.fl=s.fl)=>show (mW w' P c1/\tJ w' (pb,pa,pf) s')/\Oy [P.bc,pb,pa,pf] wo w' from
  ⟨⟨o.got HCL.out (by simp;omega),hb,by rw[e1];exact HA3.out.kept o (by simp;omega),by rw[e2];exact HF.out.kept o (by simp;omega)⟩,O3.out.trans o (fun x hx=>(mem_cons.1 hx).elim (fun e=>.inr (by omega)) (fun hx=>.inl (by rw[mem_singleton.1 hx];simp)))⟩)
 have HBK:=aA (fun w'=>pBack s.rc w');by_cases hk4:hk=4
 focus
  subst hk4;rw[if_pos rfl] at HR;generalize JZ s.rc=rb at HBK HR;obtain⟨r1,r2,r3,r4,r5⟩:=rb;simp only[JY] at HBK;obtain rfl:=HR.out;have m:Mm wr [b2,pb] wr _:=⟨(((Mem.start wr [b2,pb]).ext false G7.out (by simp) (by simp)).ext true G2.out (by simp;omega) (by simp)).ext true HSB.out (by simp;omega) (by simp)⟩;have k:=m.zK;clear HR;go_wp2_with (first|((with_reducible first|refine cU ?_|refine cM (HBK.out _) ?_|refine wU ?_);clear k m;intro w m k)|((with_reducible refine lE (fun w o g k K hK=>⟨rfl,?_⟩));simp[results,Tryz.results230,go_sem,k];refine hK _ ?_;exact⟨rfl,HEND.out w _ o (Has.h w g) rfl rfl⟩))
 rw[if_neg hk4] at HR;have k4:(hk == 4)=false:=by simpa using hk4
 by_cases hk7:hk=7
 rotate_left
 focus
  rw[if_neg hk7] at HR;have k7:(hk == 7)=false:=by simpa using hk7
  obtain rfl:=HR.out;have m:Mm wr [b2,pb] wr _:=⟨(((Mem.start wr [b2,pb]).ext false G7.out (by simp) (by simp)).ext true G2.out (by simp;omega) (by simp)).ext true HSB.out (by simp;omega) (by simp)⟩;have k:=m.zK;clear HR;go_wp2_with (first|((with_reducible first|refine cU ?_|refine wU ?_);clear k m;intro w m k)|((with_reducible refine lE (fun w o g k K hK=>⟨rfl,?_⟩));simp[results,Tryz.results230,go_sem,k];refine hK _ ?_;exact⟨rfl,HEND.out w _ o (Has.h w g) rfl rfl⟩))
 subst hk7;rw[if_pos rfl] at HR;clear HEND HBK;have HSF:=aA (show (yX s as2).sa=as2/\(yX s as2).fl=s.fl from ⟨rfl,rfl⟩);have HPF:=aA (show (iV (yX s as2) ⟨x1,x2⟩ raw tol).sa=as2/\(iV (yX s as2) ⟨x1,x2⟩ raw tol).fl=s.fl from by unfold iV;split<;>(try split)<;>exact⟨rfl,rfl⟩)
 have HCT:=aA (fun w' (hc:mW w' P c1)=>show w'.cell? ⟨P.bc,1,none⟩=some (.int .i64 tol)/\w'.cell? ⟨P.bc,2,none⟩=some (.int .i64 prec)/\P.bc<w'.heap.size from by
  unfold mW at hc;rw[HCF.out,HTL.out,HPR.out] at hc;exact⟨aC hc 1,aC hc 2,aF hc⟩)
 have m:Mm wr [pb] wr _:=⟨(((((Mem.start wr [pb]).ext false HCL.out (by simp) (by simp)).ext false G0.out (by simp;omega) (by simp)).ext false G1.out (by simp;omega) (by simp)).ext false G7.out (by simp;omega) (by simp)).ext true HSB.out (by simp;omega) (by simp)⟩;have k:=m.zK;obtain⟨s2,hs2⟩:∃ s2:Sr,(if has=true then iV (yX s as2) ⟨x1,x2⟩ raw tol else yX s as2)=s2:=⟨_,rfl⟩;rw[hs2] at HR;have HS2:Hid (s2.sa=as2/\s2.fl=s.fl):=aA (by rw[<-hs2];split;exact HPF.out;exact HSF.out);rcases has with _ | _;all_goals simp only[Bool.false_eq_true,if_false,if_true] at hs2
 all_goals go_wp2_with ((with_reducible first|refine cU ?_|refine wU ?_);clear k m;intro w m k)
 focus
  have HZ:Hid (yK w pb pa pf s2):=aA (by rw[<-hs2];unfold yK yX;exact gB);have OZ:=aA m.zO;clear k m;obtain⟨wz,rfl⟩:∃ wz:World,wz=w:=⟨_,rfl⟩
 rotate_left
 focus
  refine (pProve (HCT.out w (by unfold mW;exact gB)).1 (HCT.out w (by unfold mW;exact gB)).2.2 (show yK w pb pa pf (yX s as2) from by unfold yK yX;exact gB) ⟨x1,x2⟩ raw hw1.1 hw1.2 hw2.1 hw2.2 d1).mono ?_;rintro e w5 ⟨rfl,hsb5,ho5⟩;have HZ:Hid (yK w5 pb pa pf s2):=aA (by rw[<-hs2];exact hsb5);have OZ:=aA (m.zO.trans ho5 (fun x hx=>.inl hx));clear k m hsb5 ho5;obtain⟨wz,rfl⟩:∃ wz:World,wz=w5:=⟨_,rfl⟩;have h0z:=OZ.out.got G0.out (by simp;omega);have h7z:=OZ.out.got G7.out (by simp;omega);have m:Mm wz [] wz _:=⟨((Mem.start wz []).ext false h0z (by simp) (by simp)).ext false h7z (by simp;omega) (by simp)⟩;have k:=m.zK;clear h0z h7z;go_wp2_with ((with_reducible first|refine cU ?_|refine wU ?_);clear k m;intro w m k)
  clear m k
 all_goals (
  have hclz:=OZ.out.got HCL.out (by simp;omega);have HCZ:=aA (HCT.out wz hclz);have hfz:jW wz pf s2.fl:=by rw[HS2.out.2];exact HF.out.kept OZ.out (by simp;omega)
  have HSA:=aA (show (mQ s2 (i+1) ⟨q1,q2,q3,q4,q5,q6,q7,q8,q9,q10,q11,q12,q13⟩ ⟨y1,y2,y3,y4⟩ prec tol).sa=as2 from by rw[<-HS2.out.1];unfold mQ;split<;>(try split)<;>rfl);refine (YQ HCZ.out.1 HCZ.out.2.1 HCZ.out.2.2 HZ.out hfz ⟨d8,hfz.lt⟩ i (by omega) hi2 ⟨q1,q2,q3,q4,q5,q6,q7,q8,q9,q10,q11,q12,q13⟩ HQ.out ⟨y1,y2,y3,y4⟩).mono ?_;rintro e w8 ⟨rfl,⟨hsb8,hf8⟩,ho8⟩;try dsimp only at HR
  generalize mQ s2 (i+1) ⟨q1,q2,q3,q4,q5,q6,q7,q8,q9,q10,q11,q12,q13⟩ ⟨y1,y2,y3,y4⟩ prec tol=s3 at HR hsb8 hf8 HSA;obtain rfl:=HR.out;have O8:=aA ((OZ.out.weak (S':=[pb,pf]) (by simp)).trans ho8 (fun x hx=>.inl hx));have h2:=O8.out.got G2.out (by simp;omega);have h7:=O8.out.got G7.out (by simp;omega);have HC8:=aA (show mW w8 P c1 from O8.out.got HCL.out (by simp;omega));have HA8:=aA (HA3.out.kept O8.out (by simp;omega));have O9:=aA (O3.out.trans O8.out (by simp))
  have HEND:=aA (fun w' (o:Oy [b2] w8 w')=>show (mW w' P c1/\tJ w' (pb,pa,pf) s3)/\Oy [P.bc,pb,pa,pf] wo w' from
   ⟨⟨o.got HC8.out (by simp;omega),o.got hsb8 (by simp;omega),by rw[HSA.out];exact HA8.out.kept o (by simp;omega),hf8.kept o (by simp;omega)⟩,O9.out.trans o (fun x hx=>.inr (by rw[mem_singleton.1 hx];exact f2))⟩)
  have m:Mm w8 [b2] w8 _:=⟨((Mem.start w8 [b2]).ext false h7 (by simp) (by simp)).ext true h2 (by simp;omega) (by simp)⟩;have k:=m.zK;clear h2 h7 HR;go_wp2_with (first|((with_reducible first|refine cU ?_|refine wU ?_);clear k m;intro w m k)|((with_reducible refine lE (fun w o g k K hK=>⟨rfl,?_⟩));simp[results,Tryz.results230,go_sem,k];refine hK _ ?_;exact⟨rfl,HEND.out w o⟩)))
end
section
open Go.RowKit
def KW (l:List Iv) (f:Int):Option Iv:=if f<0\/((l.filter bU).length:Int)<=f then none else rF l ((l.filter bU).length-f)
def jQ (raw tol:Int) (s:Sr):Iv:=if s.hp=true then lZ s.prf s.pat raw tol else N7
def ED (c:Cl) (raw:Int):Iv:=(KW (c.srcs.map (jQ raw c.cf.tol)) ((c.cf.servers-1) / 2)).getD N7
def vN (c:Cl) (raw:Int):Iv:=(vW (ED c raw) (lZ c.own c.owned raw c.cf.tol)).getD (ED c raw)
def nS (c:Cl) (raw:Int):Iv × Int:=if (aZ c raw).2=0 then (vN c raw,0) else (⟨0,0⟩,(aZ c raw).2)
def HonR (w1:World) (P:Pl) (c:Cl) (raw:Int) (vo vi:Value) (wr:World):Prop:=
 ∃ k:Nat,k<=P.ps.length/\vi=.int .i64 k/\Own rD 39 2 w1.heap.size wr vo ((c.srcs.take k).map (jQ raw c.cf.tol))/\Oy [] w1 wr
theorem YU {w:World} {p:Option Addr} {n cap:Nat} {l:List Iv} (hv:aU rD 2 w p n cap l) (hn:l.length<=48) (f:Int) (_h0: -9223372036854775000<=f) :
  Calls Tryz.prog 209 #[.slice p n cap,.int .i64 f] w fun e w'=>e=.returned (kK (KW l f))/\Oy [] w w':=by
 have HV:=aA hv;have HR:Hid (KW l f=if f<0\/((l.filter bU).length:Int)<=f then none else rF l ((l.filter bU).length-f)):=aA rfl;generalize KW l f=res at HR |-;have hfl:(l.filter bU).length<=48:=Nat.le_trans (List.length_filter_le _ _) hn;clear hv;go_enter Tryz.func209,Tryz.ntmps209
 go_upto_region 1 with (fail)
 refine aG (G:=fun w0=>Code.wp _ _ _ _ w0) ?_;intro w1 hb1 ho1 hs1;obtain⟨b1,hbe1⟩:∃ b,w.heap.size=b:=⟨_,rfl⟩;rw[hbe1] at hb1;rw[hbe1];have HN:Hid (w.heap.size<=b1):=aA (by omega);have B1:=aA hb1;have OO:=aA ho1;clear hb1 hs1 hbe1;replace HV:=aA (HV.out.kept ho1);clear ho1;have k1:=c_2 B1.out;go_wp2_with fail
 refine (BU HV.out hn).mono ?_;rintro e w2 ⟨⟨v,rfl,hown⟩,ho⟩;obtain⟨pp,cap',rfl,-⟩:=Own.dI (enc:=rD) (s:=2) iK hown;clear hown;clear k1;replace OO:=aA (OO.out.aB ho);replace B1:=aA (ho.got B1.out (by simp));replace HV:=aA (HV.out.kept ho);have k1:=c_2 B1.out;clear ho;generalize (l.filter bU).length=m at HR hfl |-;by_cases h1:f<0
 focus
  obtain rfl:res=none:=by have:=HR.out;simpa [h1] using this
  have a1:decide (f<0)=true:=eY h1
 rotate_left
 focus
  have a1:decide (f<0)=false:=dL h1;by_cases h2:(m:Int)<=f
  rotate_left
  focus
   have a2:decide ((m:Int)<=f)=false:=dL h2;have he:res=rF l (m-f):=by have:=HR.out;simpa [h1,h2] using this
   clear HR;obtain⟨d,hd⟩:∃ d,(m:Int)-f=d:=⟨_,rfl⟩;have r1:wrap .i64 ((m:Int)-f)=d:=by rw[wrap_i64];omega
   rw[hd] at he;have HH:=aA (fun (w':World) (hv:aU rD 2 w' p n cap l)=>pHull hv hn d);rw[<-he] at HH;clear hd h1 h2 hfl he
   cases res with
   | none =>
    unfold kK dV at HH;go_wp2_with fail
    refine (HH.out _ HV.out).mono ?_;rintro e w3 ⟨rfl,ho⟩;clear k1;replace OO:=aA (OO.out.aB ho);replace B1:=aA (ho.got B1.out (by simp));replace HV:=aA (HV.out.kept ho);clear ho;have k1:=c_2 B1.out;go_wp2;have HD:=aH (o:=1) (.int .i64 0) (aH (o:=0) (.int .i64 0) (B1.out));have e0:=aC HD 0;have e1:=aC HD 1;have le:=aF HD;refine bodyPost_ret (v:=.tuple #[.agg #[.int .i64 0,.int .i64 0],.bool false]) (by simp[results,Tryz.results209,go_sem,e0,e1]) rfl ⟨rfl,((OO.out.setCell (.inr HN.out) _).setCell (.inr HN.out) _)⟩
   | some x =>
    obtain⟨xl,xh⟩:=x;unfold kK dV at HH;dsimp only at HH;go_wp2_with fail
    refine (HH.out _ HV.out).mono ?_;rintro e w3 ⟨rfl,ho⟩;clear k1;replace OO:=aA (OO.out.aB ho);replace B1:=aA (ho.got B1.out (by simp));replace HV:=aA (HV.out.kept ho);clear ho;have k1:=c_2 B1.out;go_wp2;have HD:=aH (o:=1) (.int .i64 xh) (aH (o:=0) (.int .i64 xl) (B1.out));have e0:=aC HD 0;have e1:=aC HD 1;have le:=aF HD;refine bodyPost_ret (v:=.tuple #[.agg #[.int .i64 xl,.int .i64 xh],.bool true]) (by simp[results,Tryz.results209,go_sem,e0,e1]) rfl ⟨rfl,((OO.out.setCell (.inr HN.out) _).setCell (.inr HN.out) _)⟩
  obtain rfl:res=none:=by have:=HR.out;simpa [h1,h2] using this
  have a2:decide ((m:Int)<=f)=true:=eY h2
 rotate_left
 all_goals
  clear HR;go_wp2;have HD:=aH (o:=1) (.int .i64 0) (aH (o:=0) (.int .i64 0) (B1.out));have e0:=aC HD 0;have e1:=aC HD 1;have le:=aF HD;refine bodyPost_ret (v:=.tuple #[.agg #[.int .i64 0,.int .i64 0],.bool false]) (by simp[results,Tryz.results209,go_sem,e0,e1]) rfl ⟨rfl,((OO.out.setCell (.inr HN.out) _).setCell (.inr HN.out) _)⟩
theorem UD {w:World} {P:Pl} {c:Cl} (h:bP w P c) (hn:P.ps.length<=12) (hs1:1<=c.cf.servers) (hs2:c.cf.servers<=12) (raw:Int) (hr:∀ s∈c.srcs,-9223372036854775808<=raw-s.pat/\raw-s.pat<=9223372036854775807) :
  Calls Tryz.prog 198 #[.pointer (some ⟨P.bc,0,none⟩),.int .i64 raw] w fun e w'=>e=.returned (dV (ED c raw))/\Oy [] w w':=by
 have HC:=aA h;have hcs:P.ps.length=c.srcs.length:=h.len;have HE:Hid (ED c raw=(KW (c.srcs.map (jQ raw c.cf.tol)) ((c.cf.servers-1) / 2)).getD N7):=aA rfl;generalize ED c raw=res at HE |-;have HHR:=aA hr;have HCS:=aA hcs;have HSV:=aA (And.intro hs1 hs2);have HN12:=aA hn;have HEV:=aA (fun w'=>H8 w');unfold dV N7 at HEV;dsimp only at HEV;clear h hr hcs hs1 hs2;have hnn:=hn;clear hn;go_enter Tryz.func198,Tryz.ntmps198
 go_upto_region 2 with (fail)
 refine aG (G:=fun w0=>Code.wp _ _ _ _ w0) ?_;intro w1 hb1 ho1 hs1;obtain⟨b1,hbe1⟩:∃ b,w.heap.size=b:=⟨_,rfl⟩;rw[hbe1] at hb1;rw[hbe1];have HN:Hid (w.heap.size<=b1):=aA (by omega);have B1:=aA hb1;have OO:=aA ho1;clear hb1 hs1 hbe1;replace HC:=aA (HC.out.kept ho1);clear ho1;have k1:=c_2 B1.out;have kc:=nZ HC.out.cl;obtain⟨wa,rfl⟩:∃ wa:World,wa=w1:=⟨_,rfl⟩;go_wp2;go_loopw [5,16] (fun vo vi wr=>HonR wa P c raw vo vi wr) (fun _ vi _=>P.ps.length-(intOf vi).toNat)
 case atStart=>exact⟨0,Nat.zero_le _,rfl,bR _ _,aR _ _⟩
 case round =>
  obtain⟨k,hk,rfl,hown,ho⟩:=hrel;have OW:=aA hown;have OL:=aA ho;clear hown;clear k1 kc;replace OO:=aA (OO.out.aB ho);replace B1:=aA (ho.got B1.out (by simp));replace HC:=aA (HC.out.kept ho);have k1:=c_2 B1.out;have kc:=nZ HC.out.cl;clear ho;by_cases hlt:k<P.ps.length
  ·have hic:k<c.srcs.length:=HCS.out ▸ hlt
   obtain⟨s,hs⟩:∃ s,c.srcs[k]=s:=⟨_,rfl⟩;obtain⟨pb,pa,pf,hp⟩:∃ pb pa pf,P.ps[k]=(pb,pa,pf):=⟨_,_,_,rfl⟩;have hsr:=(HC.out.src k hlt hic).b;rw[hp,hs] at hsr;have hmem:s∈c.srcs:=hs ▸ getElem_mem hic;have HRW:=aA (HHR.out s hmem)
   have HSN:Hid ((c.srcs.take (k+1)).map (jQ raw c.cf.tol)=(c.srcs.take k).map (jQ raw c.cf.tol) ++ [jQ raw c.cf.tol s]):=aA (by
    rw[List.take_succ_eq_append_getElem hic,List.map_append,hs];rfl)
   have hfl:((c.srcs.take k).map (jQ raw c.cf.tol)).length<=k:=by rw[length_map,List.length_take];omega
   generalize (c.srcs.take k).map (jQ raw c.cf.tol)=acc at OW HSN hfl
   have cg:wr.cell? ⟨P.g,k,none⟩=some (.pointer (some ⟨pb,0,none⟩)):=by
    have:=HC.out.row.cell lH (i:=k) (j:=0) (x:=pb) (by rw[List.getElem?_map,List.getElem?_eq_getElem hlt,hp];rfl) (by decide);simpa [wZ] using this
   have lg:=HC.out.row.lt;have hi0:decide (k<P.ps.length)=true:=eY hlt;have hi1:decide ((k:Int)<(P.ps.length:Int))=true:=eY (by omega);have B2:=aA hsr;unfold yK at B2;clear hsr hs hp hmem hic;have k2:=OM B2.out;go_wp2_with fail
   refine (HEV.out _).mono ?_;rintro e w2 ⟨rfl,ho⟩;clear k1 kc k2;replace OO:=aA (OO.out.aB ho);replace B1:=aA (ho.got B1.out (by simp));replace B2:=aA (ho.got B2.out (by simp));replace HC:=aA (HC.out.kept ho);replace OW:=aA (OW.out.kept ho);replace OL:=aA (OL.out.aB ho);clear ho cg lg;have k1:=c_2 B1.out;have k2:=OM B2.out;have kc:=nZ HC.out.cl;have HC2:=HC;have OW2:=OW;have OL2:=OL;have O3:=aA (aR [] w2);go_upto_region 6 with (fail)
   refine aG (G:=fun w0=>Code.wp _ _ _ _ w0) ?_;intro w3 hb ho hs;obtain⟨b3,hbe⟩:∃ b,w2.heap.size=b:=⟨_,rfl⟩;rw[hbe] at hb;rw[hbe];have HN3:Hid (w.heap.size<=b3):=aA (by rw[<-hbe];exact OO.out.size);have HM3_1:Hid (b1≠b3):=aA (by omega);have HM3_2:Hid (pb≠b3):=aA (by omega);have HB3:Hid (w2.heap.size<=b3):=aA (by omega);clear k1 k2 kc;replace OO:=aA (OO.out.aB ho);replace B1:=aA (ho.got B1.out (by simp));replace B2:=aA (ho.got B2.out (by simp));have B3:=aA hb;replace HC:=aA (HC.out.kept ho);replace OW:=aA (OW.out.kept ho);replace OL:=aA (OL.out.aB ho);replace O3:=aA (O3.out.aB ho);clear hb ho hs hbe;have k1:=c_2 B1.out;have k2:=OM B2.out;have k3:=c_2 B3.out;have kc:=nZ HC.out.cl;have HX2:=aA (aF B2.out);obtain⟨pp,cap',rfl,-⟩:=Own.dI (enc:=rD) (s:=2) iK OW.out;by_cases hhp:s.hp=true
   ·have oa:bits .and .i64 (UO s.hr s.hp) 2=2:=by rw[hhp];cases s.hr<;>decide
    have HPX:Hid (jQ raw c.cf.tol s=lZ s.prf s.pat raw c.cf.tol):=aA (by unfold jQ;rw[if_pos hhp]);have HAG:=aA (fun (w':World) (h1:w'.cell? ⟨P.bc,1,none⟩=some (.int .i64 c.cf.tol)) (h2:P.bc<w'.heap.size)=>ZF h1 h2 s.prf s.pat raw HRW.out.1 HRW.out.2);generalize lZ s.prf s.pat raw c.cf.tol=ag at HAG HPX;obtain⟨o1,o2⟩:=ag;unfold dV at HAG;dsimp only at HAG;clear hhp;go_upto_region 7 with (fail)
    refine aP [0,1,2,3,4,5,6,7,8,9,10] [11] (by kernel_rfl) (by kernel_rfl) ?_;simp only[bV];iterate 10 (refine wpQuiet_step (fun K hK=>?_);go_simp;refine hK _ ?_;clear hK K)
    refine cK (by kernel_rfl) 200 #[.pointer (some ⟨P.bc,0,none⟩),.agg #[.int .i64 s.prf.lo,.int .i64 s.prf.hi],.int .i64 s.pat,.int .i64 raw] (fun _=>by kernel_rfl) (.agg #[.int .i64 o1,.int .i64 o2]) (eH (fun w' hw'=>HAG.out w' (aC (hw'.got HC.out.cl (by simp)) 1) (aF (hw'.got HC.out.cl (by simp))))) ?_;refine wpQuiet_nil ?_;intro w4 hw;have ho:=aN hw;clear hw;clear k1 k2 k3 kc;replace OO:=aA (OO.out.aB ho);replace B1:=aA (ho.got B1.out (by simp));replace B2:=aA (ho.got B2.out (by simp));replace B3:=aA (ho.got B3.out (by simp));replace HC:=aA (HC.out.kept ho);replace OW:=aA (OW.out.kept ho);replace OL:=aA (OL.out.aB ho);replace O3:=aA (O3.out.aB ho);have k1:=c_2 B1.out;have k2:=OM B2.out;have k3:=c_2 B3.out;have kc:=nZ HC.out.cl;clear ho;go_upto_region 8 with (fail)
    refine kZ (G:=fun w0=>Code.wp _ _ _ _ w0) (R:=fun w5=>w5.heap[b1]? = some (.cells #[.int .i64 0,.int .i64 0] 39 (0,0))/\w5.heap[pb]? = some (.cells #[.pointer (some ⟨pa,0,none⟩),.pointer (some ⟨pf,0,none⟩),.int .i64 (UO s.hr s.hp),.int .i64 s.rc.bits,.int .i64 s.rc.poll,.int .i64 s.rc.mn,.int .i64 s.rc.mx,.int .i64 s.rc.cnt,.int .i64 s.sent,.int .i64 s.hdr.leap,.int .i64 s.hdr.ver,.int .i64 s.hdr.mode,.int .i64 s.hdr.strat,.int .i64 s.hdr.poll,.int .i64 s.hdr.prec,.int .u32 s.hdr.rdel,.int .u32 s.hdr.rdsp,.int .u32 s.hdr.rid,.int .u64 s.hdr.ref,.int .u64 s.hdr.org,.int .u64 s.hdr.rcv,.int .u64 s.hdr.xmt,.int .i64 s.rt.str,.int .i64 s.rt.dly,.int .i64 s.rt.dsp,.int .u32 s.rt.ref,.int .i64 s.prf.lo,.int .i64 s.prf.hi,.int .i64 s.pat] 187 (0,0))/\w5.heap[b3]? = some (.cells #[.int .i64 o1,.int .i64 o2] 39 (0,0))/\Oy [] w w5/\bP w5 P c/\Own rD 39 2 wa.heap.size w5 (.slice pp acc.length cap') acc/\Oy [] wa w5) ⟨(iQ (.int .i64 o2) (iQ (.int .i64 o1) B1.out HM3_1.out) HM3_1.out),(iQ (.int .i64 o2) (iQ (.int .i64 o1) B2.out HM3_2.out) HM3_2.out),(aH (o:=1) (.int .i64 o2) (aH (o:=0) (.int .i64 o1) B3.out)),((OO.out.setCell (.inr HN3.out) _).setCell (.inr HN3.out) _),HC2.out.kept ((O3.out.setCell (.inr HB3.out) _).setCell (.inr HB3.out) _),OW2.out.kept ((O3.out.setCell (.inr HB3.out) _).setCell (.inr HB3.out) _),OL2.out.aB ((O3.out.setCell (.inr HB3.out) _).setCell (.inr HB3.out) _)⟩ ?_;rintro w5 ⟨g1,g2,g3,ho,q0,q1,q2⟩;clear k1 k2 k3 kc;replace B1:=aA g1;replace B2:=aA g2;replace B3:=aA g3;replace OO:=aA ho;replace HC:=aA q0;replace OW:=aA q1;replace OL:=aA q2;clear ho g1 g2 g3;have k1:=c_2 B1.out;have k2:=OM B2.out;have k3:=c_2 B3.out;have kc:=nZ HC.out.cl;clear O3 HC2 OW2 OL2;go_wp2_with (at_builtin;refine aW ?_)
    refine aG (G:=fun w0=>Stop (wpList _ _ _ _ _ w0)) ?_;intro w8 hb ho hs8;have B5:=aA hb;clear k1 k2 k3 kc;replace OO:=aA (OO.out.aB ho);replace B1:=aA (ho.got B1.out (by simp));replace B2:=aA (ho.got B2.out (by simp));replace B3:=aA (ho.got B3.out (by simp));replace HC:=aA (HC.out.kept ho);replace OW:=aA (OW.out.kept ho);replace OL:=aA (OL.out.aB ho);have k1:=c_2 B1.out;have k2:=OM B2.out;have k3:=c_2 B3.out;have kc:=nZ HC.out.cl;clear hb ho;refine bH ?_;refine bK (w0:=wa) rfl _ _ 348 rfl 39 (.agg #[.int .i64 0,.int .i64 0]) 2 16 Tryz.underlying348 (by kernel_rfl) rfl (by decide) rD iK zU acc _ rfl OW.out w5.heap.size ⟨o1,o2⟩ rfl (fun j u hj=>?_) (by simp[maxLen];omega) (by omega) OL.out ?_
    ·rw[aC B5.out,<-hj];simp[rD]
    intro v9 w9 hown9 ho9 _;go_wp2;go_roundw
    case rel=>exact⟨k+1,by omega,by go_num,by rw[HSN.out,HPX.out];exact hown9,ho9⟩
    case measure=>first|(simp[intOf];done)|(simp[intOf];omega)
   ·have oa:bits .and .i64 (UO s.hr s.hp) 2=0:=by rw[show s.hp=false by simpa using hhp];cases s.hr<;>decide
    have HPX:Hid (jQ raw c.cf.tol s=⟨-4503599627370496,4503599627370496⟩):=aA (by unfold jQ;rw[if_neg hhp];rfl);clear hhp;go_wp2_with (at_builtin;refine aW ?_)
    refine aG (G:=fun w0=>Stop (wpList _ _ _ _ _ w0)) ?_;intro w8 hb ho hs8;have B5:=aA hb;clear k1 k2 k3 kc;replace OO:=aA (OO.out.aB ho);replace B1:=aA (ho.got B1.out (by simp));replace B2:=aA (ho.got B2.out (by simp));replace B3:=aA (ho.got B3.out (by simp));replace HC:=aA (HC.out.kept ho);replace OW:=aA (OW.out.kept ho);replace OL:=aA (OL.out.aB ho);have k1:=c_2 B1.out;have k2:=OM B2.out;have k3:=c_2 B3.out;have kc:=nZ HC.out.cl;clear hb ho;refine bH ?_;refine bK (w0:=wa) rfl _ _ 348 rfl 39 (.agg #[.int .i64 0,.int .i64 0]) 2 16 Tryz.underlying348 (by kernel_rfl) rfl (by decide) rD iK zU acc _ rfl OW.out w3.heap.size ⟨-4503599627370496,4503599627370496⟩ rfl (fun j u hj=>?_) (by simp[maxLen];omega) (by omega) OL.out ?_
    ·rw[aC B5.out,<-hj];simp[rD]
    intro v9 w9 hown9 ho9 _;go_wp2;go_roundw
    case rel=>exact⟨k+1,by omega,by go_num,by rw[HSN.out,HPX.out];exact hown9,ho9⟩
    case measure=>first|(simp[intOf];done)|(simp[intOf];omega)
  ·obtain rfl:k=P.ps.length:=by omega
   have HT:Hid ((c.srcs.take P.ps.length).map (jQ raw c.cf.tol)=c.srcs.map (jQ raw c.cf.tol)):=aA (by rw[List.take_of_length_le (by rw[HCS.out];exact Nat.le_refl _)]);rw[HT.out] at OW;have hi1:decide ((P.ps.length:Int)<(P.ps.length:Int))=false:=by simp
   have hll:(c.srcs.map (jQ raw c.cf.tol)).length<=48:=by rw[length_map,<-HCS.out];omega
   obtain⟨f,hf⟩:∃ f,(c.cf.servers-1) / 2=f:=⟨_,rfl⟩;obtain⟨sm,hsm⟩:∃ sm,c.cf.servers-1=sm:=⟨_,rfl⟩;have r1:wrap .i64 (c.cf.servers-1)=sm:=by rw[wrap_i64];have:=HSV.out;omega
   have r2:sm.tdiv 2=f:=by have:=HSV.out;rw[Int.tdiv_eq_ediv_of_nonneg (by omega)];omega
   have r3:wrap .i64 f=f:=by rw[wrap_i64];have:=HSV.out;omega
   have hf0: -9223372036854775000<=f:=by have:=HSV.out;omega
   rw[hf] at HE;obtain⟨pp,cap',rfl,hvr⟩:=Own.dI (enc:=rD) (s:=2) iK OW.out;have HVR:=aA hvr;clear hvr hf hsm HT;generalize c.srcs.map (jQ raw c.cf.tol)=l at HE HVR hll OW |-;have HH:=aA (fun (w':World) (hv:aU rD 2 w' pp l.length cap' l)=>YU hv hll f hf0);generalize KW l f=ho at HE HH;go_wp2_with fail
   cases ho with
   | none =>
    obtain rfl:res=⟨-4503599627370496,4503599627370496⟩:=HE.out;unfold kK dV at HH;dsimp only at HH;refine (HH.out _ HVR.out).mono ?_;rintro e w2 ⟨rfl,ho⟩;clear k1 kc;replace OO:=aA (OO.out.aB ho);replace B1:=aA (ho.got B1.out (by simp));clear ho;have k1:=c_2 B1.out;go_upto_region 11 with (fail)
    refine aG (G:=fun w0=>Code.wp _ _ _ _ w0) ?_;intro w3 hb ho hs;obtain⟨b2,hbe⟩:∃ b,w2.heap.size=b:=⟨_,rfl⟩;rw[hbe] at hb;rw[hbe];have HN2:Hid (w.heap.size<=b2):=aA (by rw[<-hbe];exact OO.out.size);have HM2_1:Hid (b1≠b2):=aA (by omega);clear k1;replace OO:=aA (OO.out.aB ho);replace B1:=aA (ho.got B1.out (by simp));have B2:=aA hb;clear hb ho hs hbe;have k1:=c_2 B1.out;have k2:=c_2 B2.out;go_wp2_with fail
    refine (HEV.out _).mono ?_;rintro e w4 ⟨rfl,ho⟩;clear k1 k2;replace OO:=aA (OO.out.aB ho);replace B1:=aA (ho.got B1.out (by simp));replace B2:=aA (ho.got B2.out (by simp));clear ho;have k1:=c_2 B1.out;have k2:=c_2 B2.out;go_wp2;have HD:=aH (o:=1) (.int .i64 4503599627370496) (aH (o:=0) (.int .i64 (-4503599627370496)) (B1.out));have e0:=aC HD 0;have e1:=aC HD 1;have le:=aF HD;refine bodyPost_ret (v:=.agg #[.int .i64 (-4503599627370496),.int .i64 4503599627370496]) (by simp[results,Tryz.results198,go_sem,e0,e1]) rfl ⟨rfl,((OO.out.setCell (.inr HN.out) _).setCell (.inr HN.out) _)⟩
   | some x =>
    obtain⟨xl,xh⟩:=x;obtain rfl:res=⟨xl,xh⟩:=HE.out;unfold kK dV at HH;dsimp only at HH;refine (HH.out _ HVR.out).mono ?_;rintro e w2 ⟨rfl,ho⟩;clear k1 kc;replace OO:=aA (OO.out.aB ho);replace B1:=aA (ho.got B1.out (by simp));clear ho;have k1:=c_2 B1.out;go_upto_region 11 with (fail)
    refine aG (G:=fun w0=>Code.wp _ _ _ _ w0) ?_;intro w3 hb ho hs;obtain⟨b2,hbe⟩:∃ b,w2.heap.size=b:=⟨_,rfl⟩;rw[hbe] at hb;rw[hbe];have HN2:Hid (w.heap.size<=b2):=aA (by rw[<-hbe];exact OO.out.size);have HM2_1:Hid (b1≠b2):=aA (by omega);clear k1;replace OO:=aA (OO.out.aB ho);replace B1:=aA (ho.got B1.out (by simp));have B2:=aA hb;clear hb ho hs hbe;have k1:=c_2 B1.out;have k2:=c_2 B2.out;go_wp2;have HD:=aH (o:=1) (.int .i64 xh) (aH (o:=0) (.int .i64 xl) (B1.out));have e0:=aC HD 0;have e1:=aC HD 1;have le:=aF HD;refine bodyPost_ret (v:=.agg #[.int .i64 xl,.int .i64 xh]) (by simp[results,Tryz.results198,go_sem,e0,e1]) rfl ⟨rfl,((OO.out.setCell (.inr HN.out) _).setCell (.inr HN.out) _)⟩
theorem BZ {w:World} {P:Pl} {c:Cl} (h:bP w P c) (hn:P.ps.length<=12) (hs1:1<=c.cf.servers) (hs2:c.cf.servers<=12) (raw:Int) (hr:∀ s∈c.srcs,-9223372036854775808<=raw-s.pat/\raw-s.pat<=9223372036854775807) (ho0: -9223372036854775808<=raw-c.owned) (ho1:raw-c.owned<=9223372036854775807) :
  Calls Tryz.prog 183 #[.pointer (some ⟨P.bc,0,none⟩),.int .i64 raw] w fun e w'=>e=.returned (dV (vN c raw))/\Oy [] w w':=by
 have HH:=aA (fun w' (o:Oy [] w w')=>UD (h.kept o) hn hs1 hs2 raw hr)
 have HAG:=aA (fun w' (o:Oy [] w w')=>by
  have hc:=(h.kept o).cl;unfold mW at hc;exact ZF (aC hc 1) (aF hc) c.own c.owned raw ho0 ho1)
 obtain⟨res,HE⟩:∃ zz,Hid (vN c raw=zz):=⟨_,aA rfl⟩;rw[HE.out];unfold vN at HE;have HM:=aA (fun w'=>pMeet (ED c raw) (lZ c.own c.owned raw c.cf.tol) w');generalize vW (ED c raw) (lZ c.own c.owned raw c.cf.tol)=mt at HM HE;generalize ED c raw=hh at HH HM HE;generalize lZ c.own c.owned raw c.cf.tol=ag at HAG HM;obtain⟨a1,a2⟩:=hh;obtain⟨b1,b2⟩:=ag;have hl:=h.cl;unfold mW at hl;rcases mt with _|⟨e1,e2⟩
 focus
  skip
 rotate_left 1
 focus
  skip
 all_goals
  simp only[Q7,dV] at HH HM HAG;first|(simp only[Option.getD_none] at HE)|(simp only[Option.getD_some] at HE)
  obtain rfl:=HE.out;clear HE;have m:=iX hl;have k:=m.zK;clear hl;go_enter Tryz.func183,Tryz.ntmps183
  go_wp2_with (first|((with_reducible first|refine cU ?_|refine cM (HH.out _ m.zO) ?_|refine wU ?_);clear k m;intro w m k)|((with_reducible refine rA (id:=2) [0,1,2,3,4,5,6,7,8,9,10,11,12,13,14] [15] 16 [17,18] (by kernel_rfl) (by kernel_rfl) ?_);simp only[bV];(repeat (first|(refine aQ (fun K hK=>?_);go_simp;refine hK _ ?_;clear hK K)|(refine cG (by kernel_rfl) ⟨_,_,_,?_,fun w' o=>HAG.out w' (m.zO.aB o),?_⟩;(focus (intro w;go_simp;done)))|(refine cG (by kernel_rfl) ⟨_,_,_,?_,fun w' o=>HM.out w',?_⟩;(focus (intro w;go_simp;done)))));refine aS ?_;(repeat (refine aJ (fun K hK=>?_);go_simp;refine hK _ ?_;clear hK K));refine aK ?_;clear k m;intro w o m k;refine aD rfl ?_;go_wp2;simp only[bA];refine⟨o.alloc _,tW ?_⟩;clear o;clear k m;intro w m k;unfold aV;refine aD rfl ?_;go_wp2;simp only[bA];refine tW ?_;clear k m;intro w m k;unfold aV;refine aD rfl ?_;go_wp2;simp only[bA];refine tW ?_;clear k m;intro w m k;unfold aV)|((with_reducible refine lE (fun w o g k K hK=>⟨rfl,?_⟩));simp[results,Tryz.results183,go_sem,k];refine hK _ ?_;exact⟨rfl,o⟩))
theorem KH {w:World} {P:Pl} {c:Cl} (h:bP w P c) (hok:jE c.ck) (hn:P.ps.length<=12) (hs1:1<=c.cf.servers) (hs2:c.cf.servers<=12) (raw:Int) (h0: -9223372036854775808<=raw) (h1:raw<=9223372036854775807) (hr:(aZ c raw).2=0->∀ s∈c.srcs,-9223372036854775808<=raw-s.pat/\raw-s.pat<=9223372036854775807) (ho0:(aZ c raw).2=0-> -9223372036854775808<=raw-c.owned/\raw-c.owned<=9223372036854775807) :
  Calls Tryz.prog 176 #[.pointer (some ⟨P.bc,0,none⟩),.int .i64 raw] w fun e w'=>e=.returned (.tuple #[dV (nS c raw).1,.int .i64 (nS c raw).2])/\Oy [] w w':=by
 have HC:=aA h;have HE:Hid (nS c raw=if (aZ c raw).2=0 then (vN c raw,0) else (⟨0,0⟩,(aZ c raw).2)):=aA rfl;generalize nS c raw=res at HE |-;have HNW:=aA (fun (w':World) (h:bP w' P c)=>CB h hok raw h0 h1);have HH:=aA (fun (w':World) (hz:(aZ c raw).2=0) (h:bP w' P c)=>BZ h hn hs1 hs2 raw (hr hz) (ho0 hz).1 (ho0 hz).2);generalize aZ c raw=nn at HNW HE HH;generalize vN c raw=ren at HH HE;obtain⟨nv,ne⟩:=nn;obtain⟨r1,r2⟩:=ren;unfold dV at HH |-;dsimp only at HNW HH HE |-;clear h hr ho0;go_enter Tryz.func176,Tryz.ntmps176
 go_upto_region 1 with (fail)
 refine aG (G:=fun w0=>Code.wp _ _ _ _ w0) ?_;intro w1 hb1 ho1 hs1;obtain⟨b1,hbe1⟩:∃ b,w.heap.size=b:=⟨_,rfl⟩;rw[hbe1] at hb1;rw[hbe1];have HN:Hid (w.heap.size<=b1):=aA (by omega);have B1:=aA hb1;have OO:=aA ho1;clear hb1 hs1 hbe1;replace HC:=aA (HC.out.kept ho1);clear ho1;have k1:=c_2 B1.out;go_wp2_with fail
 refine (HNW.out _ HC.out).mono ?_;rintro e w2 ⟨rfl,ho⟩;clear k1;replace OO:=aA (OO.out.aB ho);replace B1:=aA (ho.got B1.out (by simp));replace HC:=aA (HC.out.kept ho);clear ho;have k1:=c_2 B1.out;by_cases hz:ne=0
 ·subst hz
  obtain rfl:res=(⟨r1,r2⟩,0):=by have:=HE.out;simpa using this
  clear HE HNW;go_wp2_with fail
  refine (HH.out _ trivial HC.out).mono ?_;rintro e w3 ⟨rfl,ho⟩;clear k1;replace OO:=aA (OO.out.aB ho);replace B1:=aA (ho.got B1.out (by simp));replace HC:=aA (HC.out.kept ho);clear ho;have k1:=c_2 B1.out;go_wp2;have HD:=aH (o:=1) (.int .i64 r2) (aH (o:=0) (.int .i64 r1) (B1.out));have e0:=aC HD 0;have e1:=aC HD 1;have le:=aF HD;refine bodyPost_ret (v:=.tuple #[.agg #[.int .i64 r1,.int .i64 r2],.int .i64 0]) (by simp[results,Tryz.results176,go_sem,e0,e1]) rfl ⟨rfl,((OO.out.setCell (.inr HN.out) _).setCell (.inr HN.out) _)⟩
 ·have q1:(ne != 0)=true:=by simpa using hz
  obtain rfl:res=(⟨0,0⟩,ne):=by have:=HE.out;simpa [hz] using this
  clear HE HNW HH hz;go_wp2;have HD:=aH (o:=1) (.int .i64 0) (aH (o:=0) (.int .i64 0) (B1.out));have e0:=aC HD 0;have e1:=aC HD 1;have le:=aF HD;refine bodyPost_ret (v:=.tuple #[.agg #[.int .i64 0,.int .i64 0],.int .i64 ne]) (by simp[results,Tryz.results176,go_sem,e0,e1]) rfl ⟨rfl,((OO.out.setCell (.inr HN.out) _).setCell (.inr HN.out) _)⟩
end
section
open Go.RowKit
theorem bP.put {w w':World} {P:Pl} {c c':Cl} {S:List Nat} {s':Sr} (h:bP w P c) (i:Nat) (hi:i<P.ps.length) (ho:Oy S w w') (hS:∀ x∈S,x∈[P.bc,P.ps[i].1,P.ps[i].2.1,P.ps[i].2.2]) (hb:mW w' P c') (h1:c'.ck=c.ck) (h2:c'.sv=c.sv) (hs:tJ w' P.ps[i] s') :
  bP w' P { c' with srcs:=c.srcs.set i s' }:=by
 have hnd:=h.nd;unfold Pl.all at hnd;simp only[List.nodup_cons,mem_cons,not_or] at hnd;obtain⟨⟨n1,n2,n3,n4⟩,⟨n5,n6,n7⟩,⟨n8,n9⟩,n10,n11⟩:=hnd
 have key:∀ b,b≠P.bc->b ∉ (P.ps.flatMap fun p=>[p.1,p.2.1,p.2.2])->b ∉ S:=fun b h1 hb hm=>by
  rcases mem_cons.1 (hS b hm) with e|hm
  ·exact h1 e
  ·exact hb (mem_flatMap.2 ⟨P.ps[i],getElem_mem hi,hm⟩)
 refine⟨hb,?_,?_,h.row.kept ho (key _ (Ne.symm n3) n10),by simpa using h.len,?_,h.nd,fun b hb=>Nat.lt_of_lt_of_le (h.lt b hb) ho.size⟩
 ·exact h1 ▸ ho.got h.ck (key _ (Ne.symm n1) n7)
 ·exact h2 ▸ ho.got h.sv (key _ (Ne.symm n2) n9)
 intro j hj hj';by_cases e:i=j
 ·subst e
  simpa using hs
 ·have hjc:j<c.srcs.length:=h.len ▸ hj
  have ap:∀ x∈[P.ps[j].1,P.ps[j].2.1,P.ps[j].2.2],x ∉ S:=fun x hx hm=>by
   rcases mem_cons.1 (hS x hm) with e'|hm
   ·exact n4 (e' ▸ mem_flatMap.2 ⟨P.ps[j],getElem_mem hj,hx⟩)
   ·exact oZ (f:=fun p:Nat × Nat × Nat=>[p.1,p.2.1,p.2.2]) hj hi n11 (Ne.symm e) x hx hm
  have:=(h.src j hj hjc).kept ho (ap _ (by simp)) (ap _ (by simp)) (ap _ (by simp));simpa [List.getElem_set_ne e] using this
theorem Pl.PW {P:Pl} {i:Nat} (hi:i<P.ps.length):∀ x∈[P.bc,P.ps[i].1,P.ps[i].2.1,P.ps[i].2.2],x∈P.all:=by
 intro x hx;unfold Pl.all;rcases mem_cons.1 hx with rfl|hx
 ·simp
 ·simp only[mem_cons]
  exact .inr (.inr (.inr (.inr (mem_flatMap.2 ⟨P.ps[i],getElem_mem hi,hx⟩))))
set_option synthInstance.maxSize 2000 in
set_option synthInstance.maxHeartbeats 400000 in
theorem EZ {w:World} {P:Pl} {c:Cl} (h:bP w P c) (hok:jE c.ck) (raw:Int) (h0: -9223372036854775808<=raw) (h1:raw<=9223372036854775807) (server:Int) (nonce:Int) (hno:bZ server 0 (P.ps.length-1)=true->(aI c raw).2.1≠0) :
  Calls Tryz.prog 146 #[.pointer (some ⟨P.bc,0,none⟩),.int .i64 server,.int .i64 raw,.int .u64 nonce] w fun e w'=>e=.returned (.tuple #[iR zA,.int .i64 (if bZ server 0 (P.ps.length-1)=true then (aI c raw).2.1 else 3)])/\mW w' P (if bZ server 0 (P.ps.length-1)=true then (aI c raw).2.2 else c)/\Oy [P.bc] w w':=by
 have hl:=h.cl;unfold mW at hl;have HC:=aA h;have lbc:=h.lt P.bc (by simp[Pl.all]);have HEN:=aA (fun w' (o:Oy [] w w')=>qQ (h.kept o) hok raw h0 h1)
 have hn12:P.ps.length<=9223372036854775807:=by
  obtain⟨cur,_,_,g1,g2,_⟩:=h.row;rw[length_map] at g1;exact Nat.le_trans (Nat.le_trans g1 g2) (by decide)
 have r1:wrap .i64 ((P.ps.length:Int)-1)=(P.ps.length:Int)-1:=by rw[wrap_i64];omega
 have HO:=aA (fun w'=>gK server 0 ((P.ps.length:Int)-1) w');unfold iR zA;dsimp only;by_cases hw:bZ server 0 ((P.ps.length:Int)-1)=true
 rotate_left
 focus
  have hw2:bZ server 0 ((P.ps.length:Int)-1)=false:=by simpa using hw
  simp only[if_neg hw];rw[hw2] at HO;clear hno hw hw2 HEN h;have m:=iX hl;have k:=m.zK;go_enter Tryz.func146,Tryz.ntmps146
  go_wp2_with (first|((with_reducible first|refine cU ?_|refine cM (HO.out _) ?_|refine wU ?_);clear k m;intro w m k)|((with_reducible refine lE (fun w o g k K hK=>⟨rfl,?_⟩));simp[results,Tryz.results146,go_sem,k];refine hK _ ?_;exact⟨rfl,(HC.out.kept o).cl,o.weak (by simp)⟩))
 have he:=hno hw;simp only[if_pos hw];rw[hw] at HO;have q1:((aI c raw).2.1 != 0)=true:=by simpa using he
 generalize aI c raw=ce at HEN he q1 |-;obtain⟨now,er,c1⟩:=ce;dsimp only at HEN he q1 |-;clear hno hw h;obtain⟨wo,rfl⟩:∃ wo:World,wo=w:=⟨_,rfl⟩;have m:=iX hl;have k:=m.zK;clear hl HC;go_enter Tryz.func146,Tryz.ntmps146
 go_wp2_with ((with_reducible first|refine cU ?_|refine cM (HO.out _) ?_|refine wU ?_);clear k m;intro w m k)
 obtain⟨b2,e2,g2,f2,n2⟩:=m.box0 rfl;rw[<-e2];clear n2 e2;refine (HEN.out _ m.zO).mono ?_;rintro e w2 ⟨rfl,hcb,ho2⟩;have hb2:=ho2.got g2 (by simp;omega);have O2:=aA ((m.zO.weak (S':=[P.bc]) (by simp)).trans ho2 (by simp));have HFIN:=aA (fun w' (o:Oy [b2] w2 w')=>show mW w' P c1/\Oy [P.bc] wo w' from ⟨o.got hcb (by simp;omega),O2.out.trans o (fun x hx=>.inr (by rw[mem_singleton.1 hx];exact f2))⟩);clear k m HEN hcb ho2 g2;have m:=kV hb2;have k:=m.zK;clear hb2;go_wp2_with (first|((with_reducible first|refine cU ?_|refine wU ?_);clear k m;intro w m k)|((with_reducible refine lE (fun w o g k K hK=>⟨rfl,?_⟩));simp[results,Tryz.results146,go_sem,k];refine hK _ ?_;exact⟨rfl,HFIN.out w o⟩))
set_option synthInstance.maxSize 2000 in
set_option synthInstance.maxHeartbeats 400000 in
theorem vS {w:World} {P:Pl} {c:Cl} (h:bP w P c) (hok:jE c.ck) (raw:Int) (h0: -9223372036854775808<=raw) (h1:raw<=9223372036854775807) (server:Int) (p:Np) (iv:Iv) (has:Bool) (hno:bZ server 0 (P.ps.length-1)=true->(aI c raw).2.1≠0) :
  Calls Tryz.prog 230 #[.pointer (some ⟨P.bc,0,none⟩),.int .i64 server,iR p,dV iv,.bool has,.int .i64 raw] w fun e w'=>e=.returned (.tuple #[JL (MJ 0),.int .i64 (if bZ server 0 (P.ps.length-1)=true then (aI c raw).2.1 else 3)])/\mW w' P (if bZ server 0 (P.ps.length-1)=true then (aI c raw).2.2 else c)/\Oy [P.bc] w w':=by
 have hl:=h.cl;unfold mW at hl;have HC:=aA h;have lbc:=h.lt P.bc (by simp[Pl.all]);have HEN:=aA (fun w' (o:Oy [] w w')=>qQ (h.kept o) hok raw h0 h1)
 have hn12:P.ps.length<=9223372036854775807:=by
  obtain⟨cur,_,_,g1,g2,_⟩:=h.row;rw[length_map] at g1;exact Nat.le_trans (Nat.le_trans g1 g2) (by decide)
 have r1:wrap .i64 ((P.ps.length:Int)-1)=(P.ps.length:Int)-1:=by rw[wrap_i64];omega
 have HO:=aA (fun w'=>gK server 0 ((P.ps.length:Int)-1) w');obtain⟨q1,q2,q3,q4,q5,q6,q7,q8,q9,q10,q11,q12,q13⟩:=p;obtain⟨x1,x2⟩:=iv;unfold JL MJ iR dV;dsimp only;by_cases hw:bZ server 0 ((P.ps.length:Int)-1)=true
 rotate_left
 focus
  have hw2:bZ server 0 ((P.ps.length:Int)-1)=false:=by simpa using hw
  simp only[if_neg hw];rw[hw2] at HO;clear hno hw hw2 HEN h;have m:=iX hl;have k:=m.zK;go_enter Tryz.func230,Tryz.ntmps230
  go_upto_region 1 with (fail)
  refine wU ?_;clear k m;intro w m k;go_wp2_with (first|((with_reducible first|refine cU ?_|refine cM (HO.out _) ?_|refine wU ?_);clear k m;intro w m k)|((with_reducible refine lE (fun w o g k K hK=>⟨rfl,?_⟩));simp[results,Tryz.results230,go_sem,k];refine hK _ ?_;exact⟨rfl,(HC.out.kept o).cl,o.weak (by simp)⟩))
 have he:=hno hw;simp only[if_pos hw];rw[hw] at HO;have q1:((aI c raw).2.1 != 0)=true:=by simpa using he
 generalize aI c raw=ce at HEN he q1 |-;obtain⟨now,er,c1⟩:=ce;dsimp only at HEN he q1 |-;clear hno hw h;obtain⟨wo,rfl⟩:∃ wo:World,wo=w:=⟨_,rfl⟩;have m:=iX hl;have k:=m.zK;clear hl HC;go_enter Tryz.func230,Tryz.ntmps230
 go_upto_region 1 with (fail)
 refine wU ?_;clear k m;intro w m k;go_wp2_with ((with_reducible first|refine cU ?_|refine cM (HO.out _) ?_|refine wU ?_);clear k m;intro w m k)
 obtain⟨b2,e2,g2,f2,n2⟩:=m.box0 rfl;rw[<-e2];clear n2 e2;refine (HEN.out _ m.zO).mono ?_;rintro e w2 ⟨rfl,hcb,ho2⟩;have hb2:=ho2.got g2 (by simp;omega);have O2:=aA ((m.zO.weak (S':=[P.bc]) (by simp)).trans ho2 (by simp));have HFIN:=aA (fun w' (o:Oy [b2] w2 w')=>show mW w' P c1/\Oy [P.bc] wo w' from ⟨o.got hcb (by simp;omega),O2.out.trans o (fun x hx=>.inr (by rw[mem_singleton.1 hx];exact f2))⟩);clear k m HEN hcb ho2 g2;have m:=kV hb2;have k:=m.zK;clear hb2;go_wp2_with (first|((with_reducible first|refine cU ?_|refine wU ?_);clear k m;intro w m k)|((with_reducible refine lE (fun w o g k K hK=>⟨rfl,?_⟩));simp[results,Tryz.results230,go_sem,k];refine hK _ ?_;exact⟨rfl,HFIN.out w o⟩))
def dP (c:Cl) (server raw nonce:Int):(Np × Int) × Cl:=
 if bZ server 0 (c.srcs.length-1)=true then
  (if (aI c raw).2.1=0 then (((iF (c.srcs.getD server.toNat (pU c.cf)) raw (aI c raw).1 nonce).1,(iF (c.srcs.getD server.toNat (pU c.cf)) raw (aI c raw).1 nonce).2.1),{ (aI c raw).2.2 with srcs:=c.srcs.set server.toNat (iF (c.srcs.getD server.toNat (pU c.cf)) raw (aI c raw).1 nonce).2.2 })
  else ((zA,(aI c raw).2.1),c))
 else ((zA,3),c)
def fJ (c:Cl) (server:Int) (p:Np) (iv:Iv) (has:Bool) (raw:Int):(Hd × Int) × Cl:=
 if bZ server 0 (c.srcs.length-1)=true then
  (if (aI c raw).2.1=0 then (((kJ (c.srcs.getD server.toNat (pU c.cf)) server p iv has raw (aI c raw).1 c.cf.prec c.cf.tol).1,0),{ (aI c raw).2.2 with srcs:=c.srcs.set server.toNat (kJ (c.srcs.getD server.toNat (pU c.cf)) server p iv has raw (aI c raw).1 c.cf.prec c.cf.tol).2 })
  else ((MJ 0,(aI c raw).2.1),c))
 else ((MJ 0,3),c)
theorem DK {c:Cl} {raw:Int} (h:(aI c raw).2.1≠0):(aI c raw).2.2=c:=by
 unfold aI at *;split
 ·rename_i hh;rw[if_pos hh] at h;exact absurd rfl h
 ·rfl
theorem cSend {w:World} {P:Pl} {c:Cl} (h:bP w P c) (hok:jE c.ck) (raw:Int) (h0: -9223372036854775808<=raw) (h1:raw<=9223372036854775807) (server nonce:Int) :
  Calls Tryz.prog 146 #[.pointer (some ⟨P.bc,0,none⟩),.int .i64 server,.int .i64 raw,.int .u64 nonce] w fun e w'=>e=.returned (.tuple #[iR (dP c server raw nonce).1.1,.int .i64 (dP c server raw nonce).1.2])/\bP w' P (dP c server raw nonce).2/\Oy P.all w w':=by
 have hlen:=h.len;have hbc:∀ x∈[P.bc],x∈P.all:=fun x hx=>by simp only[mem_cons,not_mem_nil,or_false] at hx;subst hx;unfold Pl.all;simp
 unfold dP;by_cases hw:bZ server 0 (c.srcs.length-1)=true
 ·rw[if_pos hw]
  by_cases he:(aI c raw).2.1=0
  ·rw[if_pos he]
   have hb:=aY.1 hw;obtain⟨i,rfl⟩:∃ i:Nat,server=i:=⟨server.toNat,by omega⟩;have hi:i<P.ps.length:=by omega
   have hic:i<c.srcs.length:=by omega
   rw[show c.srcs.getD (i:Int).toNat (pU c.cf)=c.srcs[i] by simp[hic]];refine (pClSend h hok raw h0 h1 nonce i hi he).mono ?_;rintro e w' ⟨_,rfl,⟨hB,hS⟩,ho⟩;have hs:=fV c raw;have hp:=h.put i hi (ho.weak (S':=[P.bc,P.ps[i].1,P.ps[i].2.1,P.ps[i].2.2]) (by intro x hx;simp only[mem_cons,not_mem_nil,or_false] at hx |-;omega)) (fun x hx=>hx) hB hs.1 hs.2.1 hS;exact⟨rfl,hp,(ho.weak (S':=[P.bc,P.ps[i].1,P.ps[i].2.1,P.ps[i].2.2]) (by intro x hx;simp only[mem_cons,not_mem_nil,or_false] at hx |-;omega)).weak (Pl.PW hi)⟩
  ·rw[if_neg he]
   refine (EZ h hok raw h0 h1 server nonce (fun _=>he)).mono ?_;rintro e w' ⟨rfl,hB,ho⟩;rw[hlen,if_pos hw] at hB |-;have hs:=fV c raw;have hp:=h.TI ho hB hs.1 hs.2.1 hs.2.2;rw[DK he] at hp;exact⟨rfl,hp,ho.weak hbc⟩
 ·rw[if_neg hw]
  refine (EZ h hok raw h0 h1 server nonce (fun hh=>absurd (hlen ▸ hh) hw)).mono ?_;rintro e w' ⟨rfl,hB,ho⟩;rw[hlen,if_neg hw] at hB |-;exact⟨rfl,h.TI ho hB rfl rfl rfl,ho.weak hbc⟩
theorem cRecv {w:World} {P:Pl} {c:Cl} (h:bP w P c) (hok:jE c.ck) (raw:Int) (h0: -9223372036854775808<=raw) (h1:raw<=9223372036854775807) (server:Int) (p:Np) (iv:Iv) (has:Bool) (hn:c.srcs.length<=100) (hpo:fA p)
  (hw:(aI c raw).2.1=0->∀ s∈c.srcs,(-9223372036854775808<=raw-s.sent/\raw-s.sent<=9223372036854775807)/\(-9223372036854775808<=raw-s.pat/\raw-s.pat<=9223372036854775807)) :
  Calls Tryz.prog 230 #[.pointer (some ⟨P.bc,0,none⟩),.int .i64 server,iR p,dV iv,.bool has,.int .i64 raw] w fun e w'=>e=.returned (.tuple #[JL (fJ c server p iv has raw).1.1,.int .i64 (fJ c server p iv has raw).1.2])/\bP w' P (fJ c server p iv has raw).2/\Oy P.all w w':=by
 have hlen:=h.len;have hbc:∀ x∈[P.bc],x∈P.all:=fun x hx=>by simp only[mem_cons,not_mem_nil,or_false] at hx;subst hx;unfold Pl.all;simp
 unfold fJ;by_cases hwi:bZ server 0 (c.srcs.length-1)=true
 ·rw[if_pos hwi]
  by_cases he:(aI c raw).2.1=0
  ·rw[if_pos he]
   have hb:=aY.1 hwi;obtain⟨i,rfl⟩:∃ i:Nat,server=i:=⟨server.toNat,by omega⟩;have hi:i<P.ps.length:=by omega
   have hic:i<c.srcs.length:=by omega
   rw[show c.srcs.getD (i:Int).toNat (pU c.cf)=c.srcs[i] by simp[hic]];have hwi:=hw he _ (getElem_mem hic);refine (pClRecv h hok raw h0 h1 i hi (by omega) he p hpo iv has hwi.1 hwi.2).mono ?_;rintro e w' ⟨_,rfl,⟨hB,hS⟩,ho⟩;have hs:=fV c raw;exact⟨rfl,h.put i hi ho (fun x hx=>hx) hB hs.1 hs.2.1 hS,ho.weak (Pl.PW hi)⟩
  ·rw[if_neg he]
   refine (vS h hok raw h0 h1 server p iv has (fun _=>he)).mono ?_;rintro e w' ⟨rfl,hB,ho⟩;rw[hlen,if_pos hwi] at hB |-;have hs:=fV c raw;have hp:=h.TI ho hB hs.1 hs.2.1 hs.2.2;rw[DK he] at hp;exact⟨rfl,hp,ho.weak hbc⟩
 ·rw[if_neg hwi]
  refine (vS h hok raw h0 h1 server p iv has (fun hh=>absurd (hlen ▸ hh) hwi)).mono ?_;rintro e w' ⟨rfl,hB,ho⟩;rw[hlen,if_neg hwi] at hB |-;exact⟨rfl,h.TI ho hB rfl rfl rfl,ho.weak hbc⟩
end
section
open Go.RowKit
def qE (s:Sr):Prop:=(-4503599627370496<=s.sent/\s.sent<=4503599627370496)/\(-4503599627370496<=s.pat/\s.pat<=4503599627370496)
structure tK (c:Cl):Prop where
 ck:jE c.ck
 src:∀ s∈c.srcs,qE s
 own: -4503599627370496<=c.owned/\c.owned<=4503599627370496
 s0:1<=c.cf.servers
 s1:c.cf.servers<=12
 len:(c.srcs.length:Int)=c.cf.servers
theorem NJ {c:Cl} {raw:Int} (h:(aZ c raw).2=0) (hk:jE c.ck): -4503599627370496<=raw/\raw<=4503599627370496:=by
 have:=hk.r0
 have hn:(eP c.ck raw).2=0:=by
  unfold aZ at h;by_cases hz:(eP c.ck raw).2=0
  ·exact hz
  ·rw[if_neg hz] at h;exact h
 unfold eP at hn;split at hn
 ·exact absurd hn (by decide)
 ·split at hn
  ·exact absurd hn (by decide)
  ·omega
theorem sG {c:Cl} {raw:Int} (h:(aI c raw).2.1=0):(aZ c raw).2=0:=by
 unfold aI at h;split at h
 ·assumption
 ·exact h
theorem rM {c:Cl} {raw:Int} (h:(aI c raw).2.1=0) (hk:jE c.ck): -4503599627370496<=raw/\raw<=4503599627370496:=NJ (sG h) hk
theorem wG (c:Cl) (raw:Int):(aI c raw).2.2.cf=c.cf/\(aI c raw).2.2.own=c.own/\(aI c raw).2.2.owned=c.owned/\(aI c raw).2.2.rt=c.rt:=by
 unfold aI;split<;>exact⟨rfl,rfl,rfl,rfl⟩
theorem XF {s:Sr} {raw now nonce:Int} (h:qE s) (hr: -4503599627370496<=raw/\raw<=4503599627370496):qE (iF s raw now nonce).2.2:=by
 unfold iF;split
 ·exact⟨hr,h.2⟩
 ·exact h
theorem TF {s:Sr} {iv:Iv} {raw tol:Int} (h:qE s) (hr: -4503599627370496<=raw/\raw<=4503599627370496):qE (iV s iv raw tol):=by
 unfold iV;split
 ·split
  ·exact h
  ·exact⟨h.1,hr⟩
 ·exact h
theorem XK {s:Sr} {i:Int} {p:Np} {q:Qd} {prec tol:Int} (h:qE s):qE (mQ s i p q prec tol):=by
 unfold mQ;split
 ·split<;>exact h
 ·exact h
theorem XH {s:Sr} {i:Int} {p:Np} {iv:Iv} {has:Bool} {raw now prec tol:Int} (h:qE s) (hr: -4503599627370496<=raw/\raw<=4503599627370496):qE (kJ s i p iv has raw now prec tol).2:=by
 unfold kJ;split
 ·exact h
 ·split
  ·dsimp only
   refine XK ?_;split
   ·exact TF h hr
   ·exact h
  ·exact h
theorem bd_set {l:List Sr} {i:Nat} {s:Sr} (h:∀ x∈l,qE x) (hs:qE s):∀ x∈l.set i s,qE x:=fun x hx=>by
 rcases List.mem_or_eq_of_mem_set hx with h'|rfl
 ·exact h x h'
 ·exact hs
theorem WJ (c:Cf):qE (pU c):=by
 unfold qE pU;dsimp only;decide
theorem RF {l:List Sr} {i:Nat} {c:Cf} (h:∀ x∈l,qE x):qE (l.getD i (pU c)):=by
 rw[List.getD_eq_getElem?_getD]
 cases hh:l[i]? with
 | none=>exact WJ c
 | some x=>exact h x (List.mem_of_getElem? hh)
theorem tK.send {c:Cl} (h:tK c) (server raw nonce:Int):tK (dP c server raw nonce).2:=by
 unfold dP;split
 ·split
  ·rename_i he
   have e:=fV c raw;have e2:=wG c raw;have hr:=rM he h.ck;refine⟨?_,?_,?_,?_,?_,?_⟩
   ·exact e.1 ▸ h.ck
   ·exact bd_set h.src (XF (RF h.src) hr)
   ·exact e2.2.2.1 ▸ h.own
   ·exact e2.1 ▸ h.s0
   ·exact e2.1 ▸ h.s1
   ·have:=h.len
    rw[<-e2.1] at this;simpa using this
  ·exact h
 ·exact h
theorem tK.recv {c:Cl} (h:tK c) (server:Int) (p:Np) (iv:Iv) (has:Bool) (raw:Int):tK (fJ c server p iv has raw).2:=by
 unfold fJ;split
 ·split
  ·rename_i he
   have e:=fV c raw;have e2:=wG c raw;have hr:=rM he h.ck;refine⟨?_,?_,?_,?_,?_,?_⟩
   ·exact e.1 ▸ h.ck
   ·exact bd_set h.src (XH (RF h.src) hr)
   ·exact e2.2.2.1 ▸ h.own
   ·exact e2.1 ▸ h.s0
   ·exact e2.1 ▸ h.s1
   ·have:=h.len
    rw[<-e2.1] at this;simpa using this
  ·exact h
 ·exact h
theorem tK.new {c:Cf} {raw time:Int} (hr:fQ raw=true) (ht:fQ time=true) (h1:1<=c.servers/\c.servers<=12):tK (I8 c raw time):=by
 have a:=aY.1 (show bZ raw (-4503599627370496) 4503599627370496=true from hr);have b:=aY.1 (show bZ time (-4503599627370496) 4503599627370496=true from ht);have q:(-500000:Int)<=0/\(0:Int)<=500000/\(0:Int)<=0/\(0:Int)<=9223372036854775807:=by decide
 refine⟨⟨a.1,a.2,b.1,b.2,q.1,q.2.1,q.2.2.1,q.2.2.2⟩,?_,a,h1.1,h1.2,?_⟩
 ·intro s hs
  obtain rfl:=(List.mem_replicate.1 hs).2;exact WJ c
 ·show ((List.replicate c.servers.toNat (pU c)).length:Int)=c.servers
  rw[List.length_replicate];omega
theorem tK.w {c:Cl} {raw:Int} (h:tK c) (he: -4503599627370496<=raw/\raw<=4503599627370496):∀ s∈c.srcs,(-9223372036854775808<=raw-s.sent/\raw-s.sent<=9223372036854775807)/\(-9223372036854775808<=raw-s.pat/\raw-s.pat<=9223372036854775807):=fun s hs=>by
 have:=h.src s hs;unfold qE at this;omega
theorem dRecv {w:World} {P:Pl} {c:Cl} (h:bP w P c) (hok:tK c) (raw:Int) (h0: -9223372036854775808<=raw) (h1:raw<=9223372036854775807) (server:Int) (p:Np) (iv:Iv) (has:Bool) (hpo:fA p) :
  Calls Tryz.prog 230 #[.pointer (some ⟨P.bc,0,none⟩),.int .i64 server,iR p,dV iv,.bool has,.int .i64 raw] w fun e w'=>e=.returned (.tuple #[JL (fJ c server p iv has raw).1.1,.int .i64 (fJ c server p iv has raw).1.2])/\bP w' P (fJ c server p iv has raw).2/\Oy P.all w w':=
 cRecv h hok.ck raw h0 h1 server p iv has (by have:=hok.len;have:=hok.s1;omega) hpo (fun he=>hok.w (rM he hok.ck))
theorem FQ {w:World} {P:Pl} {c:Cl} (h:bP w P c) (hok:tK c) (raw:Int) (h0: -9223372036854775808<=raw) (h1:raw<=9223372036854775807) :
  Calls Tryz.prog 176 #[.pointer (some ⟨P.bc,0,none⟩),.int .i64 raw] w fun e w'=>e=.returned (.tuple #[dV (nS c raw).1,.int .i64 (nS c raw).2])/\Oy [] w w':=
 KH h hok.ck (by have:=hok.len;have:=hok.s1;have:=h.len;omega) hok.s0 hok.s1 raw h0 h1 (fun hz s hs=>(hok.w (NJ hz hok.ck) s hs).2) (fun hz=>by have:=NJ hz hok.ck;have:=hok.own;omega)
theorem KV {x:Iv} (h:bU x=true):KW [x] 0=some x:=by
 have hf:[x].filter bU=[x]:=by simp[h]
 have hle:x.lo<=x.hi:=by have:=of_decide_eq_true h;exact this.1
 have hc1:sU [x] x.lo=1:=by unfold sU xJ;simp[h,hle]
 have hc2:sU [x] x.hi=1:=by unfold sU xJ;simp[h,hle]
 unfold KW;rw[hf];simp only[List.length_cons,List.length_nil];rw[if_neg (by decide)];unfold rF nW VP;rw[hf];simp[hc1,hc2,vD]
end
section
open Go.RowKit
end
end Go.Proofs.YtppjhbjmfkiejaaGreat
