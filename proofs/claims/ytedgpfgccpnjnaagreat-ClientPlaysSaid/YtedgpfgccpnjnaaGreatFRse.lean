/- timesyncref32: discipline, to the same plain value. Conditions: those named in each theorem. -/
import Derived.Test.YtedgpfgccpnjnaaGreatFRsc
import Derived.Test.YtedgpfgccpnjnaaGreatFRri
import Derived.Test.YtedgpfgccpnjnaaGreatFRr1
import Derived.Test.YtedgpfgccpnjnaaGreatFR7
import Derived.Test.YtedgpfgccpnjnaaGreatFRp1
namespace Go.Proofs.YtedgpfgccpnjnaaGreat
set_option maxRecDepth 100000
set_option maxHeartbeats 8000000
open Go.RowKit Go.Sort
theorem qfl_kept {S:List Nat} {w w':World} {b:Nat} {f:Fl} (hf:∀ M,QFlAt M w b f) (ho:Only S w w') (hb:b ∉ S):∀ M,QFlAt M w' b f:=fun M=>((hf (S ++ M)).kept ho hb (fun x hx=>.inl (by simp[hx]))).more (fun x hx=>.inl (by simp[hx]))
theorem vrow_cd {w:World} {b off n cap:Nat} {l:List Cd} (hv:VRow cdC 5 w (some ⟨b,off,none⟩) n cap l) {j:Nat} (hj:j<l.length):CdF w b (off+j*5) l[j]:=by
 obtain⟨b',o',hp,_,HC⟩:=hv.at (show 0<l.length by omega);obtain⟨rfl,rfl⟩:b=b'∧off=o':=by simpa using hp
 exact HC j hj w (Only.refl [] w)
theorem QClAt.putBM {M M' S:List Nat} {w w':World} {P:Pl} {c c':Cl} (h:QClAt M w P c) (ho:Only S w w') (hS:∀ b∈P.all,b∈S→b=P.bc) (hM:∀ x∈S,x∈M'∨w.heap.size≤x) (hM':∀ x∈M',x∈M∨w.heap.size≤x) (hs:∀ x∈M,x∈M') (hml:∀ x∈M',x<w'.heap.size) (hb:QClB w' P c') (h1:c'.ck=c.ck) (h2:c'.sv=c.sv) (h3:c'.srcs=c.srcs):QClAt M' w' P c':=by
 obtain⟨n1,n2,n3,n4,n5,n6,n7⟩:=pl_ndQ h.nd;have key:∀ b∈P.all,b≠P.bc→b ∉ S:=fun b hb hn hm=>hn (hS b hb hm);refine⟨hb,by rw[h1];exact ho.got h.ck (key _ (by simp[Pl.all]) (Ne.symm n1)),by rw[h2];exact ho.got h.sv (key _ (by simp[Pl.all]) (Ne.symm n2)),h.row.kept ho (key _ (by simp[Pl.all]) (Ne.symm n3)),by rw[h3];exact h.len,?_,h.nd,fun b hb=>Nat.lt_of_lt_of_le (h.lt b hb) ho.size,fun b hb=>hs _ (h.sub b hb),hml⟩;rw[h3];intro i hi hi';have ap:∀ x∈[P.ps[i].1,P.ps[i].2.1,P.ps[i].2.2],x ∉ S:=fun x hx=>key x (ps_all hi x hx) (Ne.symm (n7 _ (List.getElem_mem hi) x hx).1);exact ((h.src i hi hi').more hM').kept ho (ap _ (by simp)) (ap _ (by simp)) (ap _ (by simp)) hM
theorem qDisc {M:List Nat} {w:World} {P:Pl} {c:Cl} {p:Option Addr} {n cap:Nat} {kept:List Cd} (h:QClAt M w P c) (hck:CkOk c.ck) (hsv:SvOk c.sv) (hn:P.ps.length≤12) (htol:0≤c.cf.tol∧c.cf.tol≤500000)
  (hrow:∀ (S:List Nat) w',(∀ x∈S,x∈M∨w.heap.size≤x)→Only S w w'→VRow cdC 5 w' p n cap kept) (hg:Gd kept) (h0:0<kept.length) (hid:∀ k∈kept,k.id<P.ps.length)
  (raw now off:Int) (n0: -4503599627370496≤now∧now≤4503599627370496) (n1: -4503599627370496≤c.rd∧c.rd≤4503599627370496) (o0: -112589990684262400≤off∧off≤112589990684262400) :
  Calls Tryz.prog 73 #[.pointer (some ⟨P.bc,0,none⟩),.int .i64 raw,.int .i64 now,.int .i64 off,.slice p n cap] w fun e w'=>e=.returned (.tuple #[acV (strC c raw now off kept).1,.int .i64 (strC c raw now off kept).2.1])∧(∃ P' M',P'.bc=P.bc∧QClAt M' w' P' (strC c raw now off kept).2.2∧(∀ x∈M,x∈M')∧(∀ x∈M',x∈M∨w.heap.size≤x)∧(∀ b∈P'.all,b∈P.all∨w.heap.size≤b))∧Only P.all w w':=by
 obtain rfl:n=kept.length:=((hrow [] w (by simp) (Only.refl _ _)).len).symm;obtain⟨bl,ol,rfl,-,-⟩:=(hrow [] w (by simp) (Only.refl _ _)).at h0;have HC:=Lib.hid h;have HSV:=Lib.hid hsv;have HG:=Lib.hid hg;have HCK:=Lib.hid hck;have hkl:=hg.len;obtain⟨res,HE⟩:∃ q,Hid (strC c raw now off kept=q):=⟨_,Lib.hid rfl⟩;rw[HE.out];unfold strC at HE;have q1:IntKind.i64.wrap (now-c.rd)=now-c.rd:=by rw[IntKind.wrap_i64];omega
 obtain⟨sp,hsp⟩:∃ sp,spnC c now=sp:=⟨_,rfl⟩;rw[hsp] at HE;have HSP:=Lib.hid hsp;unfold spnC at hsp;have HLT:=Lib.hid h.lt;have HML:=Lib.hid h.ml;have HPM:=Lib.hid (show ∀ x∈P.all,x∈M∨w.heap.size≤x from fun x hx=>.inl (h.sub x hx));have HROW:=Lib.hid (fun w'=>hrow P.all w' HPM.out);have hsb:1≤sp∧sp≤1125899906842624:=by rw[←hsp];split<;>omega
 obtain⟨st,hst⟩:∃ st,c.st=st:=⟨_,rfl⟩;rw[hst] at hsp;have HST:=Lib.hid hst;have hcl:=h.cl;unfold QClB at hcl;rw[hst] at hcl;clear hst h hsv hg hck hrow;obtain⟨wo,hwo⟩:∃ wo:World,wo=w:=⟨_,rfl⟩;subst hwo;have m:=mm1 hcl;have k:=m.out.k;clear hcl;have HS:=Lib.hid (fun (w2:World) (hs:QSvAt w2 P.bv c.sv)=>qSample hs HSV.out off sp);have HM:=Lib.hid (show strM c now off kept={ c with st:=true,rd:=now,sv:=(smpE c.sv off sp).2.2,srcs:=adR off (jitC kept) kept c.srcs,rt:=rootC (adR off (jitC kept) kept c.srcs) kept } by unfold strM;rw[HSP.out]);have HB:=Lib.hid (fun (he:(smpE c.sv off sp).2.1=0)=>smpE_bd HSV.out he);have HNO:=Lib.hid (fun (he:(smpE c.sv off sp).2.1≠0)=>smpE_no he);generalize strM c now off kept=cm at HE HM;generalize smpE c.sv off sp=se at HS HE HM HB HNO;obtain⟨⟨ak,av⟩,er,sv2⟩:=se;unfold acV at HS ⊢;dsimp only at HS HE HM HB HNO;have HND:=Lib.hid (pl_ndQ HC.out.nd);have hbv:P.bv ∉ [P.bc]:=by simpa using HND.out.2.1.symm
 have hrb:∀ b∈P.all,b<wo.heap.size:=HLT.out;have hrv:wo.heap.size ∉ [P.bv]:=by have:=hrb P.bv (by simp[Pl.all]);simp;omega
 have HRB:=Lib.hid (show ∀ b∈P.all,b ∉ [wo.heap.size] from fun b hb hm=>by have:=hrb b hb;rw[List.mem_singleton.1 hm] at this;omega);have HMM:=Lib.hid (show ∀ x∈wo.heap.size::M,x∈M∨wo.heap.size≤x from fun x hx=>(List.mem_cons.1 hx).elim (fun e=>.inr (Nat.le_of_eq e.symm)) .inl);have HRM:=Lib.hid (fun (s:Nat)=>show ∀ x∈[wo.heap.size],x∈wo.heap.size::M∨s≤x from fun x hx=>.inl (by rw[List.mem_singleton.1 hx];simp))
 cases st
 all_goals (try simp only[Bool.false_eq_true,if_false] at hsp)
 all_goals (try simp only[if_true] at hsp)
 all_goals (try have hsp:min (max (now-c.rd) 1) 1125899906842624=sp:=by omega)
 all_goals subst hsp
 all_goals go_enter Tryz.func73,Tryz.ntmps73
 all_goals go_wp2_with ((with_reducible first|refine cU ?_|refine wU ?_);clear k m;intro w m k)
 all_goals refine (HS.out _ (m.out.only.got HC.out.sv hbv)).mono ?_
 all_goals rintro e w2 ⟨rfl,hsv2,ho2⟩
 all_goals have HLW:Hid (wo.heap.size<w.heap.size):=Lib.hid (got_lt (gB (w:=w) (b:=wo.heap.size)))
 all_goals have HC1:=Lib.hid (HC.out.putBM (M':=wo.heap.size::M) (c':={ c with st:=true,rd:=now }) m.out.only (by simp) (fun x hx=>.inl (by rw[List.mem_singleton.1 hx];exact List.mem_cons_of_mem _ (HC.out.sub _ (by simp[Pl.all])))) HMM.out (fun x hx=>List.mem_cons_of_mem _ hx) (fun x hx=>(List.mem_cons.1 hx).elim (fun e=>e ▸ HLW.out) (fun h=>by have:=HML.out x h;have:=HLW.out;omega)) (by unfold QClB;exact gB) rfl rfl rfl)
 all_goals have HLW2:Hid (w.heap.size≤w2.heap.size):=Lib.hid ho2.size
 all_goals have HC2:=Lib.hid (HC1.out.putV ho2 hsv2)
 all_goals have O2:=Lib.hid ((m.out.only.weak (S':=P.all) (by simp[Pl.all])).trans ho2 (by simp[Pl.all]))
 all_goals have hb2:w2.heap[wo.heap.size]? = some (.cells #[.int .i64 0,.int .i64 0] 95 (0,0)):=ho2.got (gB (w:=w)) hrv
 all_goals clear k m HC1 HS HC ho2 hsv2
 all_goals (obtain⟨wq,hwq⟩:∃ wq:World,wq=w2:=⟨_,rfl⟩;subst hwq)
 all_goals have m:=mm1 hb2
 all_goals have k:=m.out.k
 all_goals clear hb2
 all_goals have hrs:∀ (x:Nat),x∈[wo.heap.size]→x∈P.all∨wo.heap.size≤x:=fun x hx=>.inr (by rw[List.mem_singleton.1 hx];exact Nat.le_refl _)
 all_goals by_cases he:er=0
 all_goals try (
  have hx:=HNO.out he;simp only[Prod.mk.injEq,Ac.mk.injEq] at hx;obtain⟨⟨rfl,rfl⟩,rfl,rfl⟩:=hx;have he2:=HE.out;rw[if_neg he] at he2;subst he2;go_wp2_with (first|((with_reducible first|refine cU ?_|refine wU ?_);clear k m;intro w m k)|((with_reducible refine lE (fun w o g k K hK=>⟨rfl,?_⟩));simp[results,Tryz.results73,go_sem,k];refine hK _ ?_;exact⟨rfl,⟨P,_,rfl,HC2.out.off o HRB.out (HRM.out _),fun x hx=>List.mem_cons_of_mem _ hx,HMM.out,fun b hb=>.inl hb⟩,O2.out.trans o hrs⟩))
  done)
 all_goals subst he
 all_goals have HJ:=Lib.hid (fun w' (o:Only [wo.heap.size] wq w')=>qJitC (HROW.out w' (O2.out.trans o hrs)) HG.out h0)
 all_goals go_wp2_with ((with_reducible first|refine cU ?_|refine cM (HJ.out _ gO) ?_|refine wU ?_);clear k m;intro w m k)
 all_goals have OA:=Lib.hid (O2.out.trans m.out.only hrs)
 all_goals (obtain⟨wl,hwl⟩:∃ wl:World,wl=w:=⟨_,rfl⟩;subst hwl)
 all_goals have HC3:=Lib.hid (HC2.out.off m.out.only HRB.out (HRM.out _))
 all_goals have M3:=Lib.hid m
 all_goals clear k m HC2 HJ HRB
 all_goals (obtain⟨c1,hc1⟩:∃ c1,({ c with st:=true,rd:=now,sv:=sv2 }:Cl)=c1:=⟨_,rfl⟩)
 all_goals have HC1:=Lib.hid hc1
 all_goals rw[hc1] at HC3
 all_goals clear hc1
 all_goals have hjb:=jit_bd HG.out h0
 all_goals (generalize jitC kept=jit at HM hjb ⊢)
 all_goals have hjb:0≤jit∧jit≤9223372036854775807:=by omega
 all_goals have HBS:=Lib.hid (show ∀ x∈P.bs,x∈P.all∨wo.heap.size≤x from fun x hx=>.inl (bs_all hx))
 all_goals go_loopw [16] (fun vi wr=>∃ k:Nat,k≤kept.length∧vi=.int .i64 k∧QClAt (wo.heap.size::M) wr P { c1 with srcs:=adR off jit (kept.take k) c1.srcs }∧Only P.bs wl wr) (fun vi _=>kept.length-(intOf vi).toNat)
 all_goals try (case atStart=>exact⟨0,Nat.zero_le _,rfl,HC3.out,Only.refl _ _⟩)
 all_goals (
  obtain⟨j,hk,rfl,hcl,ho⟩:=hrel;by_cases hlt:j<kept.length
  ·have hkd:=hid _ (List.getElem_mem hlt)
   have hkp:=(okC_bd (HG.out.ok _ (List.getElem_mem hlt))).1;have HSN:=Lib.hid (show adR off jit (kept.take (j+1)) c1.srcs=(adR off jit (kept.take j) c1.srcs).modify kept[j].id.toNat (adS off jit) by rw[take_snoc kept hlt,adR_snoc]);have OO:=Lib.hid ho;have HKC:=fun (pb:Nat) (hpb:pb∈P.bs) w' (o:Only [pb] wr w')=>vrow_cd (HROW.out w' ((OA.out.trans OO.out HBS.out).trans o (fun x hx=>.inl (by rw[List.mem_singleton.1 hx];exact bs_all hpb)))) hlt;generalize kept[j]=kd at hkd hkp HSN HKC;obtain⟨kid,ko,kd2,kj,ks⟩:=kd;dsimp only at hkd hkp HSN HKC;obtain⟨i,rfl⟩:∃ i:Nat,kid=(i:Int):=⟨kid.toNat,by omega⟩;rw[Int.toNat_natCast] at HSN;have hi:i<P.ps.length:=by omega
   generalize adR off jit (kept.take j) c1.srcs=sl at hcl HSN;have hic:i<sl.length:=by have:=hcl.len;dsimp only at this;omega
   have hsb:=(hcl.src i hi hic).b;have HPR:=Lib.hid (fun w' s'=>hcl.putR (w':=w') (s':=s') i hi);have HND2:=(pl_ndQ hcl.nd).2.2.2.2.2.2 _ (List.getElem_mem hi);have hbm:P.ps[i].1∈P.bs:=List.mem_map.2 ⟨_,List.getElem_mem hi,rfl⟩;have hpt:=hcl.ptr hi;have hcb:=hcl.cl;have HSN2:=Lib.hid (show adR off jit (kept.take (j+1)) c1.srcs=sl.set i (adS off jit sl[i]) by rw[HSN.out,modify_set hic]);dsimp only at hsb HPR;generalize P.ps[i]=pp at hsb HPR HND2 hbm hpt;obtain⟨pb,pa,pf⟩:=pp;generalize sl[i]=sv0 at hsb HPR HSN2;dsimp only at hsb HPR HND2 hbm hpt;have hn1:=(HND2 pb (by simp)).1;have hn2:=(HND2 pb (by simp)).2.2.2;have HX:=Lib.hid (fun w' (o:Only [pb] wr w')=>And.intro (Nat.lt_of_lt_of_le hpt.1 o.size) (And.intro ((o.cell hpt.1 (by simpa using hn2)).trans hpt.2) (HKC pb hbm w' o)));simp only[CdF] at HX;unfold QSrB at hsb HPR;unfold QClB at hcb;dsimp only[adS] at HPR HSN2;obtain⟨sa,fl,hr,hp,⟨b1,b2,b3,b4,b5⟩,sent,⟨e1,e2,e3,e4,e5,e6,e7,e8,e9,ea,eb,ec,ed⟩,⟨t1,t2,t3,t4⟩,⟨v1,v2⟩,pat⟩:=sv0;have HA:=Lib.hid (qAdapt ⟨b1,b2,b3,b4,b5⟩ off jit (by omega) (by omega) hjb.2);dsimp only at hsb HPR HSN2 hcb;generalize radapt ⟨b1,b2,b3,b4,b5⟩ off jit=rn at HA HSN2;obtain⟨y1,y2,y3,y4,y5⟩:=rn;unfold rcV at HA;dsimp only at HA HSN2;have HPR:=Lib.hid (fun w' ho hb=>HPR.out w' ⟨sa,fl,hr,hp,⟨y1,y2,y3,y4,y5⟩,sent,⟨e1,e2,e3,e4,e5,e6,e7,e8,e9,ea,eb,ec,ed⟩,⟨t1,t2,t3,t4⟩,⟨v1,v2⟩,pat⟩ ho hb rfl rfl);have HBM:=Lib.hid hbm;have m:Mm wr [pb] wr _:=⟨((Mem.start wr [pb]).ext false hcb (by simp) (by simp)).ext true hsb (by simp;exact Ne.symm hn1) (by simp)⟩;have k:=m.out.k;have c:=HX.out wr (Only.refl _ wr);have hi2:(i:Int)<(P.ps.length:Int):=by omega
   have hj2:(j:Int)<(kept.length:Int):=by omega
   clear hsb hcb hpt hn1 hn2 hbm HND2 hcl ho hkd hkp hic HKC;go_wp2_with (first|((with_reducible first|refine cU ?_|refine cM (HA.out _) ?_|refine wU ?_);clear k m c;intro w m k;have c:=HX.out w m.out.only)|((with_reducible refine rG (id:=12) [0,1,2,3,4,5,6,7,8,9,10,11] [] (by kernel_rfl) (by kernel_rfl) ?_);simp only[pick,List.map_cons,List.map_nil,List.getD_cons_succ,List.getD_cons_zero];(repeat' (first|go_big_quiet_step (fail)|(refine wpQuiet_step (fun K hK=>?_);go_simp;(first|(refine hK _ ?_;clear hK K)|(split<;>(refine hK _ ?_;clear hK K))))));all_goals (refine wpQuiet_nil ?_;clear k m c;intro w m k;have c:=HX.out w m.out.only))|(go_roundw;(case rel=>exact⟨j+1,by omega,by go_num,by rw[HSN2.out];exact HPR.out _ gO gB,OO.out.trans gO (fun x hx=>.inl (by rw[List.mem_singleton.1 hx];exact HBM.out))⟩);(case measure=>first|(simp[intOf];done)|(simp[intOf];omega))))
  ·obtain rfl:j=kept.length:=by omega
   rw[List.take_length] at hcl;have HC4:=Lib.hid hcl;have OO:=Lib.hid ho
   have hid0:((ordC kept).headD default)∈kept:=(ordC_perm kept).subset (by
    have hl:=(ordC_perm kept).length_eq;rw[headD_get (show 0<(ordC kept).length by omega)];exact List.getElem_mem _)
   have hkd:=hid _ hid0;have hkp:=(okC_bd (HG.out.ok _ hid0)).1;obtain⟨i,hie⟩:∃ i:Nat,((ordC kept).headD default).id=(i:Int):=⟨((ordC kept).headD default).id.toNat,by omega⟩;rw[hie] at hkd;have hi:i<P.ps.length:=by omega
   have hi2:(i:Int)<(P.ps.length:Int):=hkd;obtain⟨sl,hsl⟩:∃ sl,adR off jit kept c1.srcs=sl:=⟨_,rfl⟩;rw[hsl] at HC4 hcl;have hic:i<sl.length:=by have:=hcl.len;dsimp only at this;omega
   have HRT:=Lib.hid (show rootC sl kept=sl[i].rt by unfold rootC;rw[hie,Int.toNat_natCast,List.getElem?_eq_getElem hic]);have hsb:=(hcl.src i hi hic).b;have HND2:=(pl_ndQ hcl.nd).2.2.2.2.2.2 _ (List.getElem_mem hi) P.ps[i].1 (by simp);have hbm:P.ps[i].1∈P.all:=bs_all (List.mem_map.2 ⟨_,List.getElem_mem hi,rfl⟩);have hpt:=hcl.ptr hi;have hcb:=hcl.cl;have hbr:wo.heap.size ∉ P.bs:=fun hm=>by have:=hrb _ (bs_all hm);omega
   have hba:wq.heap.size ∉ P.bs:=fun hm=>by have:=hrb _ (bs_all hm);have:=HLW.out;have:=HLW2.out;omega
   have hx1:=ho.got M3.out.out.got.1 hba;have hx2:=ho.got M3.out.out.got.2.1 hbr;have hgl2:=hrb P.g (by simp[Pl.all]);have hbl2:=hrb P.bc (by simp[Pl.all]);have hpl2:=hrb _ hbm;have hq1:=HLW.out;have hq2:=HLW2.out;have hq3:=HND2.1;have hq4:=HND2.2.2.2;have hq5:=HND.out.2.2.1;dsimp only at hsb;generalize P.ps[i]=pp at hsb HND2 hbm hpt hpl2 hq3 hq4;obtain⟨pb,pa,pf⟩:=pp;generalize sl[i]=sv0 at hsb HRT;dsimp only at hsb hbm hpt hpl2 hq3 hq4;unfold QSrB at hsb;obtain⟨sa,fl,hr,hp,⟨b1,b2,b3,b4,b5⟩,sent,⟨e1,e2,e3,e4,e5,e6,e7,e8,e9,ea,eb,ec,ed⟩,⟨t1,t2,t3,t4⟩,⟨v1,v2⟩,pat⟩:=sv0;unfold QClB at hcb;dsimp only at hsb HRT hcb;have HX:=Lib.hid (fun w' (o:Only [P.bc,wo.heap.size] wr w')=>And.intro (Nat.lt_of_lt_of_le hpt.1 o.size) ((o.cell hpt.1 (by simp;exact⟨Ne.symm hq5,by omega⟩)).trans hpt.2));have m:Mm wr [P.bc,wo.heap.size] wr _:=⟨((((Mem.start wr [P.bc,wo.heap.size]).ext true hcb (by simp) (by simp)).ext false hsb (by simpa using Ne.symm hq3) (by simp)).ext false hx1 (by simp;omega) (by simp)).ext true hx2 (by simp;omega) (by simp)⟩;have k:=m.out.k;have c:=HX.out wr (Only.refl _ wr)
   have HSUBS:=Lib.hid (show ∀ x∈[P.bc,wo.heap.size],x∈P.all∨wo.heap.size≤x from fun x hx=>by
    rcases List.mem_cons.1 hx with e|hx
    ·exact .inl (by rw[e];simp[Pl.all])
    ·exact hrs x hx)
   have HJS:=Lib.hid (fun w' (o:Only [P.bc,wo.heap.size] wr w')=>qSysC (HROW.out w' ((OA.out.trans OO.out HBS.out).trans o HSUBS.out)) HG.out h0);clear hcl ho hlt hk HC3 hsb hcb hx1 hx2 hpt HND2 hbr hba hid0;rw[hie] at HJS;rcases HB.out (by simp) with ⟨hsv3,⟨hak,ha1,ha2⟩|⟨hak,ha1,ha2⟩⟩;all_goals subst hak
   all_goals go_wp2_with (first|((with_reducible first|refine cU ?_|refine cM (HJS.out _ gO) ?_|refine wU ?_);clear k m c;intro w m k;have c:=HX.out w m.out.only)|((with_reducible refine rG (id:=17) [0,1,2,3,4,5,6] [7,8] (by kernel_rfl) (by kernel_rfl) ?_);simp only[pick,List.map_cons,List.map_nil,List.getD_cons_succ,List.getD_cons_zero];(repeat' (first|go_big_quiet_step (fail)|(refine wpQuiet_step (fun K hK=>?_);go_simp;(first|(refine hK _ ?_;clear hK K)|(split<;>(refine hK _ ?_;clear hK K))))));all_goals (refine wpQuiet_nil ?_;clear k m c;intro w m k;have c:=HX.out w m.out.only))|((with_reducible refine rG (id:=25) [0,1,2,3,4,5,6] [7,8] (by kernel_rfl) (by kernel_rfl) ?_);simp only[pick,List.map_cons,List.map_nil,List.getD_cons_succ,List.getD_cons_zero];(repeat' (first|go_big_quiet_step (fail)|(refine wpQuiet_step (fun K hK=>?_);go_simp;(first|(refine hK _ ?_;clear hK K)|(split<;>(refine hK _ ?_;clear hK K))))));all_goals (refine wpQuiet_nil ?_;clear k m c;intro w m k;have c:=HX.out w m.out.only)))
   all_goals (
    have hcm:cm={ c1 with srcs:=sl,rt:=⟨t1,t2,t3,t4⟩ }:=by
     have h1:=HC1.out;have h2:=HRT.out;have h3:=HM.out;clear m k c HX HJS HC4 HC1 HRT HM;subst h1;rw[h3,←h2,←hsl]
    subst hcm;have HCK1:Hid (CkOk c1.ck):=Lib.hid (by rw[←HC1.out];exact HCK.out)
    have HC5:=Lib.hid (HC4.out.putB2 (c':={ c1 with srcs:=sl,rt:=⟨t1,t2,t3,t4⟩ }) m.out.only (fun b hb hm=>by
     rcases List.mem_cons.1 hm with e|hm
     ·exact e
     ·have:=hrb b hb;rw[List.mem_singleton.1 hm] at this;omega) (fun x hx=>.inl (by
     rcases List.mem_cons.1 hx with e|hx
     ·rw[e];exact HC4.out.sub _ (by simp[Pl.all])
     ·rw[List.mem_singleton.1 hx];simp)) (by unfold QClB;exact gB) rfl rfl rfl)
    have OB:=Lib.hid ((OA.out.trans OO.out HBS.out).trans m.out.only HSUBS.out);have hbk:=hrb P.bk (by simp[Pl.all]);have g1:w.heap[wo.heap.size]? = some (.cells #[.int .i64 0,.int .i64 0] 95 (0,0)):=gB;have g2:=gB (w:=w) (b:=wq.heap.size);unfold strK at HE;clear m k c HX HJS HC4 HRT HM;simp only[if_true,Int.reduceEq,if_false] at HE)
   all_goals first
    | (refine (qClkStep (w:=w) HC5.out.ck HCK1.out raw av (by omega) (by omega)).mono ?_;generalize cStep c1.ck raw av=cr at HE ⊢)
    | (refine (qClkFreq (w:=w) HC5.out.ck HCK1.out raw av (by omega) (by omega)).mono ?_;generalize cFreq c1.ck raw av=cr at HE ⊢)
   all_goals (
    obtain⟨e2',ck2⟩:=cr;dsimp only at HE ⊢;rintro e w3 ⟨rfl,hck3,ho3⟩)
   all_goals (
    have HC6:=Lib.hid (HC5.out.putK ho3 hck3);have O6:=Lib.hid (OB.out.trans ho3 (fun x hx=>.inl (by rw[List.mem_singleton.1 hx];simp[Pl.all])));have f1:=ho3.got g1 (by simp;omega);have f2:=ho3.got g2 (by simp;omega);have HRB2:=Lib.hid (show ∀ b∈P.all,b ∉ [wo.heap.size] from fun b hb hm=>by have:=hrb b hb;rw[List.mem_singleton.1 hm] at this;omega);clear HC5 OB ho3 hck3 g1 g2;obtain⟨wk,hwk⟩:∃ wk:World,wk=w3:=⟨_,rfl⟩;subst hwk;have m:Mm wk [wo.heap.size] wk _:=⟨((Mem.start wk [wo.heap.size]).ext false f2 (by simp) (by simp)).ext true f1 (by simp;omega) (by simp)⟩;have k:=m.out.k;clear f1 f2;by_cases he2:e2'=0)
   all_goals try (
    have he3:=HE.out;rw[if_neg he2] at he3;subst he3;go_wp2_with (first|((with_reducible first|refine cU ?_|refine wU ?_);clear k m;intro w m k)|((with_reducible refine lE (fun w o g k K hK=>⟨rfl,?_⟩));simp[results,Tryz.results73,go_sem,k];refine hK _ ?_;exact⟨rfl,⟨P,_,rfl,HC6.out.off o HRB2.out (HRM.out _),fun x hx=>List.mem_cons_of_mem _ hx,HMM.out,fun b hb=>.inl hb⟩,O6.out.trans o hrs⟩))
    done)
   all_goals (
    subst he2;rw[if_pos rfl] at HE)
   all_goals try (
    have he3:=HE.out;subst he3;go_wp2_with (first|((with_reducible first|refine cU ?_|refine wU ?_);clear k m;intro w m k)|((with_reducible refine lE (fun w o g k K hK=>⟨rfl,?_⟩));simp[results,Tryz.results73,go_sem,k];refine hK _ ?_;exact⟨rfl,⟨P,_,rfl,HC6.out.off o HRB2.out (HRM.out _),fun x hx=>List.mem_cons_of_mem _ hx,HMM.out,fun b hb=>.inl hb⟩,O6.out.trans o hrs⟩))
    done)
   all_goals (
    obtain⟨cz,hcz⟩:∃ cz,({ cf:=c1.cf,ck:=ck2,sv:=c1.sv,srcs:=sl,last:=c1.last,own:=c1.own,owned:=c1.owned,rt:=⟨t1,t2,t3,t4⟩,st:=c1.st,rd:=c1.rd }:Cl)=cz:=⟨_,rfl⟩;have HZ:=Lib.hid hcz;have HC7:Hid (QClAt (wo.heap.size::M) wk P cz):=Lib.hid (by rw[←hcz];exact HC6.out);have HCT:Hid (cz.cf=c.cf):=Lib.hid (by rw[←hcz];dsimp only;rw[←HC1.out]);clear hcz HC6;go_wp2_with ((with_reducible first|refine cU ?_|refine wU ?_);clear k m;intro w m k)
    have Y1:=Lib.hid m.out.got.1;have Y2:=Lib.hid m.out.got.2.1;have HFN:=Lib.hid (qFNew cz.cf.tol (by rw[HCT.out];exact htol.1) (by rw[HCT.out];exact htol.2));have HCL8:=Lib.hid HC7.out.len;have hks:=O6.out.size;clear k m;go_loopw [21] (fun vi wr=>∃ (k:Nat) (P':Pl) (M':List Nat),k≤P.ps.length∧vi=.int .i64 k∧P'.bc=P.bc∧P'.g=P.g∧P'.ps.map (·.1)=P.ps.map (·.1)∧QClAt M' wr P' { cz with srcs:=frK cz k }∧(∀ b∈P'.all,b∈P.all∨wk.heap.size≤b)∧(∀ x∈wo.heap.size::M,x∈M')∧(∀ x∈M',x∈wo.heap.size::M∨wk.heap.size≤x)∧Only P.bs wk wr) (fun vi _=>P.ps.length-(intOf vi).toNat)
    case atStart=>exact⟨0,P,_,Nat.zero_le _,rfl,rfl,rfl,rfl,HC7.out,fun b hb=>.inl hb,fun x hx=>hx,fun x hx=>.inl hx,Only.refl _ _⟩
    case round =>
     obtain⟨j,Q,M2,hk,rfl,hQ1,hQ2,hQ3,hcl,hQa,hM1,hM2,ho⟩:=hrel;have hln:Q.ps.length=P.ps.length:=by have:=congrArg List.length hQ3;simpa using this
     by_cases hlt:j<P.ps.length
     ·have hj:j<Q.ps.length:=by omega
      have hjc:j<cz.srcs.length:=by have:=HCL8.out;omega
      have HFL:=Lib.hid (frK_len cz j (by have:=HCL8.out;omega));have hsb:=(hcl.src j hj (by have:=HFL.out;dsimp only;omega)).b;dsimp only at hsb;rw[frK_at hjc] at hsb;have HPF:=Lib.hid (fun w' b=>hcl.putF (w':=w') (b:=b) (s':={ cz.srcs[j] with fl:=⟨cz.cf.tol,[]⟩ }) hj);have HAL:=Lib.hid (fun b=>newF_all (P:=Q) (b:=b) hj);have HMP:=Lib.hid (fun b=>(map_set1 (b:=b) hj).trans hQ3);have HSU:=Lib.hid (frK_succ hjc);have HSA:=Lib.hid (show (frK cz j)[j]'(by have:=HFL.out;omega)=cz.srcs[j] from frK_at hjc);have HND2:=(pl_ndQ hcl.nd).2.2.2.2.2.2 _ (List.getElem_mem hj) Q.ps[j].1 (by simp);have hbm:Q.ps[j].1∈P.bs:=by unfold Pl.bs;rw[←hQ3];exact List.mem_map.2 ⟨_,List.getElem_mem hj,rfl⟩
      have hpt:=hcl.ptr hj;have hcb:=hcl.cl;unfold QClB at hcb;rw[hln] at hcb;rw[hQ1] at hcb HND2;rw[hQ2] at hpt hcb HND2;dsimp only at hcb;have hpl:=got_lt hsb;have OO2:=Lib.hid ho;have HX:=Lib.hid (fun w' (o:Only [Q.ps[j].1] wr w')=>And.intro (Nat.lt_of_lt_of_le hpt.1 o.size) ((o.cell hpt.1 (by simpa using HND2.2.2.2)).trans hpt.2));have HBM:=Lib.hid hbm;have HPL:=Lib.hid hpl;have HQA:=Lib.hid hQa;have HQ:=Lib.hid (And.intro hQ1 hQ2);have HM1:=Lib.hid hM1;have HM2:=Lib.hid hM2;have hn1:=HND2.1;generalize Q.ps[j]=pp at hsb HPF HX HBM HPL hpt hn1;obtain⟨pb,pa,pf⟩:=pp;generalize cz.srcs[j]=sv0 at hsb HPF HSU HSA;obtain⟨sa,fl,hr,hp,⟨b1,b2,b3,b4,b5⟩,sent,⟨e1,e2,e3,e4,e5,e6,e7,e8,e9,ea,eb,ec,ed⟩,⟨u1,u2,u3,u4⟩,⟨v1',v2'⟩,pat⟩:=sv0;unfold QSrB at hsb HPF;dsimp only at hsb HPF HX HBM HPL HSU hpt hn1;have hws:=ho.size;have hlt2:(j:Int)<(P.ps.length:Int):=by omega
      have m:Mm wr [pb] wr _:=⟨((Mem.start wr [pb]).ext false hcb (by simp) (by simp)).ext true hsb (by simp;exact Ne.symm hn1) (by simp)⟩;have k:=m.out.k;have c:=HX.out wr (Only.refl _ wr);clear hcb hpt HND2 hbm hpl hQ1 hQ2 hQ3 hQa ho hsb hn1 hM1 hM2;go_wp2_with ((with_reducible first|refine cU ?_|refine wU ?_);clear k m c;intro w m k;have c:=HX.out w m.out.only)
      refine rY (id:=23) [0,1,2,3,4,5,6,7,8,9,10,11] [] [15] 4 (by kernel_rfl) (by kernel_rfl) ?_;simp only[pick,List.map_cons,List.map_nil,List.getD_cons_succ,List.getD_cons_zero]
      (repeat (first|(refine wpCalmG_step (fun K hK=>?_);go_simp;refine hK _ ?_;clear hK K)));refine wpCalmG_nil ?_;(repeat (refine wpCalm_step (fun K hK=>?_);go_simp;refine hK _ ?_;clear hK K));refine wpCalm_nil ?_
      intro w0 o2 m0 _;have OS:=Lib.hid o2;have OM:=Lib.hid m.out.only;clear o2 k m c;refine yN [12] (by kernel_rfl) ?_;simp only[List.mem_cons,List.not_mem_nil,or_false,forall_eq];refine wpOp_one rfl ?_;go_wp2_with fail
      refine (HFN.out _).mono ?_;rintro e w5 ⟨⟨x,rfl,hz0,hf5⟩,ho5⟩;have hz:wr.heap.size≤x:=Nat.le_trans (Nat.le_trans OM.out.size OS.out.size) hz0;have m:Mm wr [pb] w5 _:=⟨m0.out.call ho5⟩;go_wp2;simp only[nrm];refine⟨.inr (OS.out.nil_trans ho5),fun w6 o6=>?_⟩;replace OS:=Lib.hid ((OS.out.nil_trans ho5).nil_trans o6);have HF:=Lib.hid (qfl_kept hf5 o6 (by simp));have m2:Mm wr [pb] w6 _:=⟨m.out.call o6⟩;clear m0 m ho5 o6 hf5 hz0;refine yN [13] (by kernel_rfl) ?_;simp only[List.mem_cons,List.not_mem_nil,or_false,forall_eq];refine wpOp_one rfl ?_;go_wp2;simp only[nrm];refine⟨.inr OS.out,fun w7 o6=>?_⟩;replace OS:=Lib.hid (OS.out.nil_trans o6);replace HF:=Lib.hid (qfl_kept HF.out o6 (by simp));have m:Mm wr [pb] w7 _:=⟨m2.out.call o6⟩;clear m2 o6;refine yN [14] (by kernel_rfl) ?_;simp only[List.mem_cons,List.not_mem_nil,or_false,forall_eq];refine wpOp_one rfl ?_;go_wp2;simp only[nrm];refine⟨.inr OS.out,fun w8 o6=>?_⟩;replace HF:=Lib.hid (qfl_kept HF.out o6 (by simp));have m2:Mm wr [pb] w8 _:=⟨m.out.call o6⟩;clear m o6 OS;have k:=m2.out.k;refine yN [15] (by kernel_rfl) ?_;simp only[List.mem_cons,List.not_mem_nil,or_false,forall_eq];refine wpOp_one rfl ?_;go_wp2;simp only[nrm];refine⟨.inl (late_of (by kernel_rfl)),fun w9 o6=>?_⟩;have mS:Mm wr [pb] (w8.setCell ⟨pb,1,none⟩ (.pointer (some ⟨x,0,none⟩))) _:=inferInstance;have m:Mm wr [pb] w9 _:=⟨mS.out.call o6⟩;replace HF:=Lib.hid (qfl_kept (qfl_kept HF.out ((Only.refl [pb] w8).setCell (.inl (by simp)) _) (by have:=HPL.out;simp;omega)) o6 (by simp));clear mS m2 o6 k;unfold wpY;go_wp2
      (go_roundw;(case rel=>exact⟨j+1,Q.newF j x hj,x::M2,by omega,by go_num,HQ.out.1,HQ.out.2,HMP.out x,by rw[HSU.out];exact HPF.out _ x gO hz gB (by rw[HSA.out]) HF.out,fun b hb=>(HAL.out x b hb).elim (HQA.out b) (fun e=>.inr (by rw[e];omega)),fun y hy=>List.mem_cons_of_mem _ (HM1.out y hy),fun y hy=>(List.mem_cons.1 hy).elim (fun e=>.inr (by rw[e];omega)) (HM2.out y),OO2.out.trans gO (fun y hy=>.inl (by rw[List.mem_singleton.1 hy];exact HBM.out))⟩);(case measure=>first|(simp[intOf];done)|(simp[intOf];omega)))
     ·obtain rfl:j=P.ps.length:=by omega
      have he3:=HE.out;have hfe:=frK_end cz;rw[←HCL8.out] at hfe;rw[hfe] at hcl;have HCQ:=Lib.hid hcl;have hcb:=hcl.cl;unfold QClB at hcb;rw[hln,hQ1,hQ2] at hcb;dsimp only at hcb;have hbs:∀ b,wo.heap.size≤b→b ∉ P.bs:=fun b hb hm=>by have:=hrb b (bs_all hm);omega
      have z1:=ho.got Y1.out (hbs _ (Nat.le_refl _));have z2:=ho.got Y2.out (hbs _ (by have:=HLW.out;have:=HLW2.out;omega));have hws:=ho.size
      have HRBQ:=Lib.hid (show ∀ b∈Q.all,b ∉ [wo.heap.size] from fun b hb hm=>by
       rw[List.mem_singleton.1 hm] at hb;rcases hQa _ hb with h|h
       ·have:=hrb _ h;omega
       ·have:=got_lt Y1.out;omega)
      have HQA:=Lib.hid (show ∀ b∈Q.all,b∈P.all∨wo.heap.size≤b from fun b hb=>(hQa b hb).imp_right (fun h=>by have:=O6.out.size;omega));have HQM:=Lib.hid (show ∀ x∈M2,x∈M∨wo.heap.size≤x from fun x hx=>(hM2 x hx).elim (HMM.out x) (fun h=>.inr (by have:=O6.out.size;omega)));have HQN:=Lib.hid (show ∀ x∈M,x∈M2 from fun x hx=>hM1 x (List.mem_cons_of_mem _ hx));have HQR:=Lib.hid (fun (s:Nat)=>show ∀ x∈[wo.heap.size],x∈M2∨s≤x from fun x hx=>.inl (by rw[List.mem_singleton.1 hx];exact hM1 _ (by simp)));have O9:=Lib.hid (O6.out.trans ho (fun x hx=>.inl (bs_all hx)));have HQ1:=Lib.hid hQ1;have hbl3:=hrb P.bc (by simp[Pl.all]);have m:Mm wr [wo.heap.size] wr _:=⟨(((Mem.start wr [wo.heap.size]).ext false hcb (by simp) (by simp)).ext false z2 (by have:=HLW.out;have:=HLW2.out;simp;omega) (by simp)).ext true z1 (by have:=HLW.out;have:=HLW2.out;simp;omega) (by simp)⟩;have k:=m.out.k;subst he3;have hz2:=HZ.out;clear z1 z2 hcl ho hQa hQ1 hQ2 hQ3 hcb;go_wp2_with (first|((with_reducible first|refine cU ?_|refine wU ?_);clear k m;intro w m k)|((with_reducible refine lE (fun w o g k K hK=>⟨rfl,?_⟩));simp[results,Tryz.results73,go_sem,k];refine hK _ ?_;exact⟨rfl,⟨Q,M2,HQ1.out,(by have h:=HCQ.out.off o HRBQ.out (HQR.out _);rw[←hz2] at h;exact h),HQN.out,HQM.out,HQA.out⟩,O9.out.trans o hrs⟩))))
end Go.Proofs.YtedgpfgccpnjnaaGreat
