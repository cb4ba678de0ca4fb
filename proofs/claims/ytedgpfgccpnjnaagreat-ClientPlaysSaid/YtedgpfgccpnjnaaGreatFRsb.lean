/- timesyncref32: Candidates, to the same plain value. Conditions: those named in each theorem. -/
import Derived.Test.YtedgpfgccpnjnaaGreatFRs5
import Derived.Test.YtedgpfgccpnjnaaGreatFRs1
import Derived.Test.YtedgpfgccpnjnaaGreatFRp1
import Derived.Test.YtedgpfgccpnjnaaGreatFRra
import Derived.Test.YtedgpfgccpnjnaaGreatFR8
import Derived.Test.YtedgpfgccpnjnaaGreatFRq2
import Derived.Test.YtedgpfgccpnjnaaGreatFR7
namespace Go.Proofs.YtedgpfgccpnjnaaGreat
open Go.Lib (hid)
set_option maxRecDepth 100000
set_option maxHeartbeats 16000000
open Go.RowKit Go.Sort
theorem qCands {M:List Nat} {w:World} {P:Pl} {c:Cl} (h:QClAt M w P c) (hok:CkOk c.ck) (hn:P.ps.length≤12) (htl:0≤c.cf.tol∧c.cf.tol≤500000) (hft:∀ s∈c.srcs,s.fl.tol=c.cf.tol) (hg:∀ s∈c.srcs,SrG s) (hri:∀ s∈c.srcs,Ris s.fl.l∧s.fl.l.length≤8) (raw:Int) :
  Calls Tryz.prog 39 #[.pointer (some ⟨P.bc,0,none⟩),.int .i64 raw] w fun e w'=>(∃ v,e=.returned v∧Own cdC 146 5 w.heap.size w' v (cndC c raw))∧Only [] w w':=by
 have HC:=hid h;have hlen:=h.len;have HN:=hid (fun w' (o:Only [] w w')=>qClNow (h.kept o) hok raw);obtain⟨res,HE⟩:∃ zz,Hid (cndC c raw=zz):=⟨_,hid rfl⟩;rw[HE.out];unfold cndC at HE;generalize clNow c raw=cn at HN HE;obtain⟨now,er⟩:=cn;dsimp only at HN HE;obtain⟨wo,hwo⟩:∃ wo:World,wo=w:=⟨_,rfl⟩;subst hwo;have m:=mm0 wo [];have k:=m.out.k;go_enter Tryz.func39,Tryz.ntmps39
 go_wp2_with ((with_reducible first|refine cU ?_|refine wU ?_);clear k m;intro w m k)
 refine (HN.out _ m.out.only).mono ?_;rintro e w2 ⟨rfl,ho2⟩;have O2:=hid (m.out.only.nil_trans ho2);clear k m ho2 HN;by_cases he:er=0
 rotate_left
 ·rw[if_neg he] at HE
  have q1:(er != 0)=true:=by simpa using he
  obtain rfl:=HE.out;go_wp2;go_ret
  exact⟨⟨_,rfl,own_nil _ _⟩,O2.out⟩
 subst he;rw[if_pos rfl] at HE;go_wp2_with fail
 obtain⟨wl,hwl⟩:∃ wl:World,wl=w2:=⟨_,rfl⟩;subst hwl;go_loopw [7,8] (fun vo vi wr=>∃ k:Nat,k≤P.ps.length∧vi=.int .i64 k∧Own cdC 146 5 wl.heap.size wr vo (cndR c.srcs now k)∧Only [] wl wr) (fun _ vi _=>P.ps.length-(intOf vi).toNat)
 case atStart=>exact⟨0,Nat.zero_le _,rfl,own_nil _ _,Only.refl _ _⟩
 case round =>
  obtain⟨j,hj,rfl,hown,ho⟩:=hrel;have OW:=hid hown;have OO:=hid ho;have HCW:=hid (HC.out.kept (O2.out.nil_trans ho));have hcl:=HCW.out.cl;unfold QClB at hcl;by_cases hlt:j<P.ps.length
  ·have hlt2:(j:Int)<(P.ps.length:Int):=by omega
   have hjc:j<c.srcs.length:=hlen ▸ hlt;have hgs:=hg _ (List.getElem_mem hjc);have hfs:=hft _ (List.getElem_mem hjc);have hrs:=hri _ (List.getElem_mem hjc);obtain⟨pb,pa,pf,hp⟩:∃ pb pa pf,P.ps[j]=(pb,pa,pf):=⟨_,_,_,rfl⟩;obtain⟨⟨d1,d2,d3,d4,d5,d6⟩,d7,d8,d9⟩:=pl_at h.nd hlt hp;have hpt:=HCW.out.ptr hlt;have hsr:=HCW.out.src j hlt hjc;have hsb:=hsr.b;have hfq:=hsr.f;rw[hp] at hpt hsb hfq;have HLT:=hid hlt;unfold QSrB at hsb;have HX:=hid (fun w' (o:Only [] wr w')=>And.intro (Nat.lt_of_lt_of_le hpt.1 o.size) ((o.cell hpt.1 (by simp)).trans hpt.2));have HS:=hid (show cndR c.srcs now (j+1)=cndR c.srcs now j ++ (cndS c.srcs[j] j now).toList by rw[cndR,List.getElem?_eq_getElem hjc]);have hal:=cndR_len c.srcs now j;generalize hs2:cndR c.srcs now (j+1)=s2 at HS;have H2:=hid hs2;generalize cndR c.srcs now j=acc at OW HS hal;unfold cndS cndD at HS;clear hs2 hown ho hp hsr hj;generalize c.srcs[j]=s at HS hsb hfq hgs hfs hrs;have hfe:(⟨c.cf.tol,s.fl.l⟩:Fl)=s.fl:=by rw[←hfs]
   have HR:=hid (fun w'=>qReach s.rc w');have HCP:=hid (fun w' (o:Only [] wr w')=>(by have:=qCopied (hfq.kept o (by simp) (by simp)) hrs.1 hrs.2 hgs.fl c.cf.tol htl.1 htl.2 now;rw[hfe] at this;exact this:Calls Tryz.prog 78 #[.pointer (some ⟨pf,0,none⟩),.int .i64 c.cf.tol,.int .i64 now] w' fun e w''=>e=.returned (.tuple #[smV (bstS s.fl now).1,.int .i64 (bstS s.fl now).2])∧Only [] w' w''));have HJ:=hid (fun w' (o:Only [] wr w')=>qFJitter (hfq.kept o (by simp) (by simp)) hrs.1 hrs.2 hgs.fl);have HL1:=hid (fun w'=>qLong s.hdr.rdel hgs.r1.1 hgs.r1.2 w');have HL2:=hid (fun w'=>qLong s.hdr.rdsp hgs.r2.1 hgs.r2.2 w');have HD:=hid (fun w'=>qSDist (bstS s.fl now).1 w');have b1:=sdist_bd (bstS s.fl now).1;have b2:=lng_bd hgs.r1.1 hgs.r1.2;have b3:=lng_bd hgs.r2.1 hgs.r2.2;simp only[rcV] at HR;generalize rreach s.rc=rr at HR HS;generalize lngS s.hdr.rdel=l7 at HL1 HS b2;generalize lngS s.hdr.rdsp=l8 at HL2 HS b3;generalize sdist (bstS s.fl now).1=sd at HD HS b1;generalize jtS s.fl.l=jt at HJ HS;generalize bstS s.fl now=bs at HCP HD HS;obtain⟨⟨g1,g2,g3,g4⟩,ge⟩:=bs;simp only[smV] at HCP HD;dsimp only at HS;have q1:IntKind.i64.wrap (l7+1)=l7+1:=by rw[IntKind.wrap_i64];omega
   have q2:IntKind.i64.wrap (sd+(l7+1) / 2)=sd+(l7+1) / 2:=by rw[IntKind.wrap_i64];omega
   have q3:IntKind.i64.wrap (sd+(l7+1) / 2+l8)=sd+(l7+1) / 2+l8:=by rw[IntKind.wrap_i64];omega
   have q4:(l7+1).tdiv 2=(l7+1) / 2:=Int.tdiv_eq_ediv_of_nonneg (by omega);have q5:IntKind.i64.wrap ((l7+1) / 2)=(l7+1) / 2:=by rw[IntKind.wrap_i64];omega
   clear b1 b2 b3 hgs hfs hrs hfe hlt hfq;rcases Decidable.em (rr=true) with hra|hra
   focus
    subst hra;rcases hhr:s.hr with _ | _
    focus
     rw[if_neg (by rw[hhr];simp)] at HS;rw[hhr] at hsb;clear hhr;have HS3:=hid (show s2=acc by rw[HS.out];simp);clear HS
    rotate_left 1
    focus
     rw[hhr] at hsb;by_cases hst:s.rt.str<16
     focus
      by_cases hge:ge=0
      focus
       subst hge;rw[if_pos ⟨rfl,hhr,hst⟩,if_pos rfl] at HS;clear hhr;simp only[Option.toList_some] at HS;rw[Int.min_comm 9007199254740992] at HS;have m:Mm wr [] wr _:=⟨((Mem.start wr []).ext false hcl (by simp) (by simp)).ext false hsb (by simp;omega) (by simp)⟩;have k:=m.out.k;have c:=HX.out wr (Only.refl _ wr);clear hcl hsb;go_wp2_with (first|((with_reducible first|refine cU ?_|refine cM (HR.out _) ?_|refine cM (HL1.out _) ?_|refine wU ?_);clear k m c;intro w m k;have c:=HX.out w m.out.only)|((with_reducible refine rA (id:=10) [0,1,2,3,4,5,6,7,8,9,10,11,12] [13] 14 [15,16] (by kernel_rfl) (by kernel_rfl) ?_);simp only[pick,List.map_cons,List.map_nil,List.getD_cons_succ,List.getD_cons_zero];(repeat (first|(refine wpCalmG_step (fun K hK=>?_);go_simp;refine hK _ ?_;clear hK K)|(refine cG (by kernel_rfl) ⟨_,_,_,?_,fun w' o=>HCP.out w' (m.out.only.nil_trans o),?_⟩;(focus (intro w;go_simp;done)))));refine wpCalmG_nil ?_;(repeat (refine wpCalm_step (fun K hK=>?_);go_simp;refine hK _ ?_;clear hK K));refine wpCalm_nil ?_;clear k m;intro w o m k;refine wpOp_one rfl ?_;go_wp2;simp only[nrm];refine⟨o.alloc _,tW ?_⟩;clear o;clear k m c;intro w m k;have c:=HX.out w m.out.only;unfold wpTail;refine wpOp_one rfl ?_;go_wp2;simp only[nrm];refine tW ?_;clear k m c;intro w m k;have c:=HX.out w m.out.only;unfold wpTail;refine wpOp_one rfl ?_;go_wp2;simp only[nrm];refine tW ?_;clear k m c;intro w m k;have c:=HX.out w m.out.only;unfold wpTail)|((with_reducible refine rG (id:=13) [0,1,2,3,4,5,6,7,8,9,10,11,12,13] [] (by kernel_rfl) (by kernel_rfl) ?_);simp only[pick,List.map_cons,List.map_nil,List.getD_cons_succ,List.getD_cons_zero];(repeat' (first|go_big_quiet_step (with_reducible first|exact gX (HD.out _)|exact gX (HL1.out _)|exact gX (HL2.out _))|(refine wpQuiet_step (fun K hK=>?_);go_simp;(first|(refine hK _ ?_;clear hK K)|(split<;>(refine hK _ ?_;clear hK K))))));all_goals (refine wpQuiet_nil ?_;clear k m c;intro w m k;have c:=HX.out w m.out.only)))
       have OM:=hid m.out.only;refine rY (id:=14) [0,1,2,3,4,5,6,7,8,9,10,11,12,13,14,15,16] [] [18,19] 3 (by kernel_rfl) (by kernel_rfl) ?_;simp only[pick,List.map_cons,List.map_nil,List.getD_cons_succ,List.getD_cons_zero]
       (repeat (first|(refine wpCalmG_step (fun K hK=>?_);go_simp;refine hK _ ?_;clear hK K)|(refine cG (by kernel_rfl) ⟨_,_,_,?_,fun w' o=>HJ.out w' (m.out.only.nil_trans o),?_⟩;(focus (intro w;go_simp;done)))));refine wpCalmG_nil ?_;(repeat (refine wpCalm_step (fun K hK=>?_);go_simp;refine hK _ ?_;clear hK K));refine wpCalm_nil ?_
       intro w0 o2 _ _;have O0:=hid o2;clear o2;refine yN [17] (by kernel_rfl) ?_;simp only[List.mem_cons,List.not_mem_nil,or_false,forall_eq];refine wpOp_one rfl ?_;go_wp2;simp only[nrm];refine⟨.inr (O0.out.alloc _),fun w1 o2=>?_⟩;have RL:=hid ((row_lit (enc:=cdC) (s:=5) (e:=146) (w:=w0) (l:=[⟨(j:Int),g1,min (sd+(l7+1) / 2+l8) 9007199254740992,jt,s.rt.str⟩]) cdC_len rfl (by simp[maxLen])).kept o2 (by simp));have O1:=hid (OM.out.nil_trans ((O0.out.alloc _).nil_trans o2));have RA:=hid (OW.out.kept O1.out);have HBW:=hid (OO.out.nil_trans O1.out).size;clear o2 m k c;generalize w0.heap.size=ad at RL ⊢;refine yN [18] (by kernel_rfl) ?_;simp only[List.mem_cons,List.not_mem_nil,or_false,forall_eq];refine wpOp_one rfl ?_;refine wpList_app rfl _ _ 101 rfl 146 cdZ 5 40 Tryz.underlying101 cd_info rfl (by decide) cdC cdC_len cdC_one wl.heap.size HBW.out acc _ (by rfl) RA.out _ _ _ [⟨(j:Int),g1,min (sd+(l7+1) / 2+l8) 9007199254740992,jt,s.rt.str⟩] (by rfl) (RL.out.vrow cdC_len rfl) (by simp[maxLen];omega) (by simp;omega) ?_;intro vv v3 hown hoo;have hoB:=(OO.out.nil_trans O1.out).trans hoo (fun x hx=>.inr (RA.out.block_ge x hx));go_wp2;simp only[nrm];refine⟨.inl (late_of (by kernel_rfl)),fun w4 o4=>?_⟩;have W4:=hid (hown.kept o4);have O4:=hid (hoB.nil_trans o4);clear hown hoo hoB o4;refine yN [19] (by kernel_rfl) ?_;simp only[List.mem_cons,List.not_mem_nil,or_false,forall_eq];refine wpOp_one rfl ?_;go_wp2;simp only[nrm];refine⟨.inl (late_of (by kernel_rfl)),fun w6 o6=>?_⟩;have W6:=hid (W4.out.kept o6);have O6:=hid (O4.out.nil_trans o6);clear o6;unfold wpY;go_wp2;go_roundw
       case rel=>exact⟨j+1,HLT.out,by go_num,(by rw[H2.out,HS.out];exact W6.out),O6.out⟩
       case measure=>first|(have:=HLT.out;simp[intOf];done)|(have:=HLT.out;simp[intOf];omega)
      rotate_left 0
      focus
       rw[if_pos ⟨rfl,hhr,hst⟩,if_neg hge] at HS;clear hhr;have qge:(ge != 0)=true:=by simpa using hge
       have HS3:=hid (show s2=acc by rw[HS.out];simp);clear HS
     rotate_left 1
     focus
      rw[if_neg (fun h=>hst h.2.2)] at HS;clear hhr;have hst2:16≤s.rt.str:=by omega
      have HS3:=hid (show s2=acc by rw[HS.out];simp);clear HS
   rotate_left 3
   focus
    rw[if_neg (fun h=>hra h.1)] at HS;have hra2:rr=false:=by simpa using hra
    subst hra2;clear hra;have HS3:=hid (show s2=acc by rw[HS.out];simp);clear HS
   all_goals (
    have m:Mm wr [] wr _:=⟨((Mem.start wr []).ext false hcl (by simp) (by simp)).ext false hsb (by simp;omega) (by simp)⟩;have k:=m.out.k;have c:=HX.out wr (Only.refl _ wr);clear hcl hsb;go_wp2_with (first|((with_reducible first|refine cU ?_|refine cM (HR.out _) ?_|refine cM (HL1.out _) ?_|refine wU ?_);clear k m c;intro w m k;have c:=HX.out w m.out.only)|((with_reducible refine rA (id:=10) [0,1,2,3,4,5,6,7,8,9,10,11,12] [13] 14 [15,16] (by kernel_rfl) (by kernel_rfl) ?_);simp only[pick,List.map_cons,List.map_nil,List.getD_cons_succ,List.getD_cons_zero];(repeat (first|(refine wpCalmG_step (fun K hK=>?_);go_simp;refine hK _ ?_;clear hK K)|(refine cG (by kernel_rfl) ⟨_,_,_,?_,fun w' o=>HCP.out w' (m.out.only.nil_trans o),?_⟩;(focus (intro w;go_simp;done)))));refine wpCalmG_nil ?_;(repeat (refine wpCalm_step (fun K hK=>?_);go_simp;refine hK _ ?_;clear hK K));refine wpCalm_nil ?_;clear k m;intro w o m k;refine wpOp_one rfl ?_;go_wp2;simp only[nrm];refine⟨o.alloc _,tW ?_⟩;clear o;clear k m c;intro w m k;have c:=HX.out w m.out.only;unfold wpTail;refine wpOp_one rfl ?_;go_wp2;simp only[nrm];refine tW ?_;clear k m c;intro w m k;have c:=HX.out w m.out.only;unfold wpTail;refine wpOp_one rfl ?_;go_wp2;simp only[nrm];refine tW ?_;clear k m c;intro w m k;have c:=HX.out w m.out.only;unfold wpTail)|((with_reducible refine rG (id:=13) [0,1,2,3,4,5,6,7,8,9,10,11,12,13] [] (by kernel_rfl) (by kernel_rfl) ?_);simp only[pick,List.map_cons,List.map_nil,List.getD_cons_succ,List.getD_cons_zero];(repeat' (first|go_big_quiet_step (with_reducible first|exact gX (HD.out _)|exact gX (HL1.out _)|exact gX (HL2.out _))|(refine wpQuiet_step (fun K hK=>?_);go_simp;(first|(refine hK _ ?_;clear hK K)|(split<;>(refine hK _ ?_;clear hK K))))));all_goals (refine wpQuiet_nil ?_;clear k m c;intro w m k;have c:=HX.out w m.out.only))|(go_roundw;(case rel=>exact⟨j+1,HLT.out,by go_num,(by rw[H2.out,HS3.out];exact OW.out.kept gO),OO.out.nil_trans gO⟩);(case measure=>first|(have:=HLT.out;simp[intOf];done)|(have:=HLT.out;simp[intOf];omega)))))
  ·obtain rfl:j=P.ps.length:=by omega
   have m:=mmR hcl;have k:=m.out.k;clear hcl;go_wp2;go_ret
   exact⟨⟨_,rfl,by rw[←HE.out,←hlen];exact OW.out.lower O2.out.size⟩,O2.out.nil_trans OO.out⟩
end Go.Proofs.YtedgpfgccpnjnaaGreat
