/- Rs3 Rs4 -/
import Derived.Test.YtedgpfgccpnjnaaGreatFRs1
import Derived.Test.YtedgpfgccpnjnaaGreatFR8
import Derived.Test.YtedgpfgccpnjnaaGreatFRr1
namespace Go.Proofs.YtedgpfgccpnjnaaGreat
section
open Go.Lib (hid)
set_option maxRecDepth 100000
set_option maxHeartbeats 16000000
open Go.RowKit Go.Sort
theorem qProve {w:World} {P:Pl} {c:Cl} {pb pa pf:Nat} {s:Sr} (hl:QClB w P c) (hs:QSrB w pb pa pf s) (hne:P.bc≠pb) (x:Iv) (raw:Int) (h0: -9223372036854775808≤raw-s.sent∧raw-s.sent≤9223372036854775807) (h1: -9223372036854775808≤raw-s.pat∧raw-s.pat≤9223372036854775807) :
  Calls Tryz.prog 62 #[.pointer (some ⟨P.bc,0,none⟩),.pointer (some ⟨pb,0,none⟩),ivV x,.int .i64 raw] w fun e w'=>e=.returned (.tuple #[])∧QSrB w' pb pa pf (sProve s x raw c.cf.tol)∧Only [pb] w w':=by
 have HAG:=hid (fun w' (o:Only [pb] w w')=>qAged (show QClB w' P c from o.got hl (by simpa using hne)) s.prf s.pat raw h1);have HT:=hid (fun w'=>qTrip x (raw-s.sent) c.cf.tol w');have r1:IntKind.i64.wrap (raw-s.sent)=raw-s.sent:=by rw[IntKind.wrap_i64];omega
 obtain⟨res,HE⟩:∃ zz,Hid (sProve s x raw c.cf.tol=zz):=⟨_,hid rfl⟩;rw[HE.out];unfold sProve at HE;generalize tripI x (raw-s.sent) c.cf.tol=tr at HT HE;obtain⟨⟨fl,fh⟩,er⟩:=tr;dsimp only at HT HE;have HCP:=hid (fun w'=>qClip ⟨fl,fh⟩ w');generalize clipI ⟨fl,fh⟩=cp at HCP HE;obtain⟨cl,ch⟩:=cp;generalize agedC s.prf s.pat raw c.cf.tol=ag at HAG HE;obtain⟨al,ah⟩:=ag;have HW1:=hid (fun w'=>qWidth ⟨cl,ch⟩ w');have HW2:=hid (fun w'=>qWidth ⟨al,ah⟩ w');generalize widI ⟨cl,ch⟩=wf at HW1 HE;generalize widI ⟨al,ah⟩=wa at HW2 HE;obtain⟨xl,xh⟩:=x;simp only[ivV] at HT HCP HAG HW1 HW2 ⊢;unfold QClB at hl;unfold QSrB at hs;clear h0 h1;rcases hhp:s.hp with _ | _
 focus
  rw[hhp] at hs HE;have HHP:=hid hhp;clear hhp;rcases Decidable.em (er=0) with he|he
  focus
   subst he;rw[if_pos rfl] at HE;rw[if_neg (by simp)] at HE
  rotate_left 1
  focus
   rw[if_neg he] at HE;have q1:(er != 0)=true:=by simpa using he
 rotate_left 2
 focus
  rw[hhp] at hs HE;have HHP:=hid hhp;clear hhp;rcases Decidable.em (er=0) with he|he
  focus
   subst he;rw[if_pos rfl] at HE;by_cases hw:wa<wf
   focus
    have dhw:decide (wa<wf)=true:=decide_eq_true hw;rw[if_pos ⟨rfl,hw⟩] at HE
   rotate_left 1
   focus
    have dhw:decide (wa<wf)=false:=decide_eq_false hw;rw[if_neg (fun h=>hw h.2)] at HE
  rotate_left 2
  focus
   rw[if_neg he] at HE;have q1:(er != 0)=true:=by simpa using he
 all_goals obtain rfl:=HE.out
 all_goals clear HE
 all_goals have m:Mm w [pb] w _:=⟨((Mem.start w [pb]).ext false hl (by simp) (by simp)).ext true hs (by simp;omega) (by simp)⟩
 all_goals have k:=m.out.k
 all_goals clear hl hs
 all_goals
  go_enter Tryz.func62,Tryz.ntmps62
  go_wp2_with (first|((with_reducible first|refine cM (HT.out _) ?_|refine cM (HCP.out _) ?_|refine cM (HAG.out _ m.out.only) ?_|refine cM (HW1.out _) ?_|refine cM (HW2.out _) ?_|refine wU ?_);clear k m;intro w m k)|((with_reducible refine rA (id:=1) [0,1,2,3,4,5,6,7,8,9,10,11,12,13,14] [15] 16 [17,18] (by kernel_rfl) (by kernel_rfl) ?_);simp only[pick,List.map_cons,List.map_nil,List.getD_cons_succ,List.getD_cons_zero];(repeat (first|(refine wpCalmG_step (fun K hK=>?_);go_simp;refine hK _ ?_;clear hK K)|(refine cG (by kernel_rfl) ⟨_,_,_,?_,fun w' o=>HT.out _,?_⟩;(focus (intro w;go_simp;done)))));refine wpCalmG_nil ?_;(repeat (refine wpCalm_step (fun K hK=>?_);go_simp;refine hK _ ?_;clear hK K));refine wpCalm_nil ?_;clear k m;intro w o m k;refine wpOp_one rfl ?_;go_wp2;simp only[nrm];refine⟨o.alloc _,tW ?_⟩;clear o;clear k m;intro w m k;unfold wpTail;refine wpOp_one rfl ?_;go_wp2;simp only[nrm];refine tW ?_;clear k m;intro w m k;unfold wpTail;refine wpOp_one rfl ?_;go_wp2;simp only[nrm];refine tW ?_;clear k m;intro w m k;unfold wpTail)|((with_reducible refine rG (id:=4) [0,1,2,3,4,5,6,7,8,9,10,11,12,13,14,15,16,17,18,19,20] [] (by kernel_rfl) (by kernel_rfl) ?_);simp only[pick,List.map_cons,List.map_nil,List.getD_cons_succ,List.getD_cons_zero];(repeat' (first|go_big_quiet_step (with_reducible first|exact gX (HT.out _)|exact gX (HCP.out _)|exact gX (HAG.out _ gOP)|exact gX (HW1.out _)|exact gX (HW2.out _))|(refine wpQuiet_step (fun K hK=>?_);go_simp;(first|(refine hK _ ?_;clear hK K)|(split<;>(refine hK _ ?_;clear hK K))))));all_goals (refine wpQuiet_nil ?_;clear k m;intro w m k))|((with_reducible refine rX (id:=5) [0,1,2,4,5,6] [3,7,10,13] 8 (by kernel_rfl) (by kernel_rfl) ?_);simp only[pick,List.map_cons,List.map_nil,List.getD_cons_succ,List.getD_cons_zero];(repeat (refine wpCalm_step (fun K hK=>?_);go_simp;refine hK _ ?_;clear hK K));refine wpCalm_nil ?_;clear k m;intro w m k;refine xN [3,7] (by kernel_rfl) ?_;simp only[List.mem_cons,List.not_mem_nil,or_false,forall_eq_or_imp,forall_eq];refine⟨?_,?_⟩;(focus (refine wpOp_one rfl ?_;go_wp2;simp only[nrm];refine⟨late_of (by kernel_rfl),tW ?_⟩;clear k m;intro w m k;refine xN [7] (by kernel_rfl) ?_;simp only[List.mem_cons,List.not_mem_nil,or_false,forall_eq];refine wpOp_one rfl ?_;go_wp2;simp only[nrm];refine⟨late_of (by kernel_rfl),tW ?_⟩;clear k m;intro w m k;refine xN [8] (by kernel_rfl) ?_;simp only[List.mem_cons,List.not_mem_nil,or_false,forall_eq];refine wpOp_one rfl ?_;go_wp2;simp only[nrm];refine⟨late_of (by kernel_rfl),tW ?_⟩;clear k m;intro w m k;refine xN [9] (by kernel_rfl) ?_;simp only[List.mem_cons,List.not_mem_nil,or_false,forall_eq];refine wpOp_one rfl ?_;go_wp2;simp only[nrm];refine⟨late_of (by kernel_rfl),tW ?_⟩;clear k m;intro w m k;refine xN [10] (by kernel_rfl) ?_;simp only[List.mem_cons,List.not_mem_nil,or_false,forall_eq];refine wpOp_one rfl ?_;go_wp2;simp only[nrm];refine⟨late_of (by kernel_rfl),tW ?_⟩;clear k m;intro w m k;refine xN [11] (by kernel_rfl) ?_;simp only[List.mem_cons,List.not_mem_nil,or_false,forall_eq];refine wpOp_one rfl ?_;go_wp2;simp only[nrm];refine⟨late_of (by kernel_rfl),tW ?_⟩;clear k m;intro w m k;refine xN [12] (by kernel_rfl) ?_;simp only[List.mem_cons,List.not_mem_nil,or_false,forall_eq];refine wpOp_one rfl ?_;go_wp2;simp only[nrm];refine⟨late_of (by kernel_rfl),tW ?_⟩;clear k m;intro w m k;refine xN [13] (by kernel_rfl) ?_;simp only[List.mem_cons,List.not_mem_nil,or_false,forall_eq];refine wpOp_one rfl ?_;go_wp2;simp only[nrm];refine⟨late_of (by kernel_rfl),tW ?_⟩;clear k m;intro w m k;unfold wpX));rotate_left 1;(focus (refine wpOp_one rfl ?_;go_wp2;simp only[nrm];refine⟨late_of (by kernel_rfl),tW ?_⟩;clear k m;intro w m k;refine xN [3] (by kernel_rfl) ?_;simp only[List.mem_cons,List.not_mem_nil,or_false,forall_eq];refine wpOp_one rfl ?_;go_wp2;simp only[nrm];refine⟨late_of (by kernel_rfl),tW ?_⟩;clear k m;intro w m k;refine xN [8] (by kernel_rfl) ?_;simp only[List.mem_cons,List.not_mem_nil,or_false,forall_eq];refine wpOp_one rfl ?_;go_wp2;simp only[nrm];refine⟨late_of (by kernel_rfl),tW ?_⟩;clear k m;intro w m k;refine xN [9] (by kernel_rfl) ?_;simp only[List.mem_cons,List.not_mem_nil,or_false,forall_eq];refine wpOp_one rfl ?_;go_wp2;simp only[nrm];refine⟨late_of (by kernel_rfl),tW ?_⟩;clear k m;intro w m k;refine xN [10] (by kernel_rfl) ?_;simp only[List.mem_cons,List.not_mem_nil,or_false,forall_eq];refine wpOp_one rfl ?_;go_wp2;simp only[nrm];refine⟨late_of (by kernel_rfl),tW ?_⟩;clear k m;intro w m k;refine xN [11] (by kernel_rfl) ?_;simp only[List.mem_cons,List.not_mem_nil,or_false,forall_eq];refine wpOp_one rfl ?_;go_wp2;simp only[nrm];refine⟨late_of (by kernel_rfl),tW ?_⟩;clear k m;intro w m k;refine xN [12] (by kernel_rfl) ?_;simp only[List.mem_cons,List.not_mem_nil,or_false,forall_eq];refine wpOp_one rfl ?_;go_wp2;simp only[nrm];refine⟨late_of (by kernel_rfl),tW ?_⟩;clear k m;intro w m k;refine xN [13] (by kernel_rfl) ?_;simp only[List.mem_cons,List.not_mem_nil,or_false,forall_eq];refine wpOp_one rfl ?_;go_wp2;simp only[nrm];refine⟨late_of (by kernel_rfl),tW ?_⟩;clear k m;intro w m k;unfold wpX));rotate_left 1)|((with_reducible refine lE (fun w o g k K hK=>⟨rfl,?_⟩));simp[results,Tryz.results62,go_sem];refine hK _ ?_;clear hK K k;skip;first|exact⟨rfl,Has.h w g,o⟩|exact⟨rfl,(by unfold QSrB;rw[HHP.out];exact Has.h w g),o⟩)|((with_reducible refine lN ?_ ?_ (fun w o g=>?_));(· rfl);(· rfl);first|exact⟨rfl,Has.h w g,o⟩|exact⟨rfl,(by unfold QSrB;rw[HHP.out];exact Has.h w g),o⟩))
end
section
set_option maxRecDepth 100000
set_option maxHeartbeats 4000000
open Go.RowKit Go.Sort
theorem qClReach {M:List Nat} {w:World} {P:Pl} {c:Cl} (h:QClAt M w P c) (i:Nat) (hi:i<P.ps.length) (hic:i<c.srcs.length)  :
  Calls Tryz.prog 45 #[.pointer (some ⟨P.bc,0,none⟩),.int .i64 i] w fun e w'=>e=.returned (rcV c.srcs[i].rc)∧Only [] w w':=by
 obtain⟨pb,pa,pf,hp⟩:∃ pb pa pf,P.ps[i]=(pb,pa,pf):=⟨_,_,_,rfl⟩;obtain⟨⟨d1,d2,d3,d4,d5,d6⟩,d7,d8,d9⟩:=pl_at h.nd hi hp;have hpt:=h.ptr hi;have hsb:=(h.src i hi hic).b;have hcl:=h.cl;rw[hp] at hpt hsb;unfold QSrB at hsb;unfold QClB at hcl;generalize c.srcs[i]=s at hsb ⊢;have HX:=Lib.hid (fun w' (o:Only [] w w')=>And.intro (Nat.lt_of_lt_of_le hpt.1 o.size) ((o.cell hpt.1 (by simp)).trans hpt.2));have hii:(i:Int)<(P.ps.length:Int):=by omega
 have hn0:¬ (i:Int)<0:=by omega
 obtain⟨wo,hwo⟩:∃ wo:World,wo=w:=⟨_,rfl⟩;subst hwo;have m:Mm wo [] wo _:=⟨((Mem.start wo []).ext false hcl (by simp) (by simp)).ext false hsb (by simp;omega) (by simp)⟩;have k:=m.out.k;have c:=HX.out wo (Only.refl _ wo);clear hcl hsb hp;unfold rcV;go_enter Tryz.func45,Tryz.ntmps45
 go_wp2_with (first|((with_reducible first|refine cU ?_|refine wU ?_);clear k m c;intro w m k;have c:=HX.out w m.out.only)|((with_reducible refine lE (fun w o g k K hK=>⟨rfl,?_⟩));simp[results,Tryz.results45,go_sem,k];refine hK _ ?_;exact⟨rfl,o⟩))
end
end Go.Proofs.YtedgpfgccpnjnaaGreat
