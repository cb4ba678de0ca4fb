/- Rs5 Rs6 Rs7 -/
import Derived.Test.YtedgpfgccpnjnaaGreatFRs1
import Derived.Test.YtedgpfgccpnjnaaGreatFRp1
import Derived.Test.YtedgpfgccpnjnaaGreatFRr7
import Derived.Test.YtedgpfgccpnjnaaGreatFR8
import Derived.Test.YtedgpfgccpnjnaaGreatFRra
namespace Go.Proofs.YtedgpfgccpnjnaaGreat
section
open Go.Lib (hid)
set_option maxRecDepth 100000
set_option maxHeartbeats 16000000
open Go.RowKit Go.Sort
theorem qHonest {M:List Nat} {w:World} {P:Pl} {c:Cl} (h:QClAt M w P c) (hn:P.ps.length≤12) (hsv:c.cf.servers=(P.ps.length:Int)) (h1:1≤P.ps.length) (raw:Int) (hb:∀ s∈c.srcs,-9223372036854775808≤raw-s.pat∧raw-s.pat≤9223372036854775807) :
  Calls Tryz.prog 133 #[.pointer (some ⟨P.bc,0,none⟩),.int .i64 raw] w fun e w'=>e=.returned (ivV (honC c raw))∧Only [] w w':=by
 have HC:=hid h;have hlen:=h.len;obtain⟨res,HE⟩:∃ zz,Hid (honC c raw=zz):=⟨_,hid rfl⟩;rw[HE.out];unfold honC at HE;rw[hsv] at HE;have hl:=h.cl;unfold QClB at hl;have HL:=hid hl;obtain⟨wo,hwo⟩:∃ wo:World,wo=w:=⟨_,rfl⟩;subst hwo;have m:=mmR hl;have k:=m.out.k;clear hl;go_enter Tryz.func133,Tryz.ntmps133
 go_wp2_with ((with_reducible first|refine cU ?_|refine wU ?_);clear k m;intro w m k)
 have HI:=hid m.out.only;have h4:=gB (w:=w) (b:=wo.heap.size);have H4:=hid h4;obtain⟨wl,hwl⟩:∃ wl:World,wl=w:=⟨_,rfl⟩;subst hwl;clear k m h4;go_loopw [5,6] (fun vo vi wr=>∃ k:Nat,k≤P.ps.length∧vi=.int .i64 k∧Own ivC 43 2 wl.heap.size wr vo ((c.srcs.take k).map (prfC raw c.cf.tol))∧Only [] wl wr) (fun _ vi _=>P.ps.length-(intOf vi).toNat)
 case atStart=>exact⟨0,Nat.zero_le _,rfl,own_nil _ _,Only.refl _ _⟩
 case round =>
  obtain⟨j,hj,rfl,hown,ho⟩:=hrel;have OW:=hid hown;have OO:=hid ho;have HCW:=hid (HC.out.kept (HI.out.nil_trans ho));have hcl:=HCW.out.cl;unfold QClB at hcl;by_cases hlt:j<P.ps.length
  ·have hlt2:(j:Int)<(P.ps.length:Int):=by omega
   have hjc:j<c.srcs.length:=hlen ▸ hlt;obtain⟨pb,pa,pf,hp⟩:∃ pb pa pf,P.ps[j]=(pb,pa,pf):=⟨_,_,_,rfl⟩;obtain⟨⟨d1,d2,d3,d4,d5,d6⟩,d7,d8,d9⟩:=pl_at h.nd hlt hp;have hpt:=HCW.out.ptr hlt;have hsb:=(HCW.out.src j hlt hjc).b;rw[hp] at hpt hsb;have HLT:=hid hlt;unfold QSrB at hsb;have HX:=hid (fun w' (o:Only [] wr w')=>And.intro (Nat.lt_of_lt_of_le hpt.1 o.size) ((o.cell hpt.1 (by simp)).trans hpt.2));have HS:=hid (show (c.srcs.take (j+1)).map (prfC raw c.cf.tol)=(c.srcs.take j).map (prfC raw c.cf.tol) ++ [prfC raw c.cf.tol c.srcs[j]] by rw[take_snoc c.srcs hjc,List.map_append];rfl);have HAG:=hid (fun w' (o:Only [] wr w')=>qAged (show QClB w' P c from o.got hcl (by simp)) c.srcs[j].prf c.srcs[j].pat raw (hb _ (List.getElem_mem hjc)));have HEV:=hid (fun w'=>qEvery w');have hal:((c.srcs.take j).map (prfC raw c.cf.tol)).length≤j:=by rw[List.length_map,List.length_take];omega
   generalize hs2:(c.srcs.take (j+1)).map (prfC raw c.cf.tol)=s2 at HS;have H2:=hid hs2;generalize (c.srcs.take j).map (prfC raw c.cf.tol)=acc at OW HS hal;unfold prfC at HS;generalize c.srcs[j]=s at HS HAG hsb;obtain⟨pv,cap2,rfl,-⟩:=Own.vrow (enc:=ivC) (s:=2) ivC_len OW.out;clear hs2 hown ho hp;rcases hhp:s.hp with _ | _
   focus
    rw[hhp] at hsb HS;rw[if_neg (by simp)] at HS;generalize evI=ev at HS HEV;obtain⟨x1,x2⟩:=ev;simp only[ivV] at HEV;have m:Mm wr [] wr _:=⟨((Mem.start wr []).ext false hcl (by simp) (by simp)).ext false hsb (by simp;omega) (by simp)⟩;have k:=m.out.k;have c:=HX.out wr (Only.refl _ wr);clear hcl hsb;go_wp2_with (first|((with_reducible first|refine cU ?_|refine cM (HEV.out _) ?_|refine wU ?_);clear k m c;intro w m k;have c:=HX.out w m.out.only)|(at_builtin;refine stop_here ?_))
    have OQ:=hid (OO.out.nil_trans m.out.only);have RQ:=hid (OW.out.kept m.out.only);refine alloc_abs (G:=fun w0=>Stop (wpList _ _ _ _ _ w0)) ?_;intro w5 hb5 ho5 hs5;have B5:=hid hb5;have O5:=hid (OQ.out.nil_trans ho5);have R5:=hid (RQ.out.kept ho5);clear hb5 ho5 hs5;refine stop_go ?_;refine wpList_append_one (w0:=wl) rfl _ _ 182 rfl 43 (.agg #[.int .i64 0,.int .i64 0]) 2 16 Tryz.underlying182 (by kernel_rfl) rfl (by decide) ivC ivC_len ivC_one acc _ rfl R5.out _ ⟨x1,x2⟩ rfl (fun j u hj=>?_) (by simp[maxLen];omega) (by omega) O5.out ?_
    focus
     rw[cell_got B5.out,←hj];simp[ivC]
    intro v6 w6 hown6 ho6 _;have W6:=hid hown6;have O6:=hid ho6;clear hown6 ho6
   rotate_left
   focus
    rw[hhp] at hsb HS;rw[if_pos rfl] at HS;generalize agedC s.prf s.pat raw c.cf.tol=ag at HS HAG;obtain⟨x1,x2⟩:=ag;simp only[ivV] at HAG;have m:Mm wr [] wr _:=⟨((Mem.start wr []).ext false hcl (by simp) (by simp)).ext false hsb (by simp;omega) (by simp)⟩;have k:=m.out.k;have c:=HX.out wr (Only.refl _ wr);clear hcl hsb;go_wp2_with ((with_reducible first|refine cU ?_|refine wU ?_);clear k m c;intro w m k;have c:=HX.out w m.out.only)
    refine rY (id:=7) [0,1,2,3,4,5,6,7,8,9,10,11] [] [13,14] 3 (by kernel_rfl) (by kernel_rfl) ?_;simp only[pick,List.map_cons,List.map_nil,List.getD_cons_succ,List.getD_cons_zero]
    (repeat (first|(refine wpCalmG_step (fun K hK=>?_);go_simp;refine hK _ ?_;clear hK K)|(refine cG (by kernel_rfl) ⟨_,_,_,?_,fun w' o=>HAG.out w' o,?_⟩;(focus (intro w;go_simp;done)))));refine wpCalmG_nil ?_;(repeat (refine wpCalm_step (fun K hK=>?_);go_simp;refine hK _ ?_;clear hK K));refine wpCalm_nil ?_
    intro w0 o2 _ _;have O0:=hid o2;clear o2;refine yN [12] (by kernel_rfl) ?_;simp only[List.mem_cons,List.not_mem_nil,or_false,forall_eq];refine wpOp_one rfl ?_;go_wp2;simp only[nrm];refine⟨.inr (O0.out.alloc _),fun w1 o2=>?_⟩;have RL:=hid ((row_lit (enc:=ivC) (s:=2) (e:=43) (w:=w0) (l:=[⟨x1,x2⟩]) ivC_len rfl (by simp[maxLen])).kept o2 (by simp));have O1:=hid ((O0.out.alloc _).nil_trans o2);have RA:=hid (OW.out.kept O1.out);have HBW:=hid (OO.out.nil_trans O1.out).size;clear o2 m k c;generalize w0.heap.size=ad at RL ⊢;refine yN [13] (by kernel_rfl) ?_;simp only[List.mem_cons,List.not_mem_nil,or_false,forall_eq];refine wpOp_one rfl ?_;refine wpList_app rfl _ _ 182 rfl 43 (.agg #[.int .i64 0,.int .i64 0]) 2 16 Tryz.underlying182 (by kernel_rfl) rfl (by decide) ivC ivC_len ivC_one wl.heap.size HBW.out acc _ (by rfl) RA.out _ _ _ [⟨x1,x2⟩] (by rfl) (RL.out.vrow ivC_len rfl) (by simp[maxLen];omega) (by simp;omega) ?_;intro vv v3 hown hoo;have hoB:=(OO.out.nil_trans O1.out).trans hoo (fun x hx=>.inr (RA.out.block_ge x hx));go_wp2;simp only[nrm];refine⟨.inl (late_of (by kernel_rfl)),fun w4 o4=>?_⟩;have W4:=hid (hown.kept o4);have O4:=hid (hoB.nil_trans o4);clear hown hoo hoB o4;refine yN [14] (by kernel_rfl) ?_;simp only[List.mem_cons,List.not_mem_nil,or_false,forall_eq];refine wpOp_one rfl ?_;go_wp2;simp only[nrm];refine⟨.inl (late_of (by kernel_rfl)),fun w6 o6=>?_⟩;have W6:=hid (W4.out.kept o6);have O6:=hid (O4.out.nil_trans o6);clear o6;unfold wpY
   rotate_left
   all_goals
    go_wp2;go_roundw
    case rel=>exact⟨j+1,HLT.out,by go_num,(by rw[H2.out,HS.out];exact W6.out),O6.out⟩
    case measure=>first|(have:=HLT.out;simp[intOf];done)|(have:=HLT.out;simp[intOf];omega)
  ·obtain rfl:j=P.ps.length:=by omega
   rw[hlen,List.take_length] at hown;generalize hll:c.srcs.map (prfC raw c.cf.tol)=l at HE hown;have hlL:l.length=P.ps.length:=by rw[←hll,List.length_map,hlen]
   have hge:=hown.block_ge;obtain⟨pv,cap2,rfl,hv2⟩:=Own.vrow (enc:=ivC) (s:=2) ivC_len hown;have hbw:=got_lt H4.out
   have hpv:∀ a,pv=some a→a.block ∉ [wo.heap.size]:=fun a ha hm=>by
    rcases hown with ⟨h,-⟩|⟨g,cp,h,hge,hr⟩
    ·rw[ha] at h;cases h
    ·simp only[Value.slice.injEq] at h
     rw[ha] at h;obtain⟨h,-⟩:=h;simp only[Option.some.injEq] at h;subst h;have:=List.mem_singleton.1 hm;dsimp only at this;omega
   have HH:=hid (fun w' (o:Only [wo.heap.size] wr w')=>qHonI (hv2.kept' o hpv) (by omega) (((P.ps.length:Int)-1) / 2));have HEV:=hid (fun w'=>qEvery w');rw[hlL] at HH ⊢;obtain⟨n,hnn⟩:∃ n,P.ps.length=n:=⟨_,rfl⟩;have e0:((P.ps.length:Int)-1).tdiv 2=((P.ps.length:Int)-1) / 2:=Int.tdiv_eq_ediv_of_nonneg (by omega);have e1:IntKind.i64.wrap ((P.ps.length:Int)-1)=(P.ps.length:Int)-1:=by rw[IntKind.wrap_i64];omega
   have e2:IntKind.i64.wrap (((P.ps.length:Int)-1) / 2)=((P.ps.length:Int)-1) / 2:=by rw[IntKind.wrap_i64];omega
   generalize honI l (((P.ps.length:Int)-1) / 2)=hi at HE HH;have h4:=ho.got H4.out (by simp);have hbc:=h.lt P.bc (by simp[Pl.all]);have m:Mm wr [wo.heap.size] wr _:=⟨((Mem.start wr [wo.heap.size]).ext false hcl (by simp) (by simp)).ext true h4 (by simp;omega) (by simp)⟩;have k:=m.out.k;clear hcl h4 hown hge hv2 hll hnn hlt hj ho hlen hlL;have HF:=hid (fun w' (o:Only [wo.heap.size] wr w')=>(HI.out.nil_trans OO.out).trans o (fun x hx=>.inr (by rw[List.mem_singleton.1 hx];exact Nat.le_refl _)));rcases hi with _|⟨a1,a2⟩;all_goals simp only[hullV,ivV] at HH
   all_goals first|(simp only[Option.getD_none] at HE)|(simp only[Option.getD_some] at HE)
   all_goals obtain rfl:=HE.out
   all_goals clear HE
   all_goals simp only[ivV,evI] at HEV
   all_goals go_wp2_with (first|((with_reducible first|refine cU ?_|refine cM (HH.out _ m.out.only) ?_|refine cM (HEV.out _) ?_|refine wU ?_);clear k m;intro w m k)|((with_reducible refine lE (fun w o g k K hK=>⟨rfl,?_⟩));simp[results,Tryz.results133,go_sem,k];refine hK _ ?_;exact⟨rfl,HF.out w o⟩))
end
section
open Go.Lib (hid)
set_option maxRecDepth 100000
set_option maxHeartbeats 4000000
open Go.RowKit Go.Sort
theorem qClRen {M:List Nat} {w:World} {P:Pl} {c:Cl} (h:QClAt M w P c) (hn:P.ps.length≤12) (hsv:c.cf.servers=(P.ps.length:Int)) (h1:1≤P.ps.length) (raw:Int) (hb:∀ s∈c.srcs,-9223372036854775808≤raw-s.pat∧raw-s.pat≤9223372036854775807) (ho: -9223372036854775808≤raw-c.owned∧raw-c.owned≤9223372036854775807)  :
  Calls Tryz.prog 70 #[.pointer (some ⟨P.bc,0,none⟩),.int .i64 raw] w fun e w'=>e=.returned (ivV (renC c raw))∧Only [] w w':=by
 have HH:=hid (fun w' (o:Only [] w w')=>qHonest (h.kept o) hn hsv h1 raw hb);have HAG:=hid (fun w' (o:Only [] w w')=>qAged (h.kept o).cl c.own c.owned raw ho);obtain⟨res,HE⟩:∃ zz,Hid (renC c raw=zz):=⟨_,hid rfl⟩;rw[HE.out];unfold renC at HE;have HM:=hid (fun w'=>qMeet (honC c raw) (agedC c.own c.owned raw c.cf.tol) w');generalize meetI (honC c raw) (agedC c.own c.owned raw c.cf.tol)=mt at HM HE;generalize honC c raw=hh at HH HM HE;generalize agedC c.own c.owned raw c.cf.tol=ag at HAG HM;obtain⟨a1,a2⟩:=hh;obtain⟨b1,b2⟩:=ag;have hl:=h.cl;unfold QClB at hl;rcases mt with _|⟨e1,e2⟩
 focus
  skip
 rotate_left 1
 focus
  skip
 all_goals
  simp only[meetV,ivV] at HH HM HAG;first|(simp only[Option.getD_none] at HE)|(simp only[Option.getD_some] at HE)
  obtain rfl:=HE.out;clear HE;have m:=mmR hl;have k:=m.out.k;clear hl;go_enter Tryz.func70,Tryz.ntmps70
  go_wp2_with (first|((with_reducible first|refine cU ?_|refine cM (HH.out _ m.out.only) ?_|refine wU ?_);clear k m;intro w m k)|((with_reducible refine rA (id:=2) [0,1,2,3,4,5,6,7,8,9,10,11,12,13,14] [15] 16 [17,18] (by kernel_rfl) (by kernel_rfl) ?_);simp only[pick,List.map_cons,List.map_nil,List.getD_cons_succ,List.getD_cons_zero];(repeat (first|(refine wpCalmG_step (fun K hK=>?_);go_simp;refine hK _ ?_;clear hK K)|(refine cG (by kernel_rfl) ⟨_,_,_,?_,fun w' o=>HAG.out w' (m.out.only.nil_trans o),?_⟩;(focus (intro w;go_simp;done)))|(refine cG (by kernel_rfl) ⟨_,_,_,?_,fun w' o=>HM.out w',?_⟩;(focus (intro w;go_simp;done)))));refine wpCalmG_nil ?_;(repeat (refine wpCalm_step (fun K hK=>?_);go_simp;refine hK _ ?_;clear hK K));refine wpCalm_nil ?_;clear k m;intro w o m k;refine wpOp_one rfl ?_;go_wp2;simp only[nrm];refine⟨o.alloc _,tW ?_⟩;clear o;clear k m;intro w m k;unfold wpTail;refine wpOp_one rfl ?_;go_wp2;simp only[nrm];refine tW ?_;clear k m;intro w m k;unfold wpTail;refine wpOp_one rfl ?_;go_wp2;simp only[nrm];refine tW ?_;clear k m;intro w m k;unfold wpTail)|((with_reducible refine lE (fun w o g k K hK=>⟨rfl,?_⟩));simp[results,Tryz.results70,go_sem,k];refine hK _ ?_;exact⟨rfl,o⟩))
theorem qClItv {M:List Nat} {w:World} {P:Pl} {c:Cl} (h:QClAt M w P c) (hn:P.ps.length≤12) (hsv:c.cf.servers=(P.ps.length:Int)) (h1:1≤P.ps.length) (raw:Int) (hb:∀ s∈c.srcs,-9223372036854775808≤raw-s.pat∧raw-s.pat≤9223372036854775807) (ho: -9223372036854775808≤raw-c.owned∧raw-c.owned≤9223372036854775807) (hok:CkOk c.ck)  :
  Calls Tryz.prog 36 #[.pointer (some ⟨P.bc,0,none⟩),.int .i64 raw] w fun e w'=>e=.returned (.tuple #[ivV (itvC c raw).1,.int .i64 (itvC c raw).2])∧Only [] w w':=by
 have HN:=hid (fun w' (o:Only [] w w')=>qClNow (h.kept o) hok raw);have HR:=hid (fun w' (o:Only [] w w')=>qClRen (h.kept o) hn hsv h1 raw hb ho);obtain⟨res,HE⟩:∃ zz,Hid (itvC c raw=zz):=⟨_,hid rfl⟩;rw[HE.out];unfold itvC at HE;generalize clNow c raw=nn at HN HE;obtain⟨nv,ne⟩:=nn;generalize renC c raw=rr at HR HE;obtain⟨a1,a2⟩:=rr;dsimp only at HN HE;simp only[ivV] at HR;by_cases hne:ne=0
 focus
  subst hne;rw[if_pos rfl] at HE
 rotate_left 1
 focus
  rw[if_neg hne] at HE;have q1:(ne != 0)=true:=by simpa using hne
 all_goals
  obtain rfl:=HE.out;clear HE;have m:=mm0 w [];have k:=m.out.k;go_enter Tryz.func36,Tryz.ntmps36
  go_wp2_with (first|((with_reducible first|refine cU ?_|refine cM (HN.out _ m.out.only) ?_|refine cM (HR.out _ m.out.only) ?_|refine wU ?_);clear k m;intro w m k)|((with_reducible refine lE (fun w o g k K hK=>⟨rfl,?_⟩));simp[results,Tryz.results36,go_sem,k];refine hK _ ?_;exact⟨rfl,o⟩))
end
section
open Go.Lib (hid)
set_option maxRecDepth 100000
set_option maxHeartbeats 8000000
open Go.RowKit Go.Sort
theorem fadd_copy {tol:Int} {l:List Smp} (hri:Ris l) (h8:l.length≤8) (hok:∀ s∈l,schk s=0) {j:Nat} (hj:j<l.length):fAdd ⟨tol,l.take j⟩ l[j]=(⟨tol,l.take (j+1)⟩,0):=by
 unfold fAdd;rw[if_pos (hok _ (List.getElem_mem hj))];dsimp only
 have hp:fPush ⟨tol,l.take j⟩ l[j]=⟨tol,l.take (j+1)⟩:=by
  unfold fPush;rw[if_neg (by dsimp only;rw[List.length_take];omega)];rw[take_snoc l hj]
 rcases j with _|q
 ·simp only[List.take_zero,List.getLast?_nil] at hp ⊢
  first|rw[hp]|(simp only[hp])
 ·have hg:(l.take (q+1)).getLast? = some l[q]:=by
   rw[take_snoc l (by omega),List.getLast?_append];rfl
  rw[hg];dsimp only;rw[if_neg (by have:=List.pairwise_iff_getElem.1 hri q (q+1) (by omega) hj (by omega);omega),hp]
theorem qCopied {M:List Nat} {w:World} {b:Nat} {f:Fl} (hf:QFlAt M w b f) (hri:Ris f.l) (h8:f.l.length≤8) (hok:∀ s∈f.l,schk s=0) (tol:Int) (h0:0≤tol) (h1:tol≤500000) (now:Int) :
  Calls Tryz.prog 78 #[.pointer (some ⟨b,0,none⟩),.int .i64 tol,.int .i64 now] w fun e w'=>e=.returned (.tuple #[smV (bstS ⟨tol,f.l⟩ now).1,.int .i64 (bstS ⟨tol,f.l⟩ now).2])∧Only [] w w':=by
 have HN:=hid (fun w'=>qFNew tol h0 h1 w');have HSA:=hid (fun w' (o:Only [] w w')=>qFSamples (hf.kept o (by simp) (by simp)) h8);have HAD:=hid (fun j (hj:j<f.l.length)=>fadd_copy (tol:=tol) hri h8 hok hj);have HRI:=hid hri;obtain⟨bs,hbs⟩:∃ x,bstS ⟨tol,f.l⟩ now=x:=⟨_,rfl⟩;rw[hbs];have HBS:=hid hbs;generalize f.l=l at HSA HAD h8 HBS HRI;clear hf hri hok hbs;obtain⟨wo,hwo⟩:∃ wo:World,wo=w:=⟨_,rfl⟩;subst hwo;have m:=mm0 wo [];have k:=m.out.k;go_enter Tryz.func78,Tryz.ntmps78
 go_wp2_with ((with_reducible first|refine cU ?_|refine wU ?_);clear k m;intro w m k)
 refine (HN.out _).mono ?_;rintro e w2 ⟨⟨g,rfl,hge,hg⟩,ho2⟩;have h4:=gB (w:=w) (b:=wo.heap.size);have HW:=hid (got_lt h4);have O2:=hid (m.out.only.nil_trans ho2);have H4:=hid (ho2.got h4 (by simp));have HG:=hid (hg [g]);clear k m h4 hg ho2;go_wp2_with fail
 refine (HSA.out _ O2.out).mono ?_;rintro e w3 ⟨⟨v,rfl,hown⟩,ho3⟩;have O3:=hid (O2.out.nil_trans ho3);have HG3:=hid (HG.out.kept ho3 (by simp) (by simp));have H43:=hid (ho3.got H4.out (by simp));have hgs:=HG.out.lt;have hbg:=hown.block_ge;have HGE:Hid (wo.heap.size<g):=hid (Nat.lt_of_lt_of_le HW.out hge)
 have hpv:∀ a,(match v with | .slice p _ _=>p | _=>none)=some a→a.block ∉ [g]:=fun a ha hm=>by
  rcases hown with ⟨h,-⟩|⟨q,cp,h,hq,-⟩
  ·rw[h] at ha;cases ha
  ·rw[h] at ha;cases ha
   have:=List.mem_singleton.1 hm;dsimp only at this;omega
 obtain⟨p2,cap2,rfl,hv2⟩:=Own.vrow (enc:=smC) (s:=4) smC_len hown;dsimp only at hpv;have HV:=hid (fun w' (o:Only [g] w3 w')=>hv2.kept' o hpv);clear hown ho3 hbg;go_wp2_with fail
 go_loopw [10] (fun vi wr=>∃ j:Nat,j≤l.length∧vi=.int .i64 j∧QFlAt [g] wr g ⟨tol,l.take j⟩∧Only [g] w3 wr) (fun vi _=>l.length-(intOf vi).toNat)
 case atStart=>exact⟨0,Nat.zero_le _,rfl,HG3.out,Only.refl _ _⟩
 case round =>
  obtain⟨j,hj,rfl,hfl,ho⟩:=hrel;have OO:=hid ho;by_cases hlt:j<l.length
  ·have HA:=hid (fun w' (o:Only [] wr w')=>qFAdd (hfl.kept o (by simp) (by simp)) (by simp) (fun x hx=>by rw[List.mem_singleton.1 hx];exact Nat.lt_of_lt_of_le hfl.lt o.size) (by dsimp only;rw[List.length_take];omega) l[j])
   simp only[HAD.out j hlt] at HA;obtain⟨b2,off,rfl,-,-⟩:=(HV.out w3 (Only.refl _ _)).atS (by omega);have HX:=hid (fun w' (o:Only [] wr w')=>((HV.out wr OO.out).kept o).at1 hlt);have hlt2:(j:Int)<(l.length:Int):=by omega
   generalize l[j]=x at HA HX;obtain⟨x1,x2,x3,x4⟩:=x;simp only[smV] at HA;have HLT:=hid hlt;clear hlt hj ho hfl;have m:=mm0 wr [];have k:=m.out.k;have c:=HX.out wr (Only.refl _ wr);go_wp2_with ((with_reducible first|refine cU ?_|refine wU ?_);clear k m c;intro w m k;have c:=HX.out w m.out.only)
   refine (HA.out _ (Only.refl _ _)).mono ?_;rintro e w5 ⟨rfl,hf5,ho5⟩;have F5:=hid hf5;have O5:=hid (OO.out.trans ho5 (fun x hx=>.inl hx));clear hf5 ho5 m k c;go_wp2;go_roundw
   case rel=>exact⟨j+1,HLT.out,by go_num,F5.out,O5.out⟩
   case measure=>first|(have:=HLT.out;simp[intOf];done)|(have:=HLT.out;simp[intOf];omega)
  ·obtain rfl:j=l.length:=by omega
   rw[List.take_length] at hfl;have HB:=hid (qFBest hfl (by simp) HRI.out h8 now);rw[HBS.out] at HB;have hb4:=ho.got H43.out (by have:=HGE.out;simp;omega);have HF:=hid (fun w5 (o5:Only [g] wr w5) w' (o:Only [wo.heap.size] w5 w')=>(O3.out.trans (OO.out.trans o5 (fun x hx=>.inl hx)) (fun x hx=>.inr (by have:=HGE.out;rw[List.mem_singleton.1 hx];omega))).trans o (fun x hx=>.inr (by rw[List.mem_singleton.1 hx];exact Nat.le_refl _)));obtain⟨⟨s1,s2,s3,s4⟩,er⟩:=bs;simp only[smV] at HB;go_wp2_with fail
   refine HB.out.mono ?_;rintro e w5 ⟨⟨fr,rfl⟩,hf5,ho5⟩;have hb5:=ho5.got hb4 (by have:=HGE.out;simp;omega);have HF5:=hid (HF.out w5 ho5);clear hf5 ho5 hb4 hfl ho;have m:=mm1 hb5;have k:=m.out.k;clear hb5;go_wp2_with (first|((with_reducible first|refine cU ?_|refine wU ?_);clear k m;intro w m k)|((with_reducible refine lE (fun w o g k K hK=>⟨rfl,?_⟩));simp[results,Tryz.results78,go_sem,k];refine hK _ ?_;exact⟨rfl,HF5.out w o⟩))
end
end Go.Proofs.YtedgpfgccpnjnaaGreat
