/- NetsimPolls: the schedule of the polls, and what references state, are the specified ones: the law returns true for every input. No condition. -/
import Derived.Test.YthbgcpfklmlnjaaGreatFLb
import Derived.Test.YthbgcpfklmlnjaaGreatFOl
namespace Go.Proofs.YthbgcpfklmlnjaaGreat
set_option linter.all false
set_option maxRecDepth 100000
set_option maxHeartbeats 8000000
open Go.RowKit
section
open Go.Sort
open Go.Lib (hid)
theorem pNPolls {w:World} (s:dU) (h0:s.Ok0 w) (a0 a1 a2 a3:Int) {R:List (Int × Int)} (hR:tT w R) :
  Calls Tryz.prog 3 #[fZ s,.agg #[.int .i64 a0,.int .i64 a1,.int .i64 a2,.int .i64 a3]] w fun e w'=>e=.returned (.bool true)/\Only [] w w':=by
 have HFEW:=hid (fun w' (o:Only [] w w')=>pFew s (h0.nd.kept o) (h0.lk.kept o));have HAW:=hid (fun w' (o:Only [] w w')=>pAwake (hR.kept o));have HT:=hid (fun (hf:NR s) w' (o:Only [] w w')=>pTruth s ((h0.ok hf).kept o) a0 a3);have HU:=hid (fun (hf:NR s) w' (o:Only [] w w')=>rTruth s ((h0.ok hf).kept o) a0 a3);have HP:=hid (fun (hf:NR s) w' (o:Only [] w w')=>pPollN s ((h0.ok hf).kept o) a0 a1 a2);have HQ:=hid (fun (hf:NR s) w' (o:Only [] w w')=>rPollN s ((h0.ok hf).kept o) a0 a1 a2);clear h0 hR;obtain⟨tr,htr⟩:∃ tr,FN s.sc a0 a3=tr:=⟨_,rfl⟩;obtain⟨pf,hpf⟩:∃ pf,L6 s.sc a0 a1 a2=pf:=⟨_,rfl⟩;rw[htr] at HT HU;rw[hpf] at HP HQ;clear htr hpf;obtain⟨⟨lo,hi⟩,er⟩:=tr;obtain⟨wo,hwo⟩:∃ wo:World,wo=w:=⟨_,rfl⟩;subst hwo;unfold fZ dS at *;dsimp only at HT HU;have m:=dD wo [];have k:=m.out.k;go_enter Tryz.func3,Tryz.ntmps3
 go_wp2_with ((with_reducible first|refine cU ?_|refine wU ?_);clear k m;intro w m k)
 refine (HFEW.out _ m.out.only).mono ?_;rintro r w2 ⟨b,rfl,hb,o2⟩;replace m:Mm wo [] w2 _:=⟨m.out.call o2⟩;clear k o2 HFEW;have k:=m.out.k
 cases b with
 | false =>
  go_wp2_with (first|((with_reducible first|refine cM (HAW.out _ gO) ?_|refine cU ?_|refine wU ?_);clear k m;intro w m k)|((with_reducible refine lE (fun w o g k K hK=>⟨rfl,?_⟩));simp[results,Tryz.results3,go_sem];refine hK _ ?_;exact⟨rfl,o⟩))
 | true =>
  have HF:=hb rfl;have HT1:=hid (HT.out HF);have HU1:=hid (HU.out HF);have HP1:=hid (HP.out HF);have HP2:=hid (HQ.out HF);clear HT HU HP HQ hb HF;go_wp2_with (first|((with_reducible first|refine cM (HT1.out _ gO) ?_|refine cM (HU1.out _ gO) ?_|refine cU ?_|refine wU ?_);clear k m;intro w m k)|((with_reducible refine rG (id:=5) [0,1,2,3,4,5,6,7,8,9,10,11,12,13,14,15,16,17,18,19,20,21,22,23,24,25,26,27,28,29,30] [] (by kernel_rfl) (by kernel_rfl) ?_);simp only[pick,List.map_cons,List.map_nil,List.getD_cons_succ,List.getD_cons_zero];(repeat' (first|go_big_quiet_step (with_reducible first|exact gX (HP1.out _ S9)|exact gX (HP2.out _ S9)|exact gX (HAW.out _ S9))|(refine wpQuiet_step (fun K hK=>?_);go_simp;(first|(refine hK _ ?_;clear hK K)|(split<;>(refine hK _ ?_;clear hK K))))));all_goals (refine wpQuiet_nil ?_;clear k m;intro w m k))|((with_reducible refine lE (fun w o g k K hK=>⟨rfl,?_⟩));simp[results,Tryz.results3,go_sem];refine hK _ ?_;exact⟨rfl,o⟩))
end
section
open Go.ChangeShapes Go.WideShapes Go.ChangeAt Go.Deep
section
variable {H:Type} {enc:TypeId × Value->H} {w:World}
structure AskI where
 n:Int
 s:Int
 k:Int
 a:Int
theorem YA {r:Reach} {b0:Nat} {v:Value} {d:DataW H} {ps:List MemPlace} (hval:Value.okWide Tryz.prog w r b0 29 v) (h:DataW.Trod enc Tryz.prog w 0 (fun _=>true) true 29 v d ps):∃ x:AskI,v=.agg #[.int .i64 x.n,.int .i64 x.s,.int .i64 x.k,.int .i64 x.a]:=by
 obtain⟨cs,rfl,hsz⟩:=okWide_struct Tryz.underlying29 hval;obtain⟨m,hx⟩:=h;obtain⟨l⟩:=cs;obtain⟨zs,hl,hc,-⟩:=ints_of_struct Tryz.underlying29 (by kernel_rfl) (by kernel_rfl) (by kernel_rfl) hx;simp only[Value.cells] at hc;match zs,hl with
 | [z0,z1,z2,z3],_ =>
  refine⟨⟨z0,z1,z2,z3⟩,?_⟩;rw[hc];rfl
end
end
section
open Go.ChangeShapes Go.WideShapes Go.ChangeAt Go.Deep
theorem tJ (os:Os) (started:os.Started) (H:Type) (enc:TypeId × Value->H) :
  ReturnsInHanded {} Tryz.checked os 3 .any (Rows.netsimPollsSpec.pre6 enc Tryz.prog Tryz.f3 Rows.netsimPollsRow.domain false) (Rows.netsimPollsSpec.post enc Tryz.prog Tryz.f3 false true false false):=by
 refine returnsInHanded_of_change_shaped (C:=Tryz.checked) law_own started (by kernel_rfl) Tryz.func3
  (ChangeSpec.witness6 (enc:=enc) (C:=Tryz.checked) false ⟨#[],#[.agg #[.slice none 0 0,.slice none 0 0,.slice none 0 0,.int .i64 0,.int .u64 0],.agg #[.int .i64 0,.int .i64 0,.int .i64 0,.int .i64 0]],[]⟩ 8 (by kernel_rfl) (by kernel_rfl) (by kernel_rfl) (by kernel_rfl)) ?_
 intro W base args ds gs before hval0 hW hcnd _ hsh _;have hval:∀ (j:Nat) t v,Tryz.f3.params[j]? = some t->args[j]? = some v->Value.okWide Tryz.prog W .any base t v:=hval0;have hW':=hW;obtain⟨p,q,hA0,hV,rfl,hfz,hnd⟩:=hW;have hA:DataW.TrodAll enc Tryz.prog W 0 (fun _=>true) true Tryz.f3.params.toList args.toList ds p:=hA0;rw[Tryz.params3] at hA hval;obtain⟨v0,vs0,d0,ds0,p0,q0,hargs,rfl,rfl,h0,r0⟩:=trodAll_cons hA;obtain⟨v1,vs1,d1,ds1,p1,q1,rfl,rfl,rfl,h1,r1⟩:=trodAll_cons r0;obtain⟨rfl,rfl,rfl⟩:=trodAll_nil r1;obtain rfl:args=#[v0,v1]:=by cases args;simp_all
 obtain⟨rfl,rfl⟩:=trodVars_none hV;have k0:=h0;have lt0:∀ x∈p0,x.block<W.heap.size:=by obtain⟨m,hm⟩:=k0;exact DataW.trod_lt m _ _ _ hm
 obtain⟨s0,rfl,g0⟩:=VF (hval 0 27 v0 rfl rfl) h0;have k1:=h1;have lt1:∀ x∈p1,x.block<W.heap.size:=by obtain⟨m,hm⟩:=k1;exact DataW.trod_lt m _ _ _ hm
 obtain⟨x1,rfl⟩:=YA (hval 1 29 v1 rfl rfl) h1;clear hA0 hval0;obtain⟨R,hR⟩:=rnds_of hsh;refine (pNPolls s0 g0 x1.n x1.s x1.k x1.a hR).mono fun e W' ⟨he,ho⟩=>?_;subst he;have bel:Below W.heap.size W W':=ho.wF;exact⟨_,rfl,_,_,_,[],_,[],hW',trodAll_mk1 (shut_bool Tryz.underlying4 _),(trodAll_cons_mk (Below.trod xH (by kernel_rfl) (of_decide_eq_true (by kernel_rfl)) k0 bel lt0) (trodAll_cons_mk (Below.trod xH (by kernel_rfl) (of_decide_eq_true (by kernel_rfl)) k1 bel lt1) trodAll_mk0)),rfl,bel.frame _,fun h=>by cases h⟩
theorem u7:Tryz.pinned.checked.prog.funcNamed Rows.netsimPollsRow.func=some 3:=by kernel_rfl
theorem u6:joinedFacts Tryz.pinned.checked.prog 3 Tryz.f3 Rows.netsimPollsSpec Rows.netsimPollsRow=true:=by kernel_rfl
theorem uZ:(Tryz.f3).isInstance Tryz.pinned.checked.prog Rows.netsimPollsRow.origin Rows.netsimPollsRow.targs:=of_decide_eq_true (by kernel_rfl)
theorem uY:(Tryz.f3).isWrapper Tryz.pinned.checked.prog Rows.netsimPollsRow.wrapper Rows.netsimPollsRow.mainSum:=by unfold Func.isWrapper;first|(rw[if_pos (by decide +kernel)];kernel_rfl)|(rw[if_neg (by decide +kernel)];exact⟨rfl,rfl⟩)
theorem wG:Rows.netsimPollsRow.holds Tryz.pinned (OpenSpec.ofChange Rows.netsimPollsSpec):=
 OpenClaim.holds_of_wide 3 Tryz.f3 rfl rfl rfl rfl rfl rfl rfl ⟨rfl,rfl,rfl,rfl,rfl⟩ rfl rfl rfl rfl rfl u7 Tryz.func3 u6 uZ uY
  (fun os started H enc _=>tJ os started H enc)
theorem netsimPolls_holds:Rows.NetsimPollsSaid:=wG
end
end Go.Proofs.YthbgcpfklmlnjaaGreat
