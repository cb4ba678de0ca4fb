/- ClientPlays: all methods of a client return the specified values, over any script: the law returns true for every input. No condition. -/
import Derived.Test.YtedgpfgccpnjnaaGreatFRta
import Derived.Test.YtedgpfgccpnjnaaGreatFPs
namespace Go.Proofs.YtedgpfgccpnjnaaGreat
set_option maxRecDepth 100000
open Go.ChangeShapes Go.WideShapes Go.ChangeAt Go.RowKit Go.Deep
theorem clientPlays_lifted (os:Os) (started:os.Started) (H:Type) (enc:TypeId × Value→H) :
  ReturnsInHanded {} Tryz.checked os 3 .any (Rows.clientPlaysSpec.pre6 enc Tryz.prog Tryz.f3 Rows.clientPlaysRow.domain false) (Rows.clientPlaysSpec.post enc Tryz.prog Tryz.f3 false true false false):=by
 refine returnsInHanded_of_change (C:=Tryz.checked) law_own started (by kernel_rfl) Tryz.func3
  (ChangeSpec.witness6 (enc:=enc) (C:=Tryz.checked) false ⟨#[],#[.agg #[.int .i64 0,.int .i64 0,.int .i64 0,.int .i64 0,.int .i64 0,.int .i64 0,.int .i64 0,.int .i64 0,.int .i64 0,.int .i64 0,.int .i64 0,.int .i64 0],.agg #[.int .i64 0,.int .i64 0,.int .i64 0,.int .i64 0],.slice none 0 0],[]⟩ 8 (by kernel_rfl) (by kernel_rfl) (by kernel_rfl) (by kernel_rfl)) ?_
 intro W base args ds gs before hval0 hW hcnd _;have hval:∀ (j:Nat) t v,Tryz.f3.params[j]? = some t→args[j]? = some v→Value.okWide Tryz.prog W .any base t v:=hval0;have hW':=hW;obtain⟨p,q,hA0,hV,rfl,hfz,hnd⟩:=hW;have hA:DataW.TrodAll enc Tryz.prog W 0 (fun _=>true) true Tryz.f3.params.toList args.toList ds p:=hA0;rw[Tryz.params3] at hA hval;obtain⟨v0,vs0,d0,ds0,p0,q0,hargs,rfl,rfl,h0,r0⟩:=trodAll_cons hA;obtain⟨v1,vs1,d1,ds1,p1,q1,rfl,rfl,rfl,h1,r1⟩:=trodAll_cons r0;obtain⟨v2,vs2,d2,ds2,p2,q2,rfl,rfl,rfl,h2,r2⟩:=trodAll_cons r1;obtain⟨rfl,rfl,rfl⟩:=trodAll_nil r2;obtain rfl:args=#[v0,v1,v2]:=by cases args;simp_all
 obtain⟨rfl,rfl⟩:=trodVars_none hV;have k0:=h0;have lt0:∀ x∈p0,x.block<W.heap.size:=by obtain⟨m,hm⟩:=k0;exact DataW.trod_lt m _ _ _ hm
 obtain⟨c0,rfl⟩:=open_conf (hval 0 25 v0 rfl rfl) h0;have k1:=h1;have lt1:∀ x∈p1,x.block<W.heap.size:=by obtain⟨m,hm⟩:=k1;exact DataW.trod_lt m _ _ _ hm
 obtain⟨f0,rfl⟩:=open_quad (hval 1 27 v1 rfl rfl) h1;have k2:=h2;have lt2:∀ x∈p2,x.block<W.heap.size:=by obtain⟨m,hm⟩:=k2;exact DataW.trod_lt m _ _ _ hm
 obtain⟨a2,len2,cap2,rfl⟩:=okWide_slice Tryz.underlying28 (hval 2 28 v2 rfl rfl);obtain⟨z2,w2,g2⟩:=vrow_acts h2;clear hA0 hval0;refine (pPlays c0 f0 w2 g2).mono fun e W' ⟨he,ho⟩=>?_;subst he;have bel:Below W.heap.size W W':=ho.nil_below;exact⟨_,rfl,_,_,_,[],_,[],hW',trodAll_mk1 (shut_bool Tryz.underlying4 _),(trodAll_cons_mk (Below.trod law_laidOut (by kernel_rfl) (of_decide_eq_true (by kernel_rfl)) k0 bel lt0) (trodAll_cons_mk (Below.trod law_laidOut (by kernel_rfl) (of_decide_eq_true (by kernel_rfl)) k1 bel lt1) (trodAll_cons_mk (Below.trod law_laidOut (by kernel_rfl) (of_decide_eq_true (by kernel_rfl)) k2 bel lt2) trodAll_mk0))),rfl,bel.frame _,fun h=>by cases h⟩
theorem clientPlays_fact1:Tryz.pinned.checked.prog.funcNamed Rows.clientPlaysRow.func=some 3:=by kernel_rfl
theorem clientPlays_fact2:joinedFacts Tryz.pinned.checked.prog 3 Tryz.f3 Rows.clientPlaysSpec Rows.clientPlaysRow=true:=by kernel_rfl
theorem clientPlays_fact3:(Tryz.f3).isInstance Tryz.pinned.checked.prog Rows.clientPlaysRow.origin Rows.clientPlaysRow.targs:=of_decide_eq_true (by kernel_rfl)
theorem clientPlays_fact4:(Tryz.f3).isWrapper Tryz.pinned.checked.prog Rows.clientPlaysRow.wrapper Rows.clientPlaysRow.mainSum:=by unfold Func.isWrapper;first|(rw[if_pos (by decide +kernel)];kernel_rfl)|(rw[if_neg (by decide +kernel)];exact⟨rfl,rfl⟩)
theorem clientPlays_over:Rows.clientPlaysRow.holds Tryz.pinned (OpenSpec.ofChange Rows.clientPlaysSpec):=
 OpenClaim.holds_of_wide 3 Tryz.f3 rfl rfl rfl rfl rfl rfl rfl ⟨rfl,rfl,rfl,rfl,rfl⟩ rfl rfl rfl rfl rfl clientPlays_fact1 Tryz.func3 clientPlays_fact2 clientPlays_fact3 clientPlays_fact4
  (fun os started H enc _=>clientPlays_lifted os started H enc)
theorem clientPlays_holds:Rows.ClientPlaysSaid:=clientPlays_over
end Go.Proofs.YtedgpfgccpnjnaaGreat
