/- AuditChanged: if one field of one record of a simulation is changed, the records are not valid, or there is a finding: the law returns true for every input. No condition. -/
import Derived.Test.YtppjhbjmfkiejaaGreatFCh9
import Derived.Test.YtppjhbjmfkiejaaGreatFOm
namespace Go.Proofs.YtppjhbjmfkiejaaGreat
set_option linter.all false
set_option maxRecDepth 100000
open Go.ChangeShapes Go.WideShapes Go.ChangeAt Go.RowKit Go.Deep
section
variable {H:Type} {enc:TypeId × Value->H} {w:World}
structure ChgI where
 i:Int
 f:Int
 v:Int
theorem ZO {r:Reach} {b0:Nat} {v:Value} {d:DataW H} {ps:List MemPlace} (hval:Value.okWide Tryz.prog w r b0 59 v) (h:DataW.Trod enc Tryz.prog w 0 (fun _=>true) true 59 v d ps):∃ x:ChgI,v=.agg #[.int .i64 x.i,.int .i64 x.f,.int .i64 x.v]:=by
 obtain⟨cs,rfl,hsz⟩:=okWide_struct Tryz.underlying59 hval;obtain⟨m,hx⟩:=h;obtain⟨l⟩:=cs;obtain⟨zs,hl,hc,-⟩:=ints_of_struct Tryz.underlying59 (by kernel_rfl) (by kernel_rfl) (by kernel_rfl) hx;simp only[Value.cells] at hc;match zs,hl with
 | [z0,z1,z2],_ =>
  refine⟨⟨z0,z1,z2⟩,?_⟩;rw[hc];rfl
end
theorem sZ (os:Os) (started:os.Started) (H:Type) (enc:TypeId × Value->H) :
  ReturnsInHanded {} Tryz.checked os 6 .any (Rows.auditChangedSpec.pre6 enc Tryz.prog Tryz.f6 Rows.auditChangedRow.domain false) (Rows.auditChangedSpec.post enc Tryz.prog Tryz.f6 false true false false):=by
 refine returnsInHanded_of_change_shaped (C:=Tryz.checked) law_own started (by kernel_rfl) Tryz.func6
  (ChangeSpec.witness6 (enc:=enc) (C:=Tryz.checked) false ⟨#[],#[.agg #[.slice none 0 0,.slice none 0 0,.slice none 0 0,.int .i64 0,.int .u64 0],.agg #[.int .i64 0,.int .i64 0,.int .i64 0,.int .i64 0,.int .i64 0,.int .i64 0,.int .i64 0,.int .i64 0,.int .i64 0,.int .i64 0,.int .i64 0,.int .i64 0],.agg #[.int .i64 0,.int .i64 0,.int .i64 0]],[]⟩ 8 (by kernel_rfl) (by kernel_rfl) (by kernel_rfl) (by kernel_rfl)) ?_
 intro W base args ds gs before hval0 hW hcnd _ hsh _;have hval:∀ (j:Nat) t v,Tryz.f6.params[j]? = some t->args[j]? = some v->Value.okWide Tryz.prog W .any base t v:=hval0;have hW':=hW;obtain⟨p,q,hA0,hV,rfl,hfz,hnd⟩:=hW;have hA:DataW.TrodAll enc Tryz.prog W 0 (fun _=>true) true Tryz.f6.params.toList args.toList ds p:=hA0;rw[Tryz.params6] at hA hval;obtain⟨v0,vs0,d0,ds0,p0,q0,hargs,rfl,rfl,h0,r0⟩:=trodAll_cons hA;obtain⟨v1,vs1,d1,ds1,p1,q1,rfl,rfl,rfl,h1,r1⟩:=trodAll_cons r0;obtain⟨v2,vs2,d2,ds2,p2,q2,rfl,rfl,rfl,h2,r2⟩:=trodAll_cons r1;obtain⟨rfl,rfl,rfl⟩:=trodAll_nil r2;obtain rfl:args=#[v0,v1,v2]:=by cases args;simp_all
 obtain⟨rfl,rfl⟩:=trodVars_none hV;have k0:=h0;have lt0:∀ x∈p0,x.block<W.heap.size:=by obtain⟨m,hm⟩:=k0;exact DataW.trod_lt m _ _ _ hm
 obtain⟨s0,rfl,g0⟩:=XB (hval 0 27 v0 rfl rfl) h0;have k1:=h1;have lt1:∀ x∈p1,x.block<W.heap.size:=by obtain⟨m,hm⟩:=k1;exact DataW.trod_lt m _ _ _ hm
 obtain⟨c1,rfl⟩:=UH (hval 1 31 v1 rfl rfl) h1;have k2:=h2;have lt2:∀ x∈p2,x.block<W.heap.size:=by obtain⟨m,hm⟩:=k2;exact DataW.trod_lt m _ _ _ hm
 obtain⟨x2,rfl⟩:=ZO (hval 2 59 v2 rfl rfl) h2;clear hA0 hval0;obtain⟨R,hR⟩:=rnds_of hsh;refine (pChgLaw s0 c1 g0 x2.i x2.f x2.v hR).mono fun e W' ⟨he,ho⟩=>?_;subst he;have bel:Below W.heap.size W W':=ho.xC;exact⟨_,rfl,_,_,_,[],_,[],hW',trodAll_mk1 (shut_bool Tryz.underlying4 _),(trodAll_cons_mk (Below.trod qZ (by kernel_rfl) (of_decide_eq_true (by kernel_rfl)) k0 bel lt0) (trodAll_cons_mk (Below.trod qZ (by kernel_rfl) (of_decide_eq_true (by kernel_rfl)) k1 bel lt1) (trodAll_cons_mk (Below.trod qZ (by kernel_rfl) (of_decide_eq_true (by kernel_rfl)) k2 bel lt2) trodAll_mk0))),rfl,bel.frame _,fun h=>by cases h⟩
theorem uV:Tryz.pinned.checked.prog.funcNamed Rows.auditChangedRow.func=some 6:=by kernel_rfl
theorem uU:joinedFacts Tryz.pinned.checked.prog 6 Tryz.f6 Rows.auditChangedSpec Rows.auditChangedRow=true:=by kernel_rfl
theorem uT:(Tryz.f6).isInstance Tryz.pinned.checked.prog Rows.auditChangedRow.origin Rows.auditChangedRow.targs:=of_decide_eq_true (by kernel_rfl)
theorem uS:(Tryz.f6).isWrapper Tryz.pinned.checked.prog Rows.auditChangedRow.wrapper Rows.auditChangedRow.mainSum:=by unfold Func.isWrapper;first|(rw[if_pos (by decide +kernel)];kernel_rfl)|(rw[if_neg (by decide +kernel)];exact⟨rfl,rfl⟩)
theorem wI:Rows.auditChangedRow.holds Tryz.pinned (OpenSpec.ofChange Rows.auditChangedSpec):=
 OpenClaim.holds_of_wide 6 Tryz.f6 rfl rfl rfl rfl rfl rfl rfl ⟨rfl,rfl,rfl,rfl,rfl⟩ rfl rfl rfl rfl rfl uV Tryz.func6 uU uT uS
  (fun os started H enc _=>sZ os started H enc)
theorem auditChanged_holds:Rows.AuditChangedSaid:=wI
end Go.Proofs.YtppjhbjmfkiejaaGreat
