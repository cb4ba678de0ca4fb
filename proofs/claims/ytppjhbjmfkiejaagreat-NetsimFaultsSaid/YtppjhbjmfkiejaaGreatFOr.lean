/- NetsimFaults: a fault that is never active, and a further node, change no record: the law returns true for every input. No condition. -/
import Derived.Test.YtppjhbjmfkiejaaGreatFOq
namespace Go.Proofs.YtppjhbjmfkiejaaGreat
set_option linter.all false
section
set_option maxRecDepth 100000
open Go.ChangeShapes Go.WideShapes Go.ChangeAt Go.RowKit Go.Deep
section
variable {H:Type} {enc:TypeId × Value->H} {w:World}
theorem open_fault {r:Reach} {b0:Nat} {v:Value} {d:DataW H} {ps:List MemPlace} (hval:Value.okWide Tryz.prog w r b0 44 v) (h:DataW.Trod enc Tryz.prog w 0 (fun _=>true) true 44 v d ps):∃ x:Ft,v=.agg #[.int .i64 x.n,.int .i64 x.f,.int .i64 x.t,.int .i64 x.k,.int .i64 x.v]:=by
 obtain⟨cs,rfl,hsz⟩:=okWide_struct Tryz.underlying44 hval;obtain⟨m,hx⟩:=h;obtain⟨l⟩:=cs;obtain⟨zs,hl,hc,-⟩:=ints_of_struct Tryz.underlying44 (by kernel_rfl) (by kernel_rfl) (by kernel_rfl) hx;simp only[Value.cells] at hc;match zs,hl with
 | [z0,z1,z2,z3,z4],_ =>
  refine⟨⟨z0,z1,z2,z3,z4⟩,?_⟩;rw[hc];rfl
end
end
section
set_option maxRecDepth 100000
open Go.ChangeShapes Go.WideShapes Go.ChangeAt Go.RowKit Go.Deep
theorem netsimFaults_lifted (os:Os) (started:os.Started) (H:Type) (enc:TypeId × Value->H) :
  ReturnsInHanded {} Tryz.checked os 4 .any (Rows.netsimFaultsSpec.pre6 enc Tryz.prog Tryz.f4 Rows.netsimFaultsRow.domain false) (Rows.netsimFaultsSpec.post enc Tryz.prog Tryz.f4 false true false false):=by
 refine returnsInHanded_of_change_shaped (C:=Tryz.checked) law_own started (by kernel_rfl) Tryz.func4
  (ChangeSpec.witness6 (enc:=enc) (C:=Tryz.checked) false ⟨#[],#[.agg #[.slice none 0 0,.slice none 0 0,.slice none 0 0,.int .i64 0,.int .u64 0],.agg #[.int .i64 0,.int .i64 0,.int .i64 0,.int .i64 0,.int .i64 0,.int .i64 0,.int .i64 0,.int .i64 0,.int .i64 0,.int .i64 0,.int .i64 0,.int .i64 0],.agg #[.int .i64 0,.int .i64 0,.int .i64 0,.int .i64 0,.int .i64 0]],[]⟩ 8 (by kernel_rfl) (by kernel_rfl) (by kernel_rfl) (by kernel_rfl)) ?_
 intro W base args ds gs before hval0 hW hcnd _ hsh _;have hval:∀ (j:Nat) t v,Tryz.f4.params[j]? = some t->args[j]? = some v->Value.okWide Tryz.prog W .any base t v:=hval0;have hW':=hW;obtain⟨p,q,hA0,hV,rfl,hfz,hnd⟩:=hW;have hA:DataW.TrodAll enc Tryz.prog W 0 (fun _=>true) true Tryz.f4.params.toList args.toList ds p:=hA0;rw[Tryz.params4] at hA hval;obtain⟨v0,vs0,d0,ds0,p0,q0,hargs,rfl,rfl,h0,r0⟩:=trodAll_cons hA;obtain⟨v1,vs1,d1,ds1,p1,q1,rfl,rfl,rfl,h1,r1⟩:=trodAll_cons r0;obtain⟨v2,vs2,d2,ds2,p2,q2,rfl,rfl,rfl,h2,r2⟩:=trodAll_cons r1;obtain⟨rfl,rfl,rfl⟩:=trodAll_nil r2;obtain rfl:args=#[v0,v1,v2]:=by cases args;simp_all
 obtain⟨rfl,rfl⟩:=trodVars_none hV;have k0:=h0;have lt0:∀ x∈p0,x.block<W.heap.size:=by obtain⟨m,hm⟩:=k0;exact DataW.trod_lt m _ _ _ hm
 obtain⟨s0,rfl,g0⟩:=scene_of (hval 0 27 v0 rfl rfl) h0;have k1:=h1;have lt1:∀ x∈p1,x.block<W.heap.size:=by obtain⟨m,hm⟩:=k1;exact DataW.trod_lt m _ _ _ hm
 obtain⟨c1,rfl⟩:=open_conf (hval 1 31 v1 rfl rfl) h1;have k2:=h2;have lt2:∀ x∈p2,x.block<W.heap.size:=by obtain⟨m,hm⟩:=k2;exact DataW.trod_lt m _ _ _ hm
 obtain⟨x2,rfl⟩:=open_fault (hval 2 44 v2 rfl rfl) h2;clear hA0 hval0;obtain⟨R,hR⟩:=rnds_of hsh;refine (pNFaults s0 c1 x2 g0 hR).mono fun e W' ⟨he,ho⟩=>?_;subst he;have bel:Below W.heap.size W W':=ho.nil_below;exact⟨_,rfl,_,_,_,[],_,[],hW',trodAll_mk1 (shut_bool Tryz.underlying4 _),(trodAll_cons_mk (Below.trod law_laidOut (by kernel_rfl) (of_decide_eq_true (by kernel_rfl)) k0 bel lt0) (trodAll_cons_mk (Below.trod law_laidOut (by kernel_rfl) (of_decide_eq_true (by kernel_rfl)) k1 bel lt1) (trodAll_cons_mk (Below.trod law_laidOut (by kernel_rfl) (of_decide_eq_true (by kernel_rfl)) k2 bel lt2) trodAll_mk0))),rfl,bel.frame _,fun h=>by cases h⟩
theorem netsimFaults_fact1:Tryz.pinned.checked.prog.funcNamed Rows.netsimFaultsRow.func=some 4:=by kernel_rfl
theorem netsimFaults_fact2:joinedFacts Tryz.pinned.checked.prog 4 Tryz.f4 Rows.netsimFaultsSpec Rows.netsimFaultsRow=true:=by kernel_rfl
theorem netsimFaults_fact3:(Tryz.f4).isInstance Tryz.pinned.checked.prog Rows.netsimFaultsRow.origin Rows.netsimFaultsRow.targs:=of_decide_eq_true (by kernel_rfl)
theorem netsimFaults_fact4:(Tryz.f4).isWrapper Tryz.pinned.checked.prog Rows.netsimFaultsRow.wrapper Rows.netsimFaultsRow.mainSum:=by unfold Func.isWrapper;first|(rw[if_pos (by decide +kernel)];kernel_rfl)|(rw[if_neg (by decide +kernel)];exact⟨rfl,rfl⟩)
theorem netsimFaults_over:Rows.netsimFaultsRow.holds Tryz.pinned (OpenSpec.ofChange Rows.netsimFaultsSpec):=
 OpenClaim.holds_of_wide 4 Tryz.f4 rfl rfl rfl rfl rfl rfl rfl ⟨rfl,rfl,rfl,rfl,rfl⟩ rfl rfl rfl rfl rfl netsimFaults_fact1 Tryz.func4 netsimFaults_fact2 netsimFaults_fact3 netsimFaults_fact4
  (fun os started H enc _=>netsimFaults_lifted os started H enc)
theorem netsimFaults_holds:Rows.NetsimFaultsSaid:=netsimFaults_over
end
end Go.Proofs.YtppjhbjmfkiejaaGreat
