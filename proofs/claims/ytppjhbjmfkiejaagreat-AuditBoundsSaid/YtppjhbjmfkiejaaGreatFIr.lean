/- AuditBounds: if the interval of each record of a node contains its true time, no error exceeds the bound that an alarm states: the law returns true for every input. No condition. -/
import Derived.Test.YtppjhbjmfkiejaaGreatFIq
import Derived.Test.YtppjhbjmfkiejaaGreatFOm
namespace Go.Proofs.YtppjhbjmfkiejaaGreat
set_option linter.all false
set_option maxRecDepth 100000
open Go.ChangeShapes Go.WideShapes Go.ChangeAt Go.RowKit Go.Deep
section
section
variable {H:Type} {enc:TypeId × Value->H} {w:World}
theorem VH {p:Option Addr} {n cap:Nat} {d:DataW H} {ps:List MemPlace} (h:DataW.Trod enc Tryz.prog w 0 (fun _=>true) true 34 (.slice p n cap) d ps):∃ l:List lI,aR rQ 9 w p n cap l:=by
 obtain⟨l,hl,_⟩:=nW rQ 9 (fun _=>rfl) (by decide) (fun _=>True) Tryz.underlying34 (by kernel_rfl) h (fun fuel cs x hx=>by
  have hs:=Tryz.underlying41;obtain⟨v0,v1,v2,v3,v4,v5,v6,v7,v8,rfl⟩:=list9 ((II hs hx).trans (by kernel_rfl));obtain⟨n0,y0,g0⟩:=dH hs hx 0 3 0 1 (by kernel_rfl);obtain⟨n1,y1,g1⟩:=dH hs hx 1 3 1 1 (by kernel_rfl);obtain⟨n2,y2,g2⟩:=dH hs hx 2 3 2 1 (by kernel_rfl);obtain⟨n3,y3,g3⟩:=dH hs hx 3 3 3 1 (by kernel_rfl);obtain⟨n4,y4,g4⟩:=dH hs hx 4 3 4 1 (by kernel_rfl);obtain⟨n5,y5,g5⟩:=dH hs hx 5 39 5 2 (by kernel_rfl);obtain⟨n6,y6,g6⟩:=dH hs hx 6 3 7 1 (by kernel_rfl);obtain⟨n7,y7,g7⟩:=dH hs hx 7 3 8 1 (by kernel_rfl);obtain⟨z0,rfl,_⟩:=fM Tryz.underlying3 g0;obtain⟨z1,rfl,_⟩:=fM Tryz.underlying3 g1;obtain⟨z2,rfl,_⟩:=fM Tryz.underlying3 g2;obtain⟨z3,rfl,_⟩:=fM Tryz.underlying3 g3;obtain⟨z4,rfl,_⟩:=fM Tryz.underlying3 g4;obtain⟨z6,rfl,_⟩:=fM Tryz.underlying3 g6;obtain⟨z7,rfl,_⟩:=fM Tryz.underlying3 g7;obtain⟨zs,h1,h2,_⟩:=ints_of_struct Tryz.underlying39 (by kernel_rfl) (by kernel_rfl) (by kernel_rfl) g5;match zs,h1 with
  | [a,b],_ =>
   simp only[List.drop_succ_cons,List.drop_zero,List.take_succ_cons,List.take_zero,List.map_cons,List.map_nil,List.cons.injEq,and_true] at h2;obtain⟨rfl,rfl⟩:=h2;exact⟨⟨z0,z1,z2,z3,z4,a,b,z6,z7⟩,rfl,trivial⟩)
 exact⟨l,hl⟩
end
end
section
theorem tX (os:Os) (started:os.Started) (H:Type) (enc:TypeId × Value->H) :
  ReturnsInHanded {} Tryz.checked os 7 .any (Rows.auditBoundsSpec.pre6 enc Tryz.prog Tryz.f7 Rows.auditBoundsRow.domain false) (Rows.auditBoundsSpec.post enc Tryz.prog Tryz.f7 false true false false):=by
 refine returnsInHanded_of_change_shaped (C:=Tryz.checked) law_own started (by kernel_rfl) Tryz.func7
  (ChangeSpec.witness6 (enc:=enc) (C:=Tryz.checked) false ⟨#[],#[.agg #[.slice none 0 0,.slice none 0 0,.slice none 0 0,.int .i64 0,.int .u64 0],.slice none 0 0,.int .i64 0],[]⟩ 8 (by kernel_rfl) (by kernel_rfl) (by kernel_rfl) (by kernel_rfl)) ?_
 intro W base args ds gs before hval0 hW hcnd _ hsh _;have hval:∀ (j:Nat) t v,Tryz.f7.params[j]? = some t->args[j]? = some v->Value.okWide Tryz.prog W .any base t v:=hval0;have hW':=hW;obtain⟨p,q,hA0,hV,rfl,hfz,hnd⟩:=hW;have hA:DataW.TrodAll enc Tryz.prog W 0 (fun _=>true) true Tryz.f7.params.toList args.toList ds p:=hA0;rw[Tryz.params7] at hA hval;obtain⟨v0,vs0,d0,ds0,p0,q0,hargs,rfl,rfl,h0,r0⟩:=trodAll_cons hA;obtain⟨v1,vs1,d1,ds1,p1,q1,rfl,rfl,rfl,h1,r1⟩:=trodAll_cons r0;obtain⟨v2,vs2,d2,ds2,p2,q2,rfl,rfl,rfl,h2,r2⟩:=trodAll_cons r1;obtain⟨rfl,rfl,rfl⟩:=trodAll_nil r2;obtain rfl:args=#[v0,v1,v2]:=by cases args;simp_all
 obtain⟨rfl,rfl⟩:=trodVars_none hV;have k0:=h0;have lt0:∀ x∈p0,x.block<W.heap.size:=by obtain⟨m,hm⟩:=k0;exact DataW.trod_lt m _ _ _ hm
 obtain⟨s0,rfl,g0⟩:=WI (hval 0 27 v0 rfl rfl) h0;have k1:=h1;have lt1:∀ x∈p1,x.block<W.heap.size:=by obtain⟨m,hm⟩:=k1;exact DataW.trod_lt m _ _ _ hm
 obtain⟨a1,len1,cap1,rfl⟩:=okWide_slice Tryz.underlying34 (hval 1 34 v1 rfl rfl);obtain⟨z1,g1⟩:=VH h1;obtain⟨a2,rfl,rfl,rfl,w2⟩:=open_int Tryz.underlying3 (hval 2 3 v2 rfl rfl) h2;clear hA0 hval0;obtain⟨R,hR⟩:=rnds_of hsh;refine (pBounds s0 g0 hR g1 a2).mono fun e W' ⟨he,ho⟩=>?_;subst he;have bel:Below W.heap.size W W':=ho.wJ;exact⟨_,rfl,_,_,_,[],_,[],hW',trodAll_mk1 (shut_bool Tryz.underlying4 _),(trodAll_cons_mk (Below.trod xK (by kernel_rfl) (of_decide_eq_true (by kernel_rfl)) k0 bel lt0) (trodAll_cons_mk (Below.trod xK (by kernel_rfl) (of_decide_eq_true (by kernel_rfl)) k1 bel lt1) (trodAll_cons_mk (shut_int Tryz.underlying3 w2) trodAll_mk0))),rfl,bel.frame _,fun h=>by cases h⟩
theorem vS:Tryz.pinned.checked.prog.funcNamed Rows.auditBoundsRow.func=some 7:=by kernel_rfl
theorem vR:joinedFacts Tryz.pinned.checked.prog 7 Tryz.f7 Rows.auditBoundsSpec Rows.auditBoundsRow=true:=by kernel_rfl
theorem vQ:(Tryz.f7).isInstance Tryz.pinned.checked.prog Rows.auditBoundsRow.origin Rows.auditBoundsRow.targs:=of_decide_eq_true (by kernel_rfl)
theorem vP:(Tryz.f7).isWrapper Tryz.pinned.checked.prog Rows.auditBoundsRow.wrapper Rows.auditBoundsRow.mainSum:=by unfold Func.isWrapper;first|(rw[if_pos (by decide +kernel)];kernel_rfl)|(rw[if_neg (by decide +kernel)];exact⟨rfl,rfl⟩)
theorem wZ:Rows.auditBoundsRow.holds Tryz.pinned (OpenSpec.ofChange Rows.auditBoundsSpec):=
 OpenClaim.holds_of_wide 7 Tryz.f7 rfl rfl rfl rfl rfl rfl rfl ⟨rfl,rfl,rfl,rfl,rfl⟩ rfl rfl rfl rfl rfl vS Tryz.func7 vR vQ vP
  (fun os started H enc _=>tX os started H enc)
theorem auditBounds_holds:Rows.AuditBoundsSaid:=wZ
end
end Go.Proofs.YtppjhbjmfkiejaaGreat
