/- ClientRises: the clock decreases only by steps that are counted: the law returns true for every input. No condition. -/
import Derived.Test.YtikjdmbfjkbndaaGreatVo
import Derived.Test.YtikjdmbfjkbndaaGreatVp
namespace Go.Proofs.YtikjdmbfjkbndaaGreat
open Go.ChangeShapes Go.WideShapes Go.ChangeAt Go.RowKit Go.Deep

set_option maxRecDepth 100000 in
theorem clientRises_lifted (os : Os) (started : os.Started) (H : Type) (enc : TypeId × Value → H) :
  ReturnsInHanded {} Tryz.checked os 5 .any (Rows.clientRisesSpec.pre6 enc Tryz.prog Tryz.f5 Rows.clientRisesRow.domain false) (Rows.clientRisesSpec.post enc Tryz.prog Tryz.f5 false true false false) := by
 refine returnsInHanded_of_change (C := Tryz.checked) law_own started (by kernel_rfl) Tryz.func5
  (ChangeSpec.witness6 (enc := enc) (C := Tryz.checked) false ⟨#[], #[.agg #[.int .i64 0, .int .i64 0, .int .i64 0, .int .i64 0, .int .i64 0, .int .i64 0, .int .i64 0, .int .i64 0, .int .i64 0, .int .i64 0, .int .i64 0, .int .i64 0], .slice none 0 0], []⟩ 8 (by kernel_rfl) (by kernel_rfl) (by kernel_rfl) (by kernel_rfl)) ?_
 intro W base args ds gs before hval0 hW hcnd _
 have hval : ∀ (j : Nat) t v, Tryz.f5.params[j]? = some t → args[j]? = some v → Value.okWide Tryz.prog W .any base t v := hval0
 have hW' := hW
 obtain ⟨p, q, hA0, hV, rfl, hfz, hnd⟩ := hW
 have hA : DataW.TrodAll enc Tryz.prog W 0 (fun _ => true) true Tryz.f5.params.toList args.toList ds p := hA0
 rw [Tryz.params5] at hA hval
 obtain ⟨v0, vs0, d0, ds0, p0, q0, hargs, rfl, rfl, h0, r0⟩ := trodAll_cons hA
 obtain ⟨v1, vs1, d1, ds1, p1, q1, rfl, rfl, rfl, h1, r1⟩ := trodAll_cons r0
 obtain ⟨rfl, rfl, rfl⟩ := trodAll_nil r1
 obtain rfl : args = #[v0, v1] := by cases args; simp_all
 obtain ⟨rfl, rfl⟩ := trodVars_none hV
 have k0 := h0
 have lt0 : ∀ x ∈ p0, x.block < W.heap.size := by obtain ⟨m, hm⟩ := k0; exact DataW.trod_lt m _ _ _ hm
 obtain ⟨c0, rfl⟩ := open_conf (hval 0 29 v0 rfl rfl) h0
 have k1 := h1
 have lt1 : ∀ x ∈ p1, x.block < W.heap.size := by obtain ⟨m, hm⟩ := k1; exact DataW.trod_lt m _ _ _ hm
 obtain ⟨a1, len1, cap1, rfl⟩ := okWide_slice Tryz.underlying65 (hval 1 65 v1 rfl rfl)
 obtain ⟨z1, w1, g1⟩ := vrow_acts h1
 clear hA0 hval0
 refine (pRises c0 w1 g1).mono fun e W' ⟨he, ho⟩ => ?_
 subst he
 have bel : Below W.heap.size W W' := ho.nil_below
 exact ⟨_, rfl, _, _, _, [], _, [], hW', trodAll_mk1 (shut_bool Tryz.underlying4 _), (trodAll_cons_mk (Below.trod law_laidOut (by kernel_rfl) (of_decide_eq_true (by kernel_rfl)) k0 bel lt0) (trodAll_cons_mk (Below.trod law_laidOut (by kernel_rfl) (of_decide_eq_true (by kernel_rfl)) k1 bel lt1) trodAll_mk0)), rfl, bel.frame _, fun h => by cases h⟩

theorem clientRises_fact1 : Tryz.pinned.checked.prog.funcNamed Rows.clientRisesRow.func = some 5 := by kernel_rfl
theorem clientRises_fact2 : joinedFacts Tryz.pinned.checked.prog 5 Tryz.f5 Rows.clientRisesSpec Rows.clientRisesRow = true := by kernel_rfl
theorem clientRises_fact3 : (Tryz.f5).isInstance Tryz.pinned.checked.prog Rows.clientRisesRow.origin Rows.clientRisesRow.targs := of_decide_eq_true (by kernel_rfl)
theorem clientRises_fact4 : (Tryz.f5).isWrapper Tryz.pinned.checked.prog Rows.clientRisesRow.wrapper Rows.clientRisesRow.mainSum := by unfold Func.isWrapper; first | (rw [if_pos (by decide +kernel)]; kernel_rfl) | (rw [if_neg (by decide +kernel)]; exact ⟨rfl, rfl⟩)
theorem clientRises_over : Rows.clientRisesRow.holds Tryz.pinned (OpenSpec.ofChange Rows.clientRisesSpec) :=
 OpenClaim.holds_of_wide 5 Tryz.f5 rfl rfl rfl rfl rfl rfl rfl ⟨rfl, rfl, rfl, rfl, rfl⟩ rfl rfl rfl rfl rfl clientRises_fact1 Tryz.func5 clientRises_fact2 clientRises_fact3 clientRises_fact4
  (fun os started H enc _ => clientRises_lifted os started H enc)

theorem clientRises_holds : Rows.ClientRisesSaid := clientRises_over
end Go.Proofs.YtikjdmbfjkbndaaGreat
