/- ClientTruth: the interval contains true time while fewer than half of the servers lie: the law returns true for every input. No condition. -/
import Derived.Test.YtikjdmbfjkbndaaGreatWd0
import Derived.Test.YtikjdmbfjkbndaaGreatWe0
namespace Go.Proofs.YtikjdmbfjkbndaaGreat
open Go.ChangeShapes Go.WideShapes Go.ChangeAt Go.RowKit Go.Deep

set_option maxRecDepth 100000 in
theorem clientTruth_lifted (os : Os) (started : os.Started) (H : Type) (enc : TypeId × Value → H) :
  ReturnsInHanded {} Tryz.checked os 4 .any (Rows.clientTruthSpec.pre6 enc Tryz.prog Tryz.f4 Rows.clientTruthRow.domain false) (Rows.clientTruthSpec.post enc Tryz.prog Tryz.f4 false true false false) := by
 refine returnsInHanded_of_change (C := Tryz.checked) law_own started (by kernel_rfl) Tryz.func4
  (ChangeSpec.witness6 (enc := enc) (C := Tryz.checked) false ⟨#[], #[.agg #[.int .i64 0, .slice none 0 0, .int .i64 0, .int .i64 0, .slice none 0 0]], []⟩ 8 (by kernel_rfl) (by kernel_rfl) (by kernel_rfl) (by kernel_rfl)) ?_
 intro W base args ds gs before hval0 hW hcnd _
 have hval : ∀ (j : Nat) t v, Tryz.f4.params[j]? = some t → args[j]? = some v → Value.okWide Tryz.prog W .any base t v := hval0
 have hW' := hW
 obtain ⟨p, q, hA0, hV, rfl, hfz, hnd⟩ := hW
 have hA : DataW.TrodAll enc Tryz.prog W 0 (fun _ => true) true Tryz.f4.params.toList args.toList ds p := hA0
 rw [Tryz.params4] at hA hval
 obtain ⟨v0, vs0, d0, ds0, p0, q0, hargs, rfl, rfl, h0, r0⟩ := trodAll_cons hA
 obtain ⟨rfl, rfl, rfl⟩ := trodAll_nil r0
 obtain rfl : args = #[v0] := by cases args; simp_all
 obtain ⟨rfl, rfl⟩ := trodVars_none hV
 have k0 := h0
 have lt0 : ∀ x ∈ p0, x.block < W.heap.size := by obtain ⟨m, hm⟩ := k0; exact DataW.trod_lt m _ _ _ hm
 obtain ⟨ph0, sv0, li0, ps0, pq0, n0, cap0, n2, cap2, l0, ts0, rfl, hs0, hq0⟩ := open_truth (hval 0 52 v0 rfl rfl) h0
 clear hA0 hval0
 refine (pTruth ph0 sv0 li0 hs0 hq0).mono fun e W' ⟨he, ho⟩ => ?_
 subst he
 have bel : Below W.heap.size W W' := ho.nil_below
 exact ⟨_, rfl, _, _, _, [], _, [], hW', trodAll_mk1 (shut_bool Tryz.underlying4 _), (trodAll_cons_mk (Below.trod law_laidOut (by kernel_rfl) (of_decide_eq_true (by kernel_rfl)) k0 bel lt0) trodAll_mk0), rfl, bel.frame _, fun h => by cases h⟩

theorem clientTruth_fact1 : Tryz.pinned.checked.prog.funcNamed Rows.clientTruthRow.func = some 4 := by kernel_rfl
theorem clientTruth_fact2 : joinedFacts Tryz.pinned.checked.prog 4 Tryz.f4 Rows.clientTruthSpec Rows.clientTruthRow = true := by kernel_rfl
theorem clientTruth_fact3 : (Tryz.f4).isInstance Tryz.pinned.checked.prog Rows.clientTruthRow.origin Rows.clientTruthRow.targs := of_decide_eq_true (by kernel_rfl)
theorem clientTruth_fact4 : (Tryz.f4).isWrapper Tryz.pinned.checked.prog Rows.clientTruthRow.wrapper Rows.clientTruthRow.mainSum := by unfold Func.isWrapper; first | (rw [if_pos (by decide +kernel)]; kernel_rfl) | (rw [if_neg (by decide +kernel)]; exact ⟨rfl, rfl⟩)
theorem clientTruth_over : Rows.clientTruthRow.holds Tryz.pinned (OpenSpec.ofChange Rows.clientTruthSpec) :=
 OpenClaim.holds_of_wide 4 Tryz.f4 rfl rfl rfl rfl rfl rfl rfl ⟨rfl, rfl, rfl, rfl, rfl⟩ rfl rfl rfl rfl rfl clientTruth_fact1 Tryz.func4 clientTruth_fact2 clientTruth_fact3 clientTruth_fact4
  (fun os started H enc _ => clientTruth_lifted os started H enc)

theorem clientTruth_holds : Rows.ClientTruthSaid := clientTruth_over
end Go.Proofs.YtikjdmbfjkbndaaGreat
