/- ScenarioTexts: the text of a scene, or the error, is the reference's, for every scene. Conditions: those of the given row. -/
import Derived.Test.YthmeifdgkodjlaaGreatDoorG7
import Derived.Test.YthmeifdgkodjlaaGreatDoorU8
namespace Go.Proofs.YthmeifdgkodjlaaGreatDoor
open Go.ChangeShapes Go.WideShapes Go.ChangeAt Go.RowKit

set_option maxRecDepth 100000 in
set_option maxHeartbeats 2000000 in
theorem texts_walk {w : World} (s : ScW) (hv : s.Ok0 w) (he : Env w) :
    Calls Tryz.prog 4 #[scV s] w fun e w' => e = .returned (.bool true) ∧ Only [] w w' := by
  have HV := Lib.hid hv; have HE := Lib.hid he
  have HSD := Lib.hid hv.sdOk
  obtain ⟨sc, hsc⟩ : ∃ sc, s.sc = sc := ⟨_, rfl⟩
  have HSC := Lib.hid hsc
  rw [hsc] at HSD
  clear hv he hsc
  obtain ⟨nd, lk, ft, un, sd, pn, cn, pl, cl, pf, cf⟩ := s
  simp only [scV]
  go_enter Tryz.func4, Tryz.ntmps4
  go_upto_region 1 with (fail)
  refine alloc_abs (G := fun w0 => Code.wp _ _ _ _ w0) ?_
  intro w1 hb1 ho1 hs1
  have B1 := Lib.hid hb1; have O1 := Lib.hid ho1
  clear hb1 ho1 hs1
  have c0 := cell_got B1.out 0; have c1 := cell_got B1.out 1; have c2 := cell_got B1.out 2; have c3 := cell_got B1.out 3; have c4 := cell_got B1.out 4; have lc := got_lt B1.out
  have HSM := Lib.hid (pSmall _ (HV.out.nd.kept O1.out) (HV.out.lk.kept O1.out))
  go_wp2_with fail
  refine HSM.out.mono ?_
  rintro e w2 ⟨rfl, ho2⟩
  have O2 := Lib.hid (O1.out.nil_trans ho2); have B2 := Lib.hid (ho2.got B1.out (by simp))
  clear ho2 O1 B1 HSM c0 c1 c2 c3 c4 lc
  have c0 := cell_got B2.out 0; have c1 := cell_got B2.out 1; have c2 := cell_got B2.out 2; have c3 := cell_got B2.out 3; have c4 := cell_got B2.out 4; have lc := got_lt B2.out
  by_cases hsm : smW ⟨nd, lk, ft, un, sd, pn, cn, pl, cl, pf, cf⟩ = true
  · have HOK := Lib.hid (HV.out.ok hsm)
    rw [hsm]
    clear hsm
    have h1 := fun w' (ho : Only [] w w') => pText _ (HOK.out.kept ho) (by rw [HSC.out]; exact HSD.out) (HE.out.kept ho).tab
    have h2 := fun w' (ho : Only [] w w') => rText _ (HOK.out.kept ho) (by rw [HSC.out]; exact HSD.out)
    simp only [HSC.out, scV] at h1 h2
    generalize txtS sc = tx at h1 h2
    obtain ⟨tl, te⟩ := tx
    dsimp only at h1 h2
    generalize bstr tl = T at h1 h2
    have H1 := Lib.hid h1; have H2 := Lib.hid h2
    clear h1 h2
    go_wp2_with fail
    refine (H1.out w2 O2.out).mono ?_
    rintro e w3 ⟨rfl, ho3⟩
    have O3 := Lib.hid (O2.out.nil_trans ho3); have B3 := Lib.hid (ho3.got B2.out (by simp))
    clear ho3 O2 B2 c0 c1 c2 c3 c4 lc
    have c0 := cell_got B3.out 0; have c1 := cell_got B3.out 1; have c2 := cell_got B3.out 2; have c3 := cell_got B3.out 3; have c4 := cell_got B3.out 4; have lc := got_lt B3.out
    go_wp2_with fail
    refine (H2.out w3 O3.out).mono ?_
    rintro e w4 ⟨rfl, ho4⟩
    have O4 := Lib.hid (O3.out.nil_trans ho4)
    clear ho4 O3 B3 c0 c1 c2 c3 c4 lc
    have HA := Lib.hid (pAwake w4 (HE.out.kept O4.out))
    go_wp2_with fail
    refine HA.out.mono ?_
    rintro e w8 ⟨rfl, ho8⟩
    have O8 := Lib.hid (O4.out.nil_trans ho8)
    clear ho8
    go_wp2
    go_ret
    exact ⟨rfl, O8.out⟩
  · rw [show smW ⟨nd, lk, ft, un, sd, pn, cn, pl, cl, pf, cf⟩ = false by simpa using hsm]
    clear hsm
    have HA := Lib.hid (pAwake w2 (HE.out.kept O2.out))
    go_wp2_with fail
    refine HA.out.mono ?_
    rintro e w8 ⟨rfl, ho8⟩
    have O8 := Lib.hid (O2.out.nil_trans ho8)
    clear ho8
    go_wp2
    go_ret
    exact ⟨rfl, O8.out⟩
set_option maxRecDepth 100000 in
theorem scenarioTexts_lifted (os : Os) (started : os.Started) (H : Type) (enc : TypeId × Value → H) :
    ReturnsInHanded {} Tryz.checked os 4 .any (fun w args => (Rows.scenarioTextsSpec.pre enc Tryz.prog Tryz.f4 Rows.scenarioTextsRow.domain false w args ∧ laidMetH Tryz.prog Rows.scenarioTextsRow.laid w) ∧ sizedMet enc Tryz.prog Tryz.f4 (OpenSpec.ofChange Rows.scenarioTextsSpec) false w args)
      (Rows.scenarioTextsSpec.post enc Tryz.prog Tryz.f4 false true false false) := by
  refine returnsInHanded_of_change_and_shaped (C := Tryz.checked) (X := fun w _ => laidMetH Tryz.prog Rows.scenarioTextsRow.laid w) (fun _ _ _ hh h => h.of_heap hh) law_own started (by kernel_rfl) Tryz.func4
    (ChangeSpec.witness_shaped (enc := enc) (C := Tryz.checked) (os := os) (X := fun w _ => laidMetH Tryz.prog Rows.scenarioTextsRow.laid w) false (World.laidAll Tryz.prog os Rows.scenarioTextsRow.laid) #[.agg #[.slice none 0 0, .slice none 0 0, .slice none 0 0, .int .i64 0, .int .u64 0]] 8 (World.laidAll_os _ _ _)
      (World.shaped_of_ZipB (by kernel_rfl) (by kernel_rfl)) (by kernel_rfl) (by kernel_rfl) (by kernel_rfl)
      (by rw [MakeChecks.laidMetH_plain _ _ _ (by kernel_rfl)]; exact laidMet_laidAll _ (by kernel_rfl) (by kernel_rfl))) ?_
  intro W base args ds gs before hval0 hW hcnd _ hL hsh _
  have hval : ∀ (j : Nat) t v, Tryz.f4.params[j]? = some t → args[j]? = some v → Value.okWide Tryz.prog W .any base t v := hval0
  have hW' := hW
  obtain ⟨p, q, hA0, hV, rfl, hfz, hnd⟩ := hW
  have hA : DataW.TrodAll enc Tryz.prog W 0 (fun _ => true) true Tryz.f4.params.toList args.toList ds p := hA0
  rw [Tryz.params4] at hA hval
  obtain ⟨v0, vs0, d0, ds0, p0, q0, hargs, rfl, rfl, h0, r0⟩ := trodAll_cons hA
  obtain ⟨rfl, rfl, rfl⟩ := trodAll_nil r0
  obtain rfl : args = #[v0] := by cases args; simp_all
  obtain ⟨rfl, rfl⟩ := trodVars_none hV
  have k0 := h0
  have lt0 : ∀ x ∈ p0, x.block < W.heap.size := by obtain ⟨m, hm⟩ := k0; exact DataW.trod_lt m _ _ _ hm
  obtain ⟨s0, rfl, z0⟩ := scene_of (hval 0 27 v0 rfl rfl) h0
  clear hA0 hval0
  refine (texts_walk s0 z0 (env_of_laid (by kernel_rfl) (by simp [Rows.scenarioTextsRow]) (by simp [Rows.scenarioTextsRow]) (by simp [Rows.scenarioTextsRow]) hL hsh)).mono fun e W' ⟨he, ho⟩ => ?_
  subst he
  have bel : Below W.heap.size W W' := ho.nil_below
  exact ⟨_, rfl, _, _, _, [], _, [], hW', trodAll_mk1 (shut_bool Tryz.underlying4 _), (trodAll_cons_mk (Below.trod law_laidOut (by kernel_rfl) (of_decide_eq_true (by kernel_rfl)) k0 bel lt0) trodAll_mk0), rfl, bel.frame _, fun h => by cases h⟩

theorem scenarioTexts_over : Rows.scenarioTextsRow.holds Tryz.pinned (OpenSpec.ofChange Rows.scenarioTextsSpec) :=
  OpenClaim.holds_of_wide 4 Tryz.f4 rfl rfl rfl rfl rfl rfl rfl ⟨rfl, rfl, rfl, rfl, rfl⟩ rfl rfl rfl rfl rfl (by kernel_rfl) Tryz.func4 (by kernel_rfl)
    (of_decide_eq_true (by kernel_rfl)) (by unfold Func.isWrapper; first | (rw [if_pos (by decide +kernel)]; kernel_rfl) | (rw [if_neg (by decide +kernel)]; exact ⟨rfl, rfl⟩))
    (fun os started H enc _ => scenarioTexts_lifted os started H enc)

theorem scenarioTexts_holds : Rows.ScenarioTextsCardSaid :=
  Claim7.holds_tied_plain_at .later [] [.data, .data, .data, .data, .sentinel, .sentinel, .pinned] true (true, "ad56d0d74317d7d29a88cd7d6ee526fd1d84a70b822a4bf7753bf90f46e7eb24") true scenarioTexts_over (fun _ h => by cases h) (by kernel_rfl) (fun _ h => by cases h) scenarioTexts_row_tie rfl ⟨rfl, rfl⟩ (by kernel_rfl) rfl
    (fun f fn hf hfn => by
      obtain rfl : f = 4 := Option.some.inj ((show Tryz.prog.funcNamed "timesync/timesynclaw56.ScenarioTexts" = some 4 by kernel_rfl).symm.trans hf) |>.symm
      obtain rfl : fn = Tryz.f4 := (Option.some.inj (Tryz.func4.symm.trans hfn)).symm
      exact ⟨by kernel_rfl, fun j t ht => by
        rw [Tryz.params4] at ht
        have hm : t ∈ [27] := by simpa using Array.mem_of_getElem? ht
        have hall : ([27].all fun u => !Tryz.prog.wantsStandIn u) = true := by kernel_rfl
        exact (show Tryz.prog.wantsStandIn t = false by simpa using List.all_eq_true.1 hall t hm)⟩)
    (by kernel_rfl)
end Go.Proofs.YthmeifdgkodjlaaGreatDoor
