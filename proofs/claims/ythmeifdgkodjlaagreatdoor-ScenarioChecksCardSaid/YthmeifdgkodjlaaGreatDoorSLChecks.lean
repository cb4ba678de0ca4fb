/- ScenarioChecks: whether a scene of at most 30 nodes, 70 links and 40 faults is valid, or its first error, is the reference's, for every scene. Conditions: those of the given row. -/
import Derived.Test.YthmeifdgkodjlaaGreatDoorG7
import Derived.Test.YthmeifdgkodjlaaGreatDoorU5
namespace Go.Proofs.YthmeifdgkodjlaaGreatDoor
open Go.ChangeShapes Go.WideShapes Go.ChangeAt Go.RowKit

set_option maxRecDepth 100000 in
set_option maxHeartbeats 2000000 in
theorem checks_walk {w : World} (s : ScW) (hv : s.Ok0 w) (he : Env w) :
    Calls Tryz.prog 3 #[scV s] w fun e w' => e = .returned (.bool true) ∧ Only [] w w' := by
  have HV := Lib.hid hv; have HE := Lib.hid he
  obtain ⟨sc, hsc⟩ : ∃ sc, s.sc = sc := ⟨_, rfl⟩
  have HSC := Lib.hid hsc
  clear hv he hsc
  obtain ⟨nd, lk, ft, un, sd, pn, cn, pl, cl, pf, cf⟩ := s
  simp only [scV]
  go_enter Tryz.func3, Tryz.ntmps3
  go_upto_region 1 with (fail)
  refine alloc_abs (G := fun w0 => Code.wp _ _ _ _ w0) ?_
  intro w1 hb1 ho1 hs1
  have B1 := Lib.hid hb1; have O1 := Lib.hid ho1
  clear hb1 ho1 hs1
  have c0 := cell_got B1.out 0; have c1 := cell_got B1.out 1; have c2 := cell_got B1.out 2; have c3 := cell_got B1.out 3; have c4 := cell_got B1.out 4; have lc := got_lt B1.out
  have HSM := Lib.hid (pSmall _ (HV.out.nd.kept O1.out) (HV.out.lk.kept O1.out))
  go_wp2_with fail
  refine HSM.out.mono ?_
  rintro e w2 ⟨rfl, ho2⟩
  have O2 := Lib.hid (O1.out.nil_trans ho2); have B2 := Lib.hid (ho2.got B1.out (by simp))
  clear ho2 O1 B1 HSM c0 c1 c2 c3 c4 lc
  have c0 := cell_got B2.out 0; have c1 := cell_got B2.out 1; have c2 := cell_got B2.out 2; have c3 := cell_got B2.out 3; have c4 := cell_got B2.out 4; have lc := got_lt B2.out
  by_cases hsm : smW ⟨nd, lk, ft, un, sd, pn, cn, pl, cl, pf, cf⟩ = true
  · have HOK := Lib.hid (HV.out.ok hsm)
    rw [hsm]
    clear hsm
    have h1 := fun w' (ho : Only [] w w') => pCheck _ (HOK.out.kept ho)
    have h2 := fun w' (ho : Only [] w w') => rCheck _ (HOK.out.kept ho)
    simp only [HSC.out, scV] at h1 h2
    generalize chkS sc = res at h1 h2
    have H1 := Lib.hid h1; have H2 := Lib.hid h2
    clear h1 h2
    go_upto_region 3 with (fail)
    refine wp_region_grown [0, 1, 2, 3, 4, 5] [6, 7, 8] (by kernel_rfl) (by kernel_rfl) ?_
    simp only [pick, List.map_cons, List.map_nil, List.getD_cons_succ, List.getD_cons_zero]
    iterate 1 (refine wpQuiet_step (fun K hK => ?_); go_simp; refine hK _ ?_; clear hK K)
    refine wpQuiet_enter_w (by kernel_rfl) 10 #[.agg #[.slice pn nd.length cn, .slice pl lk.length cl, .slice pf ft.length cf, .int .i64 un, .int .u64 sd]] (fun _ => by kernel_rfl) (.int .i64 res) (grown_only2 fun w' ho' => H1.out w' (O2.out.nil_trans ho')) ?_
    iterate 1 (refine wpQuiet_step (fun K hK => ?_); go_simp; refine hK _ ?_; clear hK K)
    refine wpQuiet_enter_w (by kernel_rfl) 11 #[.agg #[.slice pn nd.length cn, .slice pl lk.length cl, .slice pf ft.length cf, .int .i64 un, .int .u64 sd]] (fun _ => by kernel_rfl) (.int .i64 res) (grown_only2 fun w' ho' => H2.out w' (O2.out.nil_trans ho')) ?_
    iterate 2 (refine wpQuiet_step (fun K hK => ?_); go_simp; refine hK _ ?_; clear hK K)
    refine wpQuiet_nil ?_
    intro w7 hw7
    have O7 := Lib.hid (O2.out.nil_trans (only_of_plus hw7))
    clear hw7 c0 c1 c2 c3 c4 lc
    have HA := Lib.hid (pAwake w7 (HE.out.kept O7.out))
    go_wp2_with fail
    refine HA.out.mono ?_
    rintro e w8 ⟨rfl, ho8⟩
    have O8 := Lib.hid (O7.out.nil_trans ho8)
    clear ho8
    go_wp2
    go_ret
    exact ⟨rfl, O8.out⟩
  · rw [show smW ⟨nd, lk, ft, un, sd, pn, cn, pl, cl, pf, cf⟩ = false by simpa using hsm]
    clear hsm
    have HA := Lib.hid (pAwake w2 (HE.out.kept O2.out))
    go_wp2_with fail
    refine HA.out.mono ?_
    rintro e w8 ⟨rfl, ho8⟩
    have O8 := Lib.hid (O2.out.nil_trans ho8)
    clear ho8
    go_wp2
    go_ret
    exact ⟨rfl, O8.out⟩
set_option maxRecDepth 100000 in
theorem scenarioChecks_lifted (os : Os) (started : os.Started) (H : Type) (enc : TypeId × Value → H) :
    ReturnsInHanded {} Tryz.checked os 3 .any (fun w args => (Rows.scenarioChecksSpec.pre enc Tryz.prog Tryz.f3 Rows.scenarioChecksRow.domain false w args ∧ laidMetH Tryz.prog Rows.scenarioChecksRow.laid w) ∧ sizedMet enc Tryz.prog Tryz.f3 (OpenSpec.ofChange Rows.scenarioChecksSpec) false w args)
      (Rows.scenarioChecksSpec.post enc Tryz.prog Tryz.f3 false true false false) := by
  refine returnsInHanded_of_change_and_shaped (C := Tryz.checked) (X := fun w _ => laidMetH Tryz.prog Rows.scenarioChecksRow.laid w) (fun _ _ _ hh h => h.of_heap hh) law_own started (by kernel_rfl) Tryz.func3
    (ChangeSpec.witness_shaped (enc := enc) (C := Tryz.checked) (os := os) (X := fun w _ => laidMetH Tryz.prog Rows.scenarioChecksRow.laid w) false (World.laidAll Tryz.prog os Rows.scenarioChecksRow.laid) #[.agg #[.slice none 0 0, .slice none 0 0, .slice none 0 0, .int .i64 0, .int .u64 0]] 8 (World.laidAll_os _ _ _)
      (World.shaped_of_ZipB (by kernel_rfl) (by kernel_rfl)) (by kernel_rfl) (by kernel_rfl) (by kernel_rfl)
      (by rw [MakeChecks.laidMetH_plain _ _ _ (by kernel_rfl)]; exact laidMet_laidAll _ (by kernel_rfl) (by kernel_rfl))) ?_
  intro W base args ds gs before hval0 hW hcnd _ hL hsh _
  have hval : ∀ (j : Nat) t v, Tryz.f3.params[j]? = some t → args[j]? = some v → Value.okWide Tryz.prog W .any base t v := hval0
  have hW' := hW
  obtain ⟨p, q, hA0, hV, rfl, hfz, hnd⟩ := hW
  have hA : DataW.TrodAll enc Tryz.prog W 0 (fun _ => true) true Tryz.f3.params.toList args.toList ds p := hA0
  rw [Tryz.params3] at hA hval
  obtain ⟨v0, vs0, d0, ds0, p0, q0, hargs, rfl, rfl, h0, r0⟩ := trodAll_cons hA
  obtain ⟨rfl, rfl, rfl⟩ := trodAll_nil r0
  obtain rfl : args = #[v0] := by cases args; simp_all
  obtain ⟨rfl, rfl⟩ := trodVars_none hV
  have k0 := h0
  have lt0 : ∀ x ∈ p0, x.block < W.heap.size := by obtain ⟨m, hm⟩ := k0; exact DataW.trod_lt m _ _ _ hm
  obtain ⟨s0, rfl, z0⟩ := scene_of (hval 0 27 v0 rfl rfl) h0
  clear hA0 hval0
  refine (checks_walk s0 z0 (env_of_laid (by kernel_rfl) (by simp [Rows.scenarioChecksRow]) (by simp [Rows.scenarioChecksRow]) (by simp [Rows.scenarioChecksRow]) hL hsh)).mono fun e W' ⟨he, ho⟩ => ?_
  subst he
  have bel : Below W.heap.size W W' := ho.nil_below
  exact ⟨_, rfl, _, _, _, [], _, [], hW', trodAll_mk1 (shut_bool Tryz.underlying4 _), (trodAll_cons_mk (Below.trod law_laidOut (by kernel_rfl) (of_decide_eq_true (by kernel_rfl)) k0 bel lt0) trodAll_mk0), rfl, bel.frame _, fun h => by cases h⟩

theorem scenarioChecks_over : Rows.scenarioChecksRow.holds Tryz.pinned (OpenSpec.ofChange Rows.scenarioChecksSpec) :=
  OpenClaim.holds_of_wide 3 Tryz.f3 rfl rfl rfl rfl rfl rfl rfl ⟨rfl, rfl, rfl, rfl, rfl⟩ rfl rfl rfl rfl rfl (by kernel_rfl) Tryz.func3 (by kernel_rfl)
    (of_decide_eq_true (by kernel_rfl)) (by unfold Func.isWrapper; first | (rw [if_pos (by decide +kernel)]; kernel_rfl) | (rw [if_neg (by decide +kernel)]; exact ⟨rfl, rfl⟩))
    (fun os started H enc _ => scenarioChecks_lifted os started H enc)

theorem scenarioChecks_holds : Rows.ScenarioChecksCardSaid :=
  Claim7.holds_tied_plain_at .later [] [.data, .data, .data, .data, .sentinel, .sentinel, .pinned] true (true, "ad56d0d74317d7d29a88cd7d6ee526fd1d84a70b822a4bf7753bf90f46e7eb24") true scenarioChecks_over (fun _ h => by cases h) (by kernel_rfl) (fun _ h => by cases h) scenarioChecks_row_tie rfl ⟨rfl, rfl⟩ (by kernel_rfl) rfl
    (fun f fn hf hfn => by
      obtain rfl : f = 3 := Option.some.inj ((show Tryz.prog.funcNamed "timesync/timesynclaw56.ScenarioChecks" = some 3 by kernel_rfl).symm.trans hf) |>.symm
      obtain rfl : fn = Tryz.f3 := (Option.some.inj (Tryz.func3.symm.trans hfn)).symm
      exact ⟨by kernel_rfl, fun j t ht => by
        rw [Tryz.params3] at ht
        have hm : t ∈ [27] := by simpa using Array.mem_of_getElem? ht
        have hall : ([27].all fun u => !Tryz.prog.wantsStandIn u) = true := by kernel_rfl
        exact (show Tryz.prog.wantsStandIn t = false by simpa using List.all_eq_true.1 hall t hm)⟩)
    (by kernel_rfl)
end Go.Proofs.YthmeifdgkodjlaaGreatDoor
