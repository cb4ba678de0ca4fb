/- ScenarioBack: a valid scene is read from its text as it was; the text of one that is not valid is refused, for every scene. Conditions: those of the given row. -/
import Derived.Test.YthmeifdgkodjlaaDoorPz
namespace Go.Proofs.YthmeifdgkodjlaaDoor
open Go.ChangeShapes Go.WideShapes Go.ChangeAt Go.RowKit

set_option maxRecDepth 100000 in
set_option maxHeartbeats 6000000 in
theorem back_walk {w : World} (s : ScW) (hv : s.Ok0 w) (he : Env w) :
    Calls Tryd.prog 3 #[scV s] w fun e w' => e = .returned (.bool true) ∧ Only [] w w' := by
  have HV := Lib.hid hv; have HE := Lib.hid he
  have HSD := Lib.hid hv.sdOk
  obtain ⟨sc, hsc⟩ : ∃ sc, s.sc = sc := ⟨_, rfl⟩
  have HSC := Lib.hid hsc
  rw [hsc] at HSD
  clear hv he hsc
  obtain ⟨nd, lk, ft, un, sd, pn, cn, pl, cl, pf, cf⟩ := s
  simp only [scV]
  go_enter Tryd.func3, Tryd.ntmps3
  go_upto_region 1 with (fail)
  refine alloc_abs (G := fun w0 => Code.wp _ _ _ _ w0) ?_
  intro w1 hb1 ho1 hs1
  have B1 := Lib.hid hb1; have O1 := Lib.hid ho1
  clear hb1 ho1 hs1
  have c0 := cell_got B1.out 0; have c1 := cell_got B1.out 1; have c2 := cell_got B1.out 2; have c3 := cell_got B1.out 3; have c4 := cell_got B1.out 4; have lc := got_lt B1.out
  have HSM := Lib.hid (pSmall _ (HV.out.nd.kept O1.out) (HV.out.lk.kept O1.out))
  go_wp2_with fail
  refine HSM.out.mono ?_
  rintro e w2 ⟨rfl, ho2⟩
  have O2 := Lib.hid (O1.out.nil_trans ho2); have B2 := Lib.hid (ho2.got B1.out (by simp))
  clear ho2 O1 B1 HSM c0 c1 c2 c3 c4 lc
  have c0 := cell_got B2.out 0; have c1 := cell_got B2.out 1; have c2 := cell_got B2.out 2; have c3 := cell_got B2.out 3; have c4 := cell_got B2.out 4; have lc := got_lt B2.out
  by_cases hsm : smW ⟨nd, lk, ft, un, sd, pn, cn, pl, cl, pf, cf⟩ = true
  · have HOK := Lib.hid (HV.out.ok hsm)
    rw [hsm]
    clear hsm
    have ht := pText _ (HOK.out.kept O2.out) (by rw [HSC.out]; exact HSD.out) (HE.out.kept O2.out).tab
    rw [HSC.out] at ht
    have HT := Lib.hid ht
    clear ht
    go_wp2_with fail
    refine HT.out.mono ?_
    rintro e w3 ⟨rfl, ho3⟩
    have O3 := Lib.hid (O2.out.nil_trans ho3); have B3 := Lib.hid (ho3.got B2.out (by simp))
    clear ho3 O2 B2 HT c0 c1 c2 c3 c4 lc
    have c0 := cell_got B3.out 0; have c1 := cell_got B3.out 1; have c2 := cell_got B3.out 2; have c3 := cell_got B3.out 3; have c4 := cell_got B3.out 4; have lc := got_lt B3.out
    have hck := pCheck _ (HOK.out.kept O3.out)
    rw [HSC.out] at hck
    by_cases hc : chkS sc = 0
    · have htx : txtS sc = (scT sc, 0) := by unfold txtS; rw [if_pos hc]
      rw [hc] at hck
      rw [htx]
      have HCK := Lib.hid hck
      have HBS := Lib.hid (back_sc hc HSD.out)
      have HBD := Lib.hid (sc_bounds hc HSD.out)
      clear hck hc htx
      go_wp2_with fail
      refine HCK.out.mono ?_
      rintro e w4 ⟨rfl, ho4⟩
      have O4 := Lib.hid (O3.out.nil_trans ho4); have B4 := Lib.hid (ho4.got B3.out (by simp))
      clear ho4 O3 B3 HCK c0 c1 c2 c3 c4 lc
      have hp := pParse (bstr (scT sc)) (scT sc) rfl (by rw [bstr_size]; have := HBD.out.1; omega) HBD.out.2.1 HBD.out.2.2 w4 (HE.out.kept O4.out)
      rw [HBS.out] at hp
      have HP := Lib.hid hp
      clear hp
      go_wp2_with fail
      refine HP.out.mono ?_
      rintro e w5 ⟨⟨s2, hs2, hok5, rfl⟩, ho5⟩
      have HS2 := Lib.hid hs2; have HX5 := Lib.hid hok5; have O5 := Lib.hid (O4.out.nil_trans ho5); have B5 := Lib.hid (ho5.got B4.out (by simp))
      clear hs2 hok5 ho5 O4 B4 HP
      obtain ⟨nd2, lk2, ft2, un2, sd2, pn2, cn2, pl2, cl2, pf2, cf2⟩ := s2
      simp only [scV]
      go_upto_region 7 with (fail)
      refine alloc_abs (G := fun w0 => Code.wp _ _ _ _ w0) ?_
      intro w6 hb6 ho6 hs6
      have D6 := Lib.hid hb6; have O6 := Lib.hid (O5.out.nil_trans ho6); have B6 := Lib.hid (ho6.got B5.out (by simp)); have HX6 := Lib.hid (HX5.out.kept ho6)
      clear hb6 ho6 hs6 O5 B5 HX5
      have c0 := cell_got B6.out 0; have c1 := cell_got B6.out 1; have c2 := cell_got B6.out 2; have c3 := cell_got B6.out 3; have c4 := cell_got B6.out 4; have lc := got_lt B6.out
      have d0 := cell_got D6.out 0; have d1 := cell_got D6.out 1; have d2 := cell_got D6.out 2; have d3 := cell_got D6.out 3; have d4 := cell_got D6.out 4; have ld := got_lt D6.out
      have hsme := pSame HX6.out (HOK.out.kept O6.out)
      rw [HS2.out, HSC.out, decide_eq_true rfl] at hsme
      have HSE := Lib.hid hsme
      clear hsme
      go_wp2_with fail
      refine HSE.out.mono ?_
      rintro e w7 ⟨rfl, ho7⟩
      have O7 := Lib.hid (O6.out.nil_trans ho7)
      clear ho7 c0 c1 c2 c3 c4 lc d0 d1 d2 d3 d4 ld
      have HA := Lib.hid (pAwake w7 (HE.out.kept O7.out))
      go_wp2_with fail
      refine HA.out.mono ?_
      rintro e w8 ⟨rfl, ho8⟩
      have O8 := Lib.hid (O7.out.nil_trans ho8)
      clear ho8
      go_wp2
      go_ret
      exact ⟨rfl, O8.out⟩
    · have htx : txtS sc = ([], 2) := by unfold txtS; rw [if_neg hc]
      rw [htx]
      have HCK := Lib.hid hck
      clear hck htx
      obtain ⟨E, hE⟩ : ∃ E, E = chkS sc := ⟨_, rfl⟩
      rw [← hE] at hc HCK
      have z0 : (E == 0) = false := by simp [hc]
      have z0n : (E != 0) = true := by simp [hc]
      have tE : (bstr []).toList = [] := by rw [Lib.toList_data]; rfl
      generalize bstr [] = S at tE ⊢
      clear hE hc
      go_wp2_with fail
      refine HCK.out.mono ?_
      rintro e w4 ⟨rfl, ho4⟩
      have O4 := Lib.hid (O3.out.nil_trans ho4)
      clear ho4 c0 c1 c2 c3 c4 lc HCK
      have HA := Lib.hid (pAwake w4 (HE.out.kept O4.out))
      go_wp2_with fail
      refine HA.out.mono ?_
      rintro e w8 ⟨rfl, ho8⟩
      have O8 := Lib.hid (O4.out.nil_trans ho8)
      clear ho8
      go_wp2
      go_ret
      exact ⟨rfl, O8.out⟩
  · rw [show smW ⟨nd, lk, ft, un, sd, pn, cn, pl, cl, pf, cf⟩ = false by simpa using hsm]
    clear hsm
    have HA := Lib.hid (pAwake w2 (HE.out.kept O2.out))
    go_wp2_with fail
    refine HA.out.mono ?_
    rintro e w8 ⟨rfl, ho8⟩
    have O8 := Lib.hid (O2.out.nil_trans ho8)
    clear ho8
    go_wp2
    go_ret
    exact ⟨rfl, O8.out⟩
set_option maxRecDepth 100000 in
theorem scenarioBack_lifted (os : Os) (started : os.Started) (H : Type) (enc : TypeId × Value → H) :
    ReturnsInHanded {} Tryd.checked os 3 .any (fun w args => (Rows.scenarioBackSpec.pre enc Tryd.prog Tryd.f3 Rows.scenarioBackRow.domain false w args ∧ laidMetH Tryd.prog Rows.scenarioBackRow.laid w) ∧ sizedMet enc Tryd.prog Tryd.f3 (OpenSpec.ofChange Rows.scenarioBackSpec) false w args)
      (Rows.scenarioBackSpec.post enc Tryd.prog Tryd.f3 false true false false) := by
  refine returnsInHanded_of_change_and_shaped (C := Tryd.checked) (X := fun w _ => laidMetH Tryd.prog Rows.scenarioBackRow.laid w) (fun _ _ _ hh h => h.of_heap hh) law_own started (by kernel_rfl) Tryd.func3
    (ChangeSpec.witness_shaped (enc := enc) (C := Tryd.checked) (os := os) (X := fun w _ => laidMetH Tryd.prog Rows.scenarioBackRow.laid w) false (World.laidAll Tryd.prog os Rows.scenarioBackRow.laid) #[.agg #[.slice none 0 0, .slice none 0 0, .slice none 0 0, .int .i64 0, .int .u64 0]] 8 (World.laidAll_os _ _ _)
      (World.shaped_of_ZipB (by kernel_rfl) (by kernel_rfl)) (by kernel_rfl) (by kernel_rfl) (by kernel_rfl)
      (by rw [MakeChecks.laidMetH_plain _ _ _ (by kernel_rfl)]; exact laidMet_laidAll _ (by kernel_rfl) (by kernel_rfl))) ?_
  intro W base args ds gs before hval0 hW hcnd _ hL hsh _
  have hval : ∀ (j : Nat) t v, Tryd.f3.params[j]? = some t → args[j]? = some v → Value.okWide Tryd.prog W .any base t v := hval0
  have hW' := hW
  obtain ⟨p, q, hA0, hV, rfl, hfz, hnd⟩ := hW
  have hA : DataW.TrodAll enc Tryd.prog W 0 (fun _ => true) true Tryd.f3.params.toList args.toList ds p := hA0
  rw [Tryd.params3] at hA hval
  obtain ⟨v0, vs0, d0, ds0, p0, q0, hargs, rfl, rfl, h0, r0⟩ := trodAll_cons hA
  obtain ⟨rfl, rfl, rfl⟩ := trodAll_nil r0
  obtain rfl : args = #[v0] := by cases args; simp_all
  obtain ⟨rfl, rfl⟩ := trodVars_none hV
  have k0 := h0
  have lt0 : ∀ x ∈ p0, x.block < W.heap.size := by obtain ⟨m, hm⟩ := k0; exact DataW.trod_lt m _ _ _ hm
  obtain ⟨s0, rfl, z0⟩ := scene_of (hval 0 27 v0 rfl rfl) h0
  clear hA0 hval0
  refine (back_walk s0 z0 (env_of_laid (by kernel_rfl) (by simp [Rows.scenarioBackRow]) (by simp [Rows.scenarioBackRow]) (by simp [Rows.scenarioBackRow]) hL hsh)).mono fun e W' ⟨he, ho⟩ => ?_
  subst he
  have bel : Below W.heap.size W W' := ho.nil_below
  exact ⟨_, rfl, _, _, _, [], _, [], hW', trodAll_mk1 (shut_bool Tryd.underlying4 _), (trodAll_cons_mk (Below.trod law_laidOut (by kernel_rfl) (of_decide_eq_true (by kernel_rfl)) k0 bel lt0) trodAll_mk0), rfl, bel.frame _, fun h => by cases h⟩

theorem scenarioBack_over : Rows.scenarioBackRow.holds Tryd.pinned (OpenSpec.ofChange Rows.scenarioBackSpec) :=
  OpenClaim.holds_of_wide 3 Tryd.f3 rfl rfl rfl rfl rfl rfl rfl ⟨rfl, rfl, rfl, rfl, rfl⟩ rfl rfl rfl rfl rfl (by kernel_rfl) Tryd.func3 (by kernel_rfl)
    (of_decide_eq_true (by kernel_rfl)) (by unfold Func.isWrapper; first | (rw [if_pos (by decide +kernel)]; kernel_rfl) | (rw [if_neg (by decide +kernel)]; exact ⟨rfl, rfl⟩))
    (fun os started H enc _ => scenarioBack_lifted os started H enc)

theorem scenarioBack_holds : Rows.ScenarioBackCardSaid :=
  Claim7.holds_tied_plain_at .later [] [.data, .data, .data, .data, .sentinel, .sentinel, .pinned] true (true, "b13adb8c9f517f690b233c117c471c0584d8ea699463bbaaa7331c9b66606ae0") true scenarioBack_over (fun _ h => by cases h) (by kernel_rfl) (fun _ h => by cases h) scenarioBack_row_tie rfl ⟨rfl, rfl⟩ (by kernel_rfl) rfl
    (fun f fn hf hfn => by
      obtain rfl : f = 3 := Option.some.inj ((show Tryd.prog.funcNamed "timesync/timesynclaw56.ScenarioBack" = some 3 by kernel_rfl).symm.trans hf) |>.symm
      obtain rfl : fn = Tryd.f3 := (Option.some.inj (Tryd.func3.symm.trans hfn)).symm
      exact ⟨by kernel_rfl, fun j t ht => by
        rw [Tryd.params3] at ht
        have hm : t ∈ [27] := by simpa using Array.mem_of_getElem? ht
        have hall : ([27].all fun u => !Tryd.prog.wantsStandIn u) = true := by kernel_rfl
        exact (show Tryd.prog.wantsStandIn t = false by simpa using List.all_eq_true.1 hall t hm)⟩)
    (by kernel_rfl)
end Go.Proofs.YthmeifdgkodjlaaDoor
