/- LeapTexts: Text and Parse of package leap return what the reference returns, for every table and every text. Conditions: those of the given row. -/
import Derived.Test.YtnfejojakikeeaaGreatDoorKs
import Derived.Test.YtnfejojakikeeaaGreatDoorQh
import Derived.Test.YtnfejojakikeeaaGreatDoorQi
namespace Go.Proofs.YtnfejojakikeeaaGreatDoor
open Go.ChangeShapes Go.WideShapes Go.ChangeAt Go.RowKit

set_option maxRecDepth 100000 in
set_option maxHeartbeats 6000000 in
theorem texts_walk {w : World} {p : Option Addr} {n cap : Nat} {es : List Le} (b x : Int) (X : ByteArray) (hv : VRow leC 2 w p n cap es) (he : Env w) (hd : Mdy w) :
    Calls Tryz.prog 5 #[.agg #[.int .i64 b, .int .i64 x, .slice p n cap], .string X] w fun e w' => e = .returned (.bool true) ∧ Only [] w w' := by
  have HV := Lib.hid hv; have HE := Lib.hid he; have HD := Lib.hid hd; have HN := Lib.hid (vrow_n hv)
  clear he hd
  go_enter Tryz.func5, Tryz.ntmps5
  go_upto_region 1 with (fail)
  refine alloc_abs (G := fun w0 => Code.wp _ _ _ _ w0) ?_
  intro w1 hb1 ho1 hs1
  have B1 := Lib.hid hb1; have O1 := Lib.hid ho1
  clear hb1 ho1 hs1
  have g0 := cell_got B1.out 0; have g1 := cell_got B1.out 1; have g2 := cell_got B1.out 2; have l0 := got_lt B1.out
  go_wp2_with fail
  refine (ksmall b x p n cap HN.out).mono ?_
  rintro e w2 ⟨rfl, ho2⟩
  have B2 := Lib.hid (ho2.got B1.out (by simp)); have O2 := Lib.hid (O1.out.nil_trans ho2)
  clear ho2 g0 g1 g2 l0
  have g0 := cell_got B2.out 0; have g1 := cell_got B2.out 1; have g2 := cell_got B2.out 2; have l0 := got_lt B2.out
  by_cases h70 : n ≤ 70
  · rw [decide_eq_true h70]
    have hn : n ≤ 100000 := by omega
    clear h70
    by_cases h3 : 3000 < X.size
    · have d1 : decide ((X.size : Int) > 3000) = true := by simp; omega
      have d2 : decide (3000 < (X.size : Int)) = true := by simp; omega
      go_wp2_with fail
      refine (awake_any w2 (HE.out.kept O2.out) (HD.out.kept O2.out)).mono ?_
      rintro e w3 ⟨rfl, ho3⟩
      go_wp2
      go_ret
      exact ⟨rfl, O2.out.nil_trans ho3⟩
    · have d1 : decide ((X.size : Int) > 3000) = false := by simp; omega
      have d2 : decide (3000 < (X.size : Int)) = false := by simp; omega
      have HPX := Lib.hid (fun w1 he1 hd1 => kParse X X.data.toList rfl (by omega) w1 he1 hd1)
      have HQX := Lib.hid (fun w1 => rParse X X.data.toList rfl (by omega) w1)
      have hpo := prsK_ok (s := X.data.toList)
      have hpb := prsK_bad (s := X.data.toList)
      have hl2 : (prsK X.data.toList).1.2.2.length ≤ 100000 := by
        by_cases h0 : (prsK X.data.toList).2 = 0
        · have := (chkT_ok (hpo h0)).1; omega
        · rw [hpb h0]; simp
      generalize prsK X.data.toList = R at HPX HQX hl2
      obtain ⟨⟨b2, x2, es2⟩, f⟩ := R
      simp only at hl2
      clear hpo hpb h3
      have hkt := fun w' (ho : Only [] w w') => kText b x (HV.out.kept ho) hn (HD.out.kept ho) (HE.out.kept ho).tab
      have hrt := fun w' (ho : Only [] w w') => rText b x (HV.out.kept ho) hn
      generalize bstr (txtK b x es) = TT at hkt hrt
      have HKT := Lib.hid hkt; have HRT := Lib.hid hrt
      clear hkt hrt
      go_wp2_with fail
      refine (HPX.out w2 (HE.out.kept O2.out) (HD.out.kept O2.out)).mono ?_
      rintro e w3 ⟨⟨p3, cap3, rfl, hv3⟩, ho3⟩
      simp only at hv3 ⊢
      have B3 := Lib.hid (ho3.got B2.out (by simp)); have O3 := Lib.hid (O2.out.nil_trans ho3); have VA3 := Lib.hid hv3
      clear ho3 hv3 g0 g1 g2 l0
      go_upto_region 4 with (fail)
      refine alloc_abs (G := fun w0 => Code.wp _ _ _ _ w0) ?_
      intro w4 hb4 ho4 hs4
      have B4 := Lib.hid (ho4.got B3.out (by simp)); have O4 := Lib.hid (O3.out.nil_trans ho4); have VA4 := Lib.hid (VA3.out.kept ho4); have Q4 := Lib.hid hb4
      clear hb4 ho4 hs4 VA3 B3
      go_wp2_with fail
      refine (HQX.out w4).mono ?_
      rintro e w5 ⟨⟨p5, cap5, rfl, hv5⟩, ho5⟩
      simp only at hv5 ⊢
      have B5 := Lib.hid (ho5.got B4.out (by simp)); have O5 := Lib.hid (O4.out.nil_trans ho5); have VA5 := Lib.hid (VA4.out.kept ho5); have Q5 := Lib.hid (ho5.got Q4.out (by simp)); have VB5 := Lib.hid hv5
      clear ho5 hv5 VA4 B4 Q4
      go_upto_region 5 with (fail)
      refine alloc_abs (G := fun w0 => Code.wp _ _ _ _ w0) ?_
      intro w6 hb6 ho6 hs6
      have B6 := Lib.hid (ho6.got B5.out (by simp)); have O6 := Lib.hid (O5.out.nil_trans ho6); have VA6 := Lib.hid (VA5.out.kept ho6); have VB6 := Lib.hid (VB5.out.kept ho6); have Q6 := Lib.hid (ho6.got Q5.out (by simp)); have R6 := Lib.hid hb6
      clear hb6 ho6 hs6 VA5 VB5 B5 Q5
      have g0 := cell_got B6.out 0; have g1 := cell_got B6.out 1; have g2 := cell_got B6.out 2; have l0 := got_lt B6.out
      have s0 := cell_got Q6.out 0; have s1 := cell_got Q6.out 1; have s2 := cell_got Q6.out 2; have ls := got_lt Q6.out
      have r0 := cell_got R6.out 0; have r1 := cell_got R6.out 1; have r2 := cell_got R6.out 2; have lr := got_lt R6.out
      have hsm := fun w' (ho : Only [] w6 w') => ksame b2 x2 b2 x2 (VA6.out.kept ho) (VB6.out.kept ho) hl2 hl2
      rw [decide_eq_true ⟨rfl, rfl, rfl⟩] at hsm
      have HSM := Lib.hid hsm
      clear hsm
      go_wp2_with fail
      refine wp_region_grown [0, 1, 2, 3, 4, 5, 6, 7, 8, 9, 10, 11, 12, 13, 14, 15, 16, 17, 18] [] (by kernel_rfl) (by kernel_rfl) ?_
      simp only [pick, List.map_cons, List.map_nil, List.getD_cons_succ, List.getD_cons_zero]
      iterate 1 (refine wpQuiet_step (fun K hK => ?_); go_simp; refine hK _ ?_; clear hK K)
      refine wpQuiet_enter_w (by kernel_rfl) 16 #[.agg #[.int .i64 b, .int .i64 x, .slice p n cap]] (fun _ => by kernel_rfl) (.string TT) (grown_only2 fun w' ho' => HKT.out w' (O6.out.nil_trans ho')) ?_
      iterate 1 (refine wpQuiet_step (fun K hK => ?_); go_simp; refine hK _ ?_; clear hK K)
      refine wpQuiet_enter_w (by kernel_rfl) 17 #[.agg #[.int .i64 b, .int .i64 x, .slice p n cap]] (fun _ => by kernel_rfl) (.string TT) (grown_only2 fun w' ho' => HRT.out w' (O6.out.nil_trans ho')) ?_
      iterate 1 (refine wpQuiet_step (fun K hK => ?_); go_simp; refine hK _ ?_; clear hK K)
      repeat (go_big_quiet_step (fail))
      refine wpQuiet_enter_w (by kernel_rfl) 18 #[.agg #[.int .i64 b2, .int .i64 x2, .slice p3 es2.length cap3], .agg #[.int .i64 b2, .int .i64 x2, .slice p5 es2.length cap5]] (fun _ => by kernel_rfl) (.bool true) (grown_only2 fun w' ho' => HSM.out w' ho') ?_
      iterate 1 (refine wpQuiet_step (fun K hK => ?_); go_simp; refine hK _ ?_; clear hK K)
      repeat (go_big_quiet_step (fail))
      refine wpQuiet_enter_w (by kernel_rfl) 7 #[] (fun _ => by kernel_rfl) (.bool true) (grown_only2 fun w' ho' => awake_any w' (HE.out.kept (O6.out.nil_trans ho')) (HD.out.kept (O6.out.nil_trans ho'))) ?_
      iterate 1 (refine wpQuiet_step (fun K hK => ?_); go_simp; refine hK _ ?_; clear hK K)
      repeat (go_big_quiet_step (fail))
      refine wpQuiet_nil ?_
      intro w9 hw9
      have ho9 := only_of_plus hw9; clear hw9
      go_wp2
      go_ret
      exact ⟨rfl, O6.out.nil_trans ho9⟩
  · rw [decide_eq_false h70]
    clear h70
    go_wp2_with fail
    refine (awake_any w2 (HE.out.kept O2.out) (HD.out.kept O2.out)).mono ?_
    rintro e w3 ⟨rfl, ho3⟩
    go_wp2
    go_ret
    exact ⟨rfl, O2.out.nil_trans ho3⟩

set_option maxRecDepth 100000 in
theorem leapTexts_lifted (os : Os) (started : os.Started) (H : Type) (enc : TypeId × Value → H) :
    ReturnsInHanded {} Tryz.checked os 5 .any (fun w args => (Rows.leapTextsSpec.pre enc Tryz.prog Tryz.f5 Rows.leapTextsRow.domain false w args ∧ laidMetH Tryz.prog Rows.leapTextsRow.laid w) ∧ sizedMet enc Tryz.prog Tryz.f5 (OpenSpec.ofChange Rows.leapTextsSpec) false w args)
      (Rows.leapTextsSpec.post enc Tryz.prog Tryz.f5 false true false false) := by
  refine returnsInHanded_of_change_and_shaped (C := Tryz.checked) (X := fun w _ => laidMetH Tryz.prog Rows.leapTextsRow.laid w) (fun _ _ _ hh h => h.of_heap hh) law_own started (by kernel_rfl) Tryz.func5
    (ChangeSpec.witness_shaped (enc := enc) (C := Tryz.checked) (os := os) (X := fun w _ => laidMetH Tryz.prog Rows.leapTextsRow.laid w) false (World.laidAll Tryz.prog os Rows.leapTextsRow.laid) #[.agg #[.int .i64 0, .int .i64 0, .slice none 0 0], .string ⟨#[]⟩] 8 (World.laidAll_os _ _ _)
      (World.shaped_of_ZipB (by kernel_rfl) (by kernel_rfl)) (by kernel_rfl) (by kernel_rfl) (by kernel_rfl)
      (by rw [MakeChecks.laidMetH_plain _ _ _ (by kernel_rfl)]; exact laidMet_laidAll _ (by kernel_rfl) (by kernel_rfl))) ?_
  intro W base args ds gs before hval0 hW hcnd _ hL hsh _
  have hval : ∀ (j : Nat) t v, Tryz.f5.params[j]? = some t → args[j]? = some v → Value.okWide Tryz.prog W .any base t v := hval0
  have hW' := hW
  obtain ⟨p, q, hA0, hV, rfl, hfz, hnd⟩ := hW
  have hA : DataW.TrodAll enc Tryz.prog W 0 (fun _ => true) true Tryz.f5.params.toList args.toList ds p := hA0
  rw [Tryz.params5] at hA hval
  obtain ⟨v0, vs0, d0, ds0, p0, q0, hargs, rfl, rfl, h0, r0⟩ := trodAll_cons hA
  obtain ⟨v1, vs1, d1, ds1, p1, q1, rfl, rfl, rfl, h1, r1⟩ := trodAll_cons r0
  obtain ⟨rfl, rfl, rfl⟩ := trodAll_nil r1
  obtain rfl : args = #[v0, v1] := by cases args; simp_all
  obtain ⟨rfl, rfl⟩ := trodVars_none hV
  have k0 := h0
  have lt0 : ∀ x ∈ p0, x.block < W.heap.size := by obtain ⟨m, hm⟩ := k0; exact DataW.trod_lt m _ _ _ hm
  obtain ⟨c00, c01, c02, y00, y01, y02, m0, rfl, _, _, hy00, hy01, hy02⟩ := Joins.open_agg3 Tryz.underlying24 (by kernel_rfl) (by kernel_rfl) (hval 0 24 v0 rfl rfl) h0
  obtain ⟨b0, eb0, _, wb0⟩ := DataW.trod_int Tryz.underlying3 hy00
  obtain ⟨x0, ex0, _, wx0⟩ := DataW.trod_int Tryz.underlying3 hy01
  simp at eb0 ex0
  subst eb0 ex0
  obtain ⟨p0', n0, cap0, ec02⟩ := Joins.slice_form Tryz.underlying22 hy02
  simp at ec02
  subst ec02
  obtain ⟨z0, w0⟩ := vrow_les (p := p0') (n := n0) (cap := cap0) ⟨m0, hy02⟩
  have k1 := h1
  have lt1 : ∀ x ∈ p1, x.block < W.heap.size := by obtain ⟨m, hm⟩ := k1; exact DataW.trod_lt m _ _ _ hm
  obtain ⟨a1, rfl, _, _, w1⟩ := Go.ChangeMaps.open_string Tryz.underlying9 (hval 1 9 v1 rfl rfl) h1
  clear hA0 hval0
  refine (texts_walk b0 x0 a1 w0 (env_of_laid (by kernel_rfl) (by simp [Rows.leapTextsRow]) (by simp [Rows.leapTextsRow]) (by simp [Rows.leapTextsRow]) hL hsh) (mdy_of_laid (by kernel_rfl) (by simp [Rows.leapTextsRow]) hL)).mono fun e W' ⟨he, ho⟩ => ?_
  subst he
  have bel : Below W.heap.size W W' := ho.nil_below
  exact ⟨_, rfl, _, _, _, [], _, [], hW', trodAll_mk1 (shut_bool Tryz.underlying4 _), (trodAll_cons_mk (Below.trod law_laidOut (by kernel_rfl) (of_decide_eq_true (by kernel_rfl)) k0 bel lt0) (trodAll_cons_mk (Below.trod law_laidOut (by kernel_rfl) (of_decide_eq_true (by kernel_rfl)) k1 bel lt1) trodAll_mk0)), rfl, bel.frame _, fun h => by cases h⟩

theorem leapTexts_over : Rows.leapTextsRow.holds Tryz.pinned (OpenSpec.ofChange Rows.leapTextsSpec) :=
  OpenClaim.holds_of_wide 5 Tryz.f5 rfl rfl rfl rfl rfl rfl rfl ⟨rfl, rfl, rfl, rfl, rfl⟩ rfl rfl rfl rfl rfl (by kernel_rfl) Tryz.func5 (by kernel_rfl)
    (of_decide_eq_true (by kernel_rfl)) (by unfold Func.isWrapper; first | (rw [if_pos (by decide +kernel)]; kernel_rfl) | (rw [if_neg (by decide +kernel)]; exact ⟨rfl, rfl⟩))
    (fun os started H enc _ => leapTexts_lifted os started H enc)

theorem leapTexts_holds : Rows.LeapTextsCardSaid :=
  Claim7.holds_tied_plain_at .later [] [.data, .data, .data, .data, .sentinel, .sentinel, .data, .pinned] true (true, "cf5c5fa06630b029b966643b2199c4952a7eada3c074a63ed6b225beb18c6122") true leapTexts_over (fun _ h => by cases h) (by kernel_rfl) (fun _ h => by cases h) leapTexts_row_tie rfl ⟨rfl, rfl⟩ (by kernel_rfl) rfl
    (fun f fn hf hfn => by
      obtain rfl : f = 5 := Option.some.inj ((show Tryz.prog.funcNamed "timesync/timesynclaw06.LeapTexts" = some 5 by kernel_rfl).symm.trans hf) |>.symm
      obtain rfl : fn = Tryz.f5 := (Option.some.inj (Tryz.func5.symm.trans hfn)).symm
      exact ⟨by kernel_rfl, fun j t ht => by
        rw [Tryz.params5] at ht
        have hm : t ∈ [24, 9] := by simpa using Array.mem_of_getElem? ht
        have hall : ([24, 9].all fun u => !Tryz.prog.wantsStandIn u) = true := by kernel_rfl
        exact (show Tryz.prog.wantsStandIn t = false by simpa using List.all_eq_true.1 hall t hm)⟩)
    (by kernel_rfl)
end Go.Proofs.YtnfejojakikeeaaGreatDoor
