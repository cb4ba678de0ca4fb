/- LeapTicks: the labels of consecutive TAI seconds follow one another, for every table and every second. Conditions: those of the given row. -/
import Derived.Test.YtnfejojakikeeaaDoorKs
namespace Go.Proofs.YtnfejojakikeeaaDoor
open Go.ChangeShapes Go.WideShapes Go.ChangeAt Go.RowKit

set_option maxRecDepth 100000 in
set_option maxHeartbeats 6000000 in
theorem ticks_walk {w : World} {p : Option Addr} {n cap : Nat} {es : List Le} (b x tai : Int) (t0 : -9223372036854775808 ≤ tai) (t1 : tai ≤ 9223372036854775807) (hv : VRow leC 2 w p n cap es) (he : Env w) (hd : Mdy w) :
    Calls Tryd.prog 4 #[.agg #[.int .i64 b, .int .i64 x, .slice p n cap], .int .i64 tai] w fun e w' => e = .returned (.bool true) ∧ Only [] w w' := by
  have HV := Lib.hid hv; have HE := Lib.hid he; have HD := Lib.hid hd; have HN := Lib.hid (vrow_n hv)
  clear he hd
  go_enter Tryd.func4, Tryd.ntmps4
  go_upto_region 1 with (fail)
  refine alloc_abs (G := fun w0 => Code.wp _ _ _ _ w0) ?_
  intro w1 hb1 ho1 hs1
  have B1 := Lib.hid hb1; have O1 := Lib.hid ho1
  clear hb1 ho1 hs1
  have g0 := cell_got B1.out 0; have g1 := cell_got B1.out 1; have g2 := cell_got B1.out 2; have l0 := got_lt B1.out
  go_wp2_with fail
  refine (ksmall b x p n cap HN.out).mono ?_
  rintro e w2 ⟨rfl, ho2⟩
  have B2 := Lib.hid (ho2.got B1.out (by simp)); have O2 := Lib.hid (O1.out.nil_trans ho2)
  clear ho2 g0 g1 g2 l0
  have g0 := cell_got B2.out 0; have g1 := cell_got B2.out 1; have g2 := cell_got B2.out 2; have l0 := got_lt B2.out
  by_cases h70 : n ≤ 70
  · rw [decide_eq_true h70]
    have hn : n ≤ 100000 := by omega
    clear h70
    by_cases hlo : tai < -9000000000
    · have d1 : decide (tai < -9000000000) = true := by simpa using hlo
      go_wp2_with fail
      refine (awake_any w2 (HE.out.kept O2.out) (HD.out.kept O2.out)).mono ?_
      rintro e w3 ⟨rfl, ho3⟩
      go_wp2
      go_ret
      exact ⟨rfl, O2.out.nil_trans ho3⟩
    · have d1 : decide (tai < -9000000000) = false := by simpa using hlo
      by_cases hhi : 9000000000 < tai
      · have d2 : decide (tai > 9000000000) = true := by simpa using hhi
        have d3 : decide (9000000000 < tai) = true := by simpa using hhi
        go_wp2_with fail
        refine (awake_any w2 (HE.out.kept O2.out) (HD.out.kept O2.out)).mono ?_
        rintro e w3 ⟨rfl, ho3⟩
        go_wp2
        go_ret
        exact ⟨rfl, O2.out.nil_trans ho3⟩
      · have d2 : decide (tai > 9000000000) = false := by simpa using hhi
        have d3 : decide (9000000000 < tai) = false := by simpa using hhi
        go_wp2_with fail
        refine (kUTC b x tai t0 t1 (HV.out.kept O2.out) hn (HD.out.kept O2.out)).mono ?_
        rintro e w3 ⟨rfl, ho3⟩
        have B3 := Lib.hid (ho3.got B2.out (by simp)); have O3 := Lib.hid (O2.out.nil_trans ho3)
        clear ho3 g0 g1 g2 l0
        have g0 := cell_got B3.out 0; have g1 := cell_got B3.out 1; have g2 := cell_got B3.out 2; have l0 := got_lt B3.out
        have z0 : -9223372036854775808 ≤ tai + 1 := by omega
        have z1 : tai + 1 ≤ 9223372036854775807 := by omega
        go_wp2_with fail
        refine (kUTC b x (tai + 1) z0 z1 (HV.out.kept O3.out) hn (HD.out.kept O3.out)).mono ?_
        rintro e w4 ⟨rfl, ho4⟩
        have B4 := Lib.hid (ho4.got B3.out (by simp)); have O4 := Lib.hid (O3.out.nil_trans ho4)
        clear ho4 g0 g1 g2 l0
        have g0 := cell_got B4.out 0; have g1 := cell_got B4.out 1; have g2 := cell_got B4.out 2; have l0 := got_lt B4.out
        have hT := ticks (b := b) (x := x) (tai := tai) (es := es)
        have hU := utc_bd b x es tai
        have hW := utc_bd b x es (tai + 1)
        generalize utcR b x es tai = R at hT hU
        generalize utcR b x es (tai + 1) = R' at hT hW
        obtain ⟨u, xu, eu⟩ := R
        obtain ⟨v, xv, ev⟩ := R'
        simp only at hT hU hW
        have HT := Lib.hid hT
        clear hT
        by_cases h0 : eu = 0
        · subst h0
          by_cases h0 : ev = 0
          · subst h0
            have hT := HT.out rfl rfl
            obtain ⟨hu0, hu1⟩ := hU
            obtain ⟨hw0, hw1⟩ := hW
            clear HT d1 d2 d3 hlo hhi
            unfold TickR at hT
            dsimp only at hT ⊢
            cases xv with
            | true =>
              rw [if_pos rfl] at hT
              obtain ⟨rfl, rfl, hab⟩ := hT
              obtain ⟨a, ha⟩ : ∃ a, offR b x (v + 1) es = a := ⟨_, rfl⟩
              obtain ⟨c, hc⟩ : ∃ c, offR b x v es = c := ⟨_, rfl⟩
              rw [ha, hc] at hab
              have HA := Lib.hid ha; have HC := Lib.hid hc
              clear ha hc
              go_wp2_with fail
              refine wp_region_grown [0, 1, 2, 3, 4, 5, 6, 7, 8, 9, 10, 11, 12, 13, 14, 15, 16, 17, 18, 19, 20, 21] [] (by kernel_rfl) (by kernel_rfl) ?_
              simp only [pick, List.map_cons, List.map_nil, List.getD_cons_succ, List.getD_cons_zero]
              iterate 1 (refine wpQuiet_step (fun K hK => ?_); go_simp; refine hK _ ?_; clear hK K)
              repeat (go_big_quiet_step (fail))
              refine wpQuiet_enter_w (by kernel_rfl) 11 #[.agg #[.int .i64 b, .int .i64 x, .slice p n cap], .int .i64 (v + 1)] (fun _ => by kernel_rfl) (.int .i64 a) (grown_only2 fun w' ho' => by have h := kOffset b x (v + 1) (HV.out.kept (O4.out.nil_trans ho')) hn (HD.out.kept (O4.out.nil_trans ho')); rw [HA.out] at h; exact h) ?_
              iterate 1 (refine wpQuiet_step (fun K hK => ?_); go_simp; refine hK _ ?_; clear hK K)
              repeat (go_big_quiet_step (fail))
              refine wpQuiet_enter_w (by kernel_rfl) 11 #[.agg #[.int .i64 b, .int .i64 x, .slice p n cap], .int .i64 v] (fun _ => by kernel_rfl) (.int .i64 c) (grown_only2 fun w' ho' => by have h := kOffset b x v (HV.out.kept (O4.out.nil_trans ho')) hn (HD.out.kept (O4.out.nil_trans ho')); rw [HC.out] at h; exact h) ?_
              iterate 1 (refine wpQuiet_step (fun K hK => ?_); go_simp; refine hK _ ?_; clear hK K)
              repeat (go_big_quiet_step (fail))
              refine wpQuiet_enter_w (by kernel_rfl) 8 #[] (fun _ => by kernel_rfl) (.bool true) (grown_only2 fun w' ho' => awake_any w' (HE.out.kept (O4.out.nil_trans ho')) (HD.out.kept (O4.out.nil_trans ho'))) ?_
              iterate 1 (refine wpQuiet_step (fun K hK => ?_); go_simp; refine hK _ ?_; clear hK K)
              repeat (go_big_quiet_step (fail))
              refine wpQuiet_nil ?_
              intro w9 hw9
              have ho9 := only_of_plus hw9; clear hw9
              go_wp2
              go_ret
              exact ⟨rfl, O4.out.nil_trans ho9⟩
            | false =>
              rw [if_neg (by simp)] at hT
              by_cases hd2 : v - u = 2
              · rw [if_pos hd2] at hT
                obtain ⟨rfl, hab⟩ := hT
                obtain ⟨a, ha⟩ : ∃ a, offR b x v es = a := ⟨_, rfl⟩
                obtain ⟨c, hc⟩ : ∃ c, offR b x u es = c := ⟨_, rfl⟩
                rw [ha, hc] at hab
                have HA := Lib.hid ha; have HC := Lib.hid hc
                clear ha hc
                go_wp2_with fail
                refine wp_region_grown [0, 1, 2, 3, 4, 5, 6, 7, 8, 9, 10, 11, 12, 13, 14, 15] [] (by kernel_rfl) (by kernel_rfl) ?_
                simp only [pick, List.map_cons, List.map_nil, List.getD_cons_succ, List.getD_cons_zero]
                iterate 1 (refine wpQuiet_step (fun K hK => ?_); go_simp; refine hK _ ?_; clear hK K)
                repeat (go_big_quiet_step (fail))
                refine wpQuiet_enter_w (by kernel_rfl) 11 #[.agg #[.int .i64 b, .int .i64 x, .slice p n cap], .int .i64 v] (fun _ => by kernel_rfl) (.int .i64 a) (grown_only2 fun w' ho' => by have h := kOffset b x v (HV.out.kept (O4.out.nil_trans ho')) hn (HD.out.kept (O4.out.nil_trans ho')); rw [HA.out] at h; exact h) ?_
                iterate 1 (refine wpQuiet_step (fun K hK => ?_); go_simp; refine hK _ ?_; clear hK K)
                repeat (go_big_quiet_step (fail))
                refine wpQuiet_enter_w (by kernel_rfl) 11 #[.agg #[.int .i64 b, .int .i64 x, .slice p n cap], .int .i64 u] (fun _ => by kernel_rfl) (.int .i64 c) (grown_only2 fun w' ho' => by have h := kOffset b x u (HV.out.kept (O4.out.nil_trans ho')) hn (HD.out.kept (O4.out.nil_trans ho')); rw [HC.out] at h; exact h) ?_
                iterate 1 (refine wpQuiet_step (fun K hK => ?_); go_simp; refine hK _ ?_; clear hK K)
                repeat (go_big_quiet_step (fail))
                refine wpQuiet_enter_w (by kernel_rfl) 8 #[] (fun _ => by kernel_rfl) (.bool true) (grown_only2 fun w' ho' => awake_any w' (HE.out.kept (O4.out.nil_trans ho')) (HD.out.kept (O4.out.nil_trans ho'))) ?_
                iterate 1 (refine wpQuiet_step (fun K hK => ?_); go_simp; refine hK _ ?_; clear hK K)
                repeat (go_big_quiet_step (fail))
                refine wpQuiet_nil ?_
                intro w9 hw9
                have ho9 := only_of_plus hw9; clear hw9
                go_wp2
                go_ret
                exact ⟨rfl, O4.out.nil_trans ho9⟩
              · rw [if_neg hd2] at hT
                obtain ⟨hd1, hab⟩ := hT
                clear hd2
                cases xu with
                | false =>
                  go_wp2_with fail
                  refine wp_region_grown [0, 1, 2, 3, 4, 5, 6, 7, 8, 9, 10, 11, 12, 13, 14, 15, 16, 17, 18, 19] [] (by kernel_rfl) (by kernel_rfl) ?_
                  simp only [pick, List.map_cons, List.map_nil, List.getD_cons_succ, List.getD_cons_zero]
                  iterate 1 (refine wpQuiet_step (fun K hK => ?_); go_simp; refine hK _ ?_; clear hK K)
                  repeat (go_big_quiet_step (fail))
                  refine wpQuiet_enter_w (by kernel_rfl) 8 #[] (fun _ => by kernel_rfl) (.bool true) (grown_only2 fun w' ho' => awake_any w' (HE.out.kept (O4.out.nil_trans ho')) (HD.out.kept (O4.out.nil_trans ho'))) ?_
                  iterate 1 (refine wpQuiet_step (fun K hK => ?_); go_simp; refine hK _ ?_; clear hK K)
                  repeat (go_big_quiet_step (fail))
                  refine wpQuiet_nil ?_
                  intro w9 hw9
                  have ho9 := only_of_plus hw9; clear hw9
                  go_wp2
                  go_ret
                  exact ⟨rfl, O4.out.nil_trans ho9⟩
                | true =>
                  have hab := hab rfl
                  obtain ⟨a, ha⟩ : ∃ a, offR b x v es = a := ⟨_, rfl⟩
                  obtain ⟨c, hc⟩ : ∃ c, offR b x u es = c := ⟨_, rfl⟩
                  rw [ha, hc] at hab
                  have HA := Lib.hid ha; have HC := Lib.hid hc
                  clear ha hc
                  go_wp2_with fail
                  refine wp_region_grown [0, 1, 2, 3, 4, 5, 6, 7, 8, 9, 10, 11, 12, 13, 14, 15, 16, 17, 18, 19] [] (by kernel_rfl) (by kernel_rfl) ?_
                  simp only [pick, List.map_cons, List.map_nil, List.getD_cons_succ, List.getD_cons_zero]
                  iterate 1 (refine wpQuiet_step (fun K hK => ?_); go_simp; refine hK _ ?_; clear hK K)
                  repeat (go_big_quiet_step (fail))
                  refine wpQuiet_enter_w (by kernel_rfl) 11 #[.agg #[.int .i64 b, .int .i64 x, .slice p n cap], .int .i64 v] (fun _ => by kernel_rfl) (.int .i64 a) (grown_only2 fun w' ho' => by have h := kOffset b x v (HV.out.kept (O4.out.nil_trans ho')) hn (HD.out.kept (O4.out.nil_trans ho')); rw [HA.out] at h; exact h) ?_
                  iterate 1 (refine wpQuiet_step (fun K hK => ?_); go_simp; refine hK _ ?_; clear hK K)
                  repeat (go_big_quiet_step (fail))
                  refine wpQuiet_enter_w (by kernel_rfl) 11 #[.agg #[.int .i64 b, .int .i64 x, .slice p n cap], .int .i64 u] (fun _ => by kernel_rfl) (.int .i64 c) (grown_only2 fun w' ho' => by have h := kOffset b x u (HV.out.kept (O4.out.nil_trans ho')) hn (HD.out.kept (O4.out.nil_trans ho')); rw [HC.out] at h; exact h) ?_
                  iterate 1 (refine wpQuiet_step (fun K hK => ?_); go_simp; refine hK _ ?_; clear hK K)
                  repeat (go_big_quiet_step (fail))
                  refine wpQuiet_enter_w (by kernel_rfl) 8 #[] (fun _ => by kernel_rfl) (.bool true) (grown_only2 fun w' ho' => awake_any w' (HE.out.kept (O4.out.nil_trans ho')) (HD.out.kept (O4.out.nil_trans ho'))) ?_
                  iterate 1 (refine wpQuiet_step (fun K hK => ?_); go_simp; refine hK _ ?_; clear hK K)
                  repeat (go_big_quiet_step (fail))
                  refine wpQuiet_nil ?_
                  intro w9 hw9
                  have ho9 := only_of_plus hw9; clear hw9
                  go_wp2
                  go_ret
                  exact ⟨rfl, O4.out.nil_trans ho9⟩
          · have b1 : (ev != 0) = true := by simp [h0]
            clear h0
            go_wp2_with fail
            refine (awake_any w4 (HE.out.kept O4.out) (HD.out.kept O4.out)).mono ?_
            rintro e w5 ⟨rfl, ho5⟩
            go_wp2
            go_ret
            exact ⟨rfl, O4.out.nil_trans ho5⟩
        · have b1 : (eu != 0) = true := by simp [h0]
          clear h0
          go_wp2_with fail
          refine (awake_any w4 (HE.out.kept O4.out) (HD.out.kept O4.out)).mono ?_
          rintro e w5 ⟨rfl, ho5⟩
          go_wp2
          go_ret
          exact ⟨rfl, O4.out.nil_trans ho5⟩
  · rw [decide_eq_false h70]
    clear h70
    go_wp2_with fail
    refine (awake_any w2 (HE.out.kept O2.out) (HD.out.kept O2.out)).mono ?_
    rintro e w3 ⟨rfl, ho3⟩
    go_wp2
    go_ret
    exact ⟨rfl, O2.out.nil_trans ho3⟩

set_option maxRecDepth 100000 in
theorem leapTicks_lifted (os : Os) (started : os.Started) (H : Type) (enc : TypeId × Value → H) :
    ReturnsInHanded {} Tryd.checked os 4 .any (fun w args => (Rows.leapTicksSpec.pre enc Tryd.prog Tryd.f4 Rows.leapTicksRow.domain false w args ∧ laidMetH Tryd.prog Rows.leapTicksRow.laid w) ∧ sizedMet enc Tryd.prog Tryd.f4 (OpenSpec.ofChange Rows.leapTicksSpec) false w args)
      (Rows.leapTicksSpec.post enc Tryd.prog Tryd.f4 false true false false) := by
  refine returnsInHanded_of_change_and_shaped (C := Tryd.checked) (X := fun w _ => laidMetH Tryd.prog Rows.leapTicksRow.laid w) (fun _ _ _ hh h => h.of_heap hh) law_own started (by kernel_rfl) Tryd.func4
    (ChangeSpec.witness_shaped (enc := enc) (C := Tryd.checked) (os := os) (X := fun w _ => laidMetH Tryd.prog Rows.leapTicksRow.laid w) false (World.laidAll Tryd.prog os Rows.leapTicksRow.laid) #[.agg #[.int .i64 0, .int .i64 0, .slice none 0 0], .int .i64 0] 8 (World.laidAll_os _ _ _)
      (World.shaped_of_ZipB (by kernel_rfl) (by kernel_rfl)) (by kernel_rfl) (by kernel_rfl) (by kernel_rfl)
      (by rw [MakeChecks.laidMetH_plain _ _ _ (by kernel_rfl)]; exact laidMet_laidAll _ (by kernel_rfl) (by kernel_rfl))) ?_
  intro W base args ds gs before hval0 hW hcnd _ hL hsh _
  have hval : ∀ (j : Nat) t v, Tryd.f4.params[j]? = some t → args[j]? = some v → Value.okWide Tryd.prog W .any base t v := hval0
  have hW' := hW
  obtain ⟨p, q, hA0, hV, rfl, hfz, hnd⟩ := hW
  have hA : DataW.TrodAll enc Tryd.prog W 0 (fun _ => true) true Tryd.f4.params.toList args.toList ds p := hA0
  rw [Tryd.params4] at hA hval
  obtain ⟨v0, vs0, d0, ds0, p0, q0, hargs, rfl, rfl, h0, r0⟩ := trodAll_cons hA
  obtain ⟨v1, vs1, d1, ds1, p1, q1, rfl, rfl, rfl, h1, r1⟩ := trodAll_cons r0
  obtain ⟨rfl, rfl, rfl⟩ := trodAll_nil r1
  obtain rfl : args = #[v0, v1] := by cases args; simp_all
  obtain ⟨rfl, rfl⟩ := trodVars_none hV
  have k0 := h0
  have lt0 : ∀ x ∈ p0, x.block < W.heap.size := by obtain ⟨m, hm⟩ := k0; exact DataW.trod_lt m _ _ _ hm
  obtain ⟨c00, c01, c02, y00, y01, y02, m0, rfl, _, _, hy00, hy01, hy02⟩ := Joins.open_agg3 Tryd.underlying24 (by kernel_rfl) (by kernel_rfl) (hval 0 24 v0 rfl rfl) h0
  obtain ⟨b0, eb0, _, wb0⟩ := DataW.trod_int Tryd.underlying3 hy00
  obtain ⟨x0, ex0, _, wx0⟩ := DataW.trod_int Tryd.underlying3 hy01
  simp at eb0 ex0
  subst eb0 ex0
  obtain ⟨p0', n0, cap0, ec02⟩ := Joins.slice_form Tryd.underlying22 hy02
  simp at ec02
  subst ec02
  obtain ⟨z0, w0⟩ := vrow_les (p := p0') (n := n0) (cap := cap0) ⟨m0, hy02⟩
  obtain ⟨a1, rfl, rfl, rfl, w1⟩ := open_int Tryd.underlying3 (hval 1 3 v1 rfl rfl) h1
  clear hA0 hval0
  refine (ticks_walk b0 x0 a1 (i64_of_wf w1).1 (i64_of_wf w1).2 w0 (env_of_laid (by kernel_rfl) (by simp [Rows.leapTicksRow]) (by simp [Rows.leapTicksRow]) (by simp [Rows.leapTicksRow]) hL hsh) (mdy_of_laid (by kernel_rfl) (by simp [Rows.leapTicksRow]) hL)).mono fun e W' ⟨he, ho⟩ => ?_
  subst he
  have bel : Below W.heap.size W W' := ho.nil_below
  exact ⟨_, rfl, _, _, _, [], _, [], hW', trodAll_mk1 (shut_bool Tryd.underlying4 _), (trodAll_cons_mk (Below.trod law_laidOut (by kernel_rfl) (of_decide_eq_true (by kernel_rfl)) k0 bel lt0) (trodAll_cons_mk (shut_int Tryd.underlying3 w1) trodAll_mk0)), rfl, bel.frame _, fun h => by cases h⟩

theorem leapTicks_over : Rows.leapTicksRow.holds Tryd.pinned (OpenSpec.ofChange Rows.leapTicksSpec) :=
  OpenClaim.holds_of_wide 4 Tryd.f4 rfl rfl rfl rfl rfl rfl rfl ⟨rfl, rfl, rfl, rfl, rfl⟩ rfl rfl rfl rfl rfl (by kernel_rfl) Tryd.func4 (by kernel_rfl)
    (of_decide_eq_true (by kernel_rfl)) (by unfold Func.isWrapper; first | (rw [if_pos (by decide +kernel)]; kernel_rfl) | (rw [if_neg (by decide +kernel)]; exact ⟨rfl, rfl⟩))
    (fun os started H enc _ => leapTicks_lifted os started H enc)

theorem leapTicks_holds : Rows.LeapTicksCardSaid :=
  Claim7.holds_tied_plain_at .later [] [.data, .data, .data, .data, .sentinel, .sentinel, .data, .pinned] true (true, "5732520129394a119826d989098d2e7a7d6df8f14fb532af2e1e32a7a3b67be6") true leapTicks_over (fun _ h => by cases h) (by kernel_rfl) (fun _ h => by cases h) leapTicks_row_tie rfl ⟨rfl, rfl⟩ (by kernel_rfl) rfl
    (fun f fn hf hfn => by
      obtain rfl : f = 4 := Option.some.inj ((show Tryd.prog.funcNamed "timesync/timesynclaw06.LeapTicks" = some 4 by kernel_rfl).symm.trans hf) |>.symm
      obtain rfl : fn = Tryd.f4 := (Option.some.inj (Tryd.func4.symm.trans hfn)).symm
      exact ⟨by kernel_rfl, fun j t ht => by
        rw [Tryd.params4] at ht
        have hm : t ∈ [24, 3] := by simpa using Array.mem_of_getElem? ht
        have hall : ([24, 3].all fun u => !Tryd.prog.wantsStandIn u) = true := by kernel_rfl
        exact (show Tryd.prog.wantsStandIn t = false by simpa using List.all_eq_true.1 hall t hm)⟩)
    (by kernel_rfl)
end Go.Proofs.YtnfejojakikeeaaDoor
