/- LeapAnnounces: an indicator of 1 or 2 announces the next entry, which begins with the month after that of the second, for every table and every second. Conditions: those of the given row. -/
import Derived.Test.YtnfejojakikeeaaDoorKs
namespace Go.Proofs.YtnfejojakikeeaaDoor
open Go.ChangeShapes Go.WideShapes Go.ChangeAt Go.RowKit

set_option maxRecDepth 100000 in
set_option maxHeartbeats 6000000 in
theorem announces_walk {w : World} {p : Option Addr} {n cap : Nat} {es : List Le} (b x utc : Int) (hv : VRow leC 2 w p n cap es) (he : Env w) (hd : Mdy w) :
    Calls Tryd.prog 6 #[.agg #[.int .i64 b, .int .i64 x, .slice p n cap], .int .i64 utc] w fun e w' => e = .returned (.bool true) ∧ Only [] w w' := by
  have HV := Lib.hid hv; have HE := Lib.hid he; have HD := Lib.hid hd; have HN := Lib.hid (vrow_n hv)
  clear he hd
  go_enter Tryd.func6, Tryd.ntmps6
  go_upto_region 1 with (fail)
  refine alloc_abs (G := fun w0 => Code.wp _ _ _ _ w0) ?_
  intro w1 hb1 ho1 hs1
  have B1 := Lib.hid hb1; have O1 := Lib.hid ho1
  clear hb1 ho1 hs1
  have g0 := cell_got B1.out 0; have g1 := cell_got B1.out 1; have g2 := cell_got B1.out 2; have l0 := got_lt B1.out
  go_wp2_with fail
  refine (ksmall b x p n cap HN.out).mono ?_
  rintro e w2 ⟨rfl, ho2⟩
  have B2 := Lib.hid (ho2.got B1.out (by simp)); have O2 := Lib.hid (O1.out.nil_trans ho2)
  clear ho2 g0 g1 g2 l0
  have g0 := cell_got B2.out 0; have g1 := cell_got B2.out 1; have g2 := cell_got B2.out 2; have l0 := got_lt B2.out
  by_cases h70 : n ≤ 70
  · rw [decide_eq_true h70]
    have hn : n ≤ 100000 := by omega
    clear h70
    go_wp2_with fail
    refine (kInd b x utc (HV.out.kept O2.out) hn (HD.out.kept O2.out)).mono ?_
    rintro e w3 ⟨⟨v, rfl, hiv⟩, ho3⟩
    have B3 := Lib.hid (ho3.got B2.out (by simp)); have O3 := Lib.hid (O2.out.nil_trans ho3)
    clear ho3 g0 g1 g2 l0
    have g0 := cell_got B3.out 0; have g1 := cell_got B3.out 1; have g2 := cell_got B3.out 2; have l0 := got_lt B3.out
    rcases announce hiv with h | ⟨hv12, en, y, m, d, hnx, a1, a2, a3, a4, a5, a6, a7, a8, a9, a10, a11, a12⟩
    · clear hiv
      rcases h with rfl | ⟨rfl, hx⟩
      · go_wp2_with fail
        refine (awake_any w3 (HE.out.kept O3.out) (HD.out.kept O3.out)).mono ?_
        rintro e w4 ⟨rfl, ho4⟩
        go_wp2
        go_ret
        exact ⟨rfl, O3.out.nil_trans ho4⟩
      · have d1 : decide (utc ≥ x) = true := by simpa using hx
        have d2 : decide (x ≤ utc) = true := by simpa using hx
        go_wp2_with fail
        refine (awake_any w3 (HE.out.kept O3.out) (HD.out.kept O3.out)).mono ?_
        rintro e w4 ⟨rfl, ho4⟩
        go_wp2
        go_ret
        exact ⟨rfl, O3.out.nil_trans ho4⟩
    · clear hiv
      obtain ⟨ea, eo⟩ := en
      simp only at a4 a5 a7 a8 a9 a10 a11
      obtain ⟨of, hof⟩ : ∃ of, offR b x utc es = of := ⟨_, rfl⟩
      rw [hof] at a10 a12
      have b11 := inM_t.1 a11; have b12 := inM_t.1 a12
      have HOF := Lib.hid hof; have HNX := Lib.hid hnx; have C6 := Lib.hid a6; have C7 := Lib.hid a7
      have hM : 12 * nxY y m + nxM m - (12 * y + m) = 1 := by
        have := a6.2.2.1; have := a6.2.2.2.1
        unfold nxY nxM; split <;> omega
      have i6 : 1600 ≤ y ∧ y ≤ 2199 ∧ 1 ≤ m ∧ m ≤ 12 := ⟨a6.1, a6.2.1, a6.2.2.1, a6.2.2.2.1⟩
      have i7 : 1600 ≤ nxY y m ∧ nxY y m ≤ 2199 ∧ 1 ≤ nxM m ∧ nxM m ≤ 12 := ⟨a7.1, a7.2.1, a7.2.2.1, a7.2.2.2.1⟩
      obtain ⟨Y, hY⟩ : ∃ Y, Y = nxY y m := ⟨_, rfl⟩
      obtain ⟨M, hMM⟩ : ∃ M, M = nxM m := ⟨_, rfl⟩
      rw [← hY, ← hMM] at hM C7 i7
      obtain ⟨i60, i61, i62, i63⟩ := i6
      obtain ⟨i70, i71, i72, i73⟩ := i7
      have e1 : decide (utc < -8000000000) = false := by simp; omega
      have e2 : decide (ea - utc > 2678400) = false := by simp; omega
      have e3 : decide (2678400 < ea - utc) = false := by simp; omega
      have e4 : decide (ea - utc < 1) = false := by simp; omega
      have e5 : decide (utc < x) = true := by simpa using a2
      have u1 : utc ≤ 8000000000 := by omega
      obtain ⟨b11a, b11b⟩ := b11
      obtain ⟨b12a, b12b⟩ := b12
      have hv2 : eo - of = 3 - 2 * v := a10
      clear hof hnx a6 a7 hY hMM a11 a12 a10
      rcases hv12 with rfl | rfl
      · have hv3 : eo - of = 1 := by omega
        clear hv2
        have hN := kNext b x utc (HV.out.kept O3.out) hn (HD.out.kept O3.out)
        rw [HNX.out] at hN
        have HNN := Lib.hid hN
        clear hN
        go_wp2_with fail
        refine (HNN.out).mono ?_
        rintro e w4 ⟨rfl, ho4⟩
        have B4 := Lib.hid (ho4.got B3.out (by simp)); have O4 := Lib.hid (O3.out.nil_trans ho4)
        clear ho4 g0 g1 g2 l0
        have g0 := cell_got B4.out 0; have g1 := cell_got B4.out 1; have g2 := cell_got B4.out 2; have l0 := got_lt B4.out
        simp only [nxtV]
        go_upto_region 7 with (fail)
        refine alloc_abs (G := fun w0 => Code.wp _ _ _ _ w0) ?_
        intro w5 hb5 ho5 hs5
        have B5 := Lib.hid (ho5.got B4.out (by simp)); have O5 := Lib.hid (O4.out.nil_trans ho5); have N5 := Lib.hid hb5
        clear hb5 ho5 hs5 g0 g1 g2 l0
        have g0 := cell_got B5.out 0; have g1 := cell_got B5.out 1; have g2 := cell_got B5.out 2; have l0 := got_lt B5.out
        have q0 := cell_got N5.out 0; have lq := got_lt N5.out
        go_wp2_with fail
        refine (cof_yes utc w5 a1 u1 (HD.out.kept O5.out)).mono ?_
        rintro e w6 ⟨⟨y6, m6, d6, hc6, rfl⟩, ho6⟩
        obtain ⟨rfl, rfl, rfl⟩ := C6.out.uniq hc6
        have B6 := Lib.hid (ho6.got B5.out (by simp)); have O6 := Lib.hid (O5.out.nil_trans ho6); have N6 := Lib.hid (ho6.got N5.out (by simp))
        clear ho6 hc6 g0 g1 g2 l0 q0 lq
        unfold civV
        go_upto_region 10 with (fail)
        refine alloc_abs (G := fun w0 => Code.wp _ _ _ _ w0) ?_
        intro w7 hb7 ho7 hs7
        have B7 := Lib.hid (ho7.got B6.out (by simp)); have O7 := Lib.hid (O6.out.nil_trans ho7); have N7 := Lib.hid (ho7.got N6.out (by simp)); have P7 := Lib.hid hb7
        clear hb7 ho7 hs7
        have q0 := cell_got N7.out 0; have lq := got_lt N7.out
        go_wp2_with fail
        refine (cof_yes ea w7 a8 a9 (HD.out.kept O7.out)).mono ?_
        rintro e w8 ⟨⟨y8, m8, d8, hc8, rfl⟩, ho8⟩
        obtain ⟨rfl, rfl, rfl⟩ := C7.out.uniq hc8
        have B8 := Lib.hid (ho8.got B7.out (by simp)); have O8 := Lib.hid (O7.out.nil_trans ho8); have N8 := Lib.hid (ho8.got N7.out (by simp)); have P8 := Lib.hid (ho8.got P7.out (by simp))
        clear ho8 hc8 q0 lq
        unfold civV
        go_upto_region 11 with (fail)
        refine alloc_abs (G := fun w0 => Code.wp _ _ _ _ w0) ?_
        intro w10 hb10 ho10 hs10
        have B10 := Lib.hid (ho10.got B8.out (by simp)); have O10 := Lib.hid (O8.out.nil_trans ho10); have N10 := Lib.hid (ho10.got N8.out (by simp)); have P10 := Lib.hid (ho10.got P8.out (by simp)); have R10 := Lib.hid hb10
        clear hb10 ho10 hs10 B8 O8 N8 P8 B7 O7 N7 P7 B6 O6 N6 B5 O5 N5 B4 O4
        have g0 := cell_got B10.out 0; have g1 := cell_got B10.out 1; have g2 := cell_got B10.out 2; have l0 := got_lt B10.out
        have q1 := cell_got N10.out 1; have lq := got_lt N10.out
        have y0 := cell_got P10.out 0; have y1 := cell_got P10.out 1; have ly := got_lt P10.out
        have r0 := cell_got R10.out 0; have r1 := cell_got R10.out 1; have r2 := cell_got R10.out 2; have lr := got_lt R10.out
        go_wp2_with fail
        refine wp_region_grown [0, 1, 2, 3, 4, 5, 6, 7, 8, 9, 10, 11, 12, 13, 14, 15, 16, 17, 18, 19] [] (by kernel_rfl) (by kernel_rfl) ?_
        simp only [pick, List.map_cons, List.map_nil, List.getD_cons_succ, List.getD_cons_zero]
        iterate 4 (refine wpQuiet_step (fun K hK => ?_); go_simp; refine hK _ ?_; clear hK K)
        refine wpQuiet_enter_w (by kernel_rfl) 11 #[.agg #[.int .i64 b, .int .i64 x, .slice p n cap], .int .i64 utc] (fun _ => by kernel_rfl) (.int .i64 of) (grown_only2 fun w' ho' => by have h := kOffset b x utc (HV.out.kept (O10.out.nil_trans ho')) hn (HD.out.kept (O10.out.nil_trans ho')); rw [HOF.out] at h; exact h) ?_
        iterate 12 (refine wpQuiet_step (fun K hK => ?_); go_simp; refine hK _ ?_; clear hK K)
        refine wpQuiet_enter_w (by kernel_rfl) 8 #[] (fun _ => by kernel_rfl) (.bool true) (grown_only2 fun w' ho' => awake_any w' (HE.out.kept (O10.out.nil_trans ho')) (HD.out.kept (O10.out.nil_trans ho'))) ?_
        iterate 2 (refine wpQuiet_step (fun K hK => ?_); go_simp; refine hK _ ?_; clear hK K)
        refine wpQuiet_nil ?_
        intro w9 hw9
        have ho9 := only_of_plus hw9; clear hw9
        go_wp2
        go_ret
        exact ⟨rfl, O10.out.nil_trans ho9⟩
      · have hv3 : eo - of = -1 := by omega
        clear hv2
        have hN := kNext b x utc (HV.out.kept O3.out) hn (HD.out.kept O3.out)
        rw [HNX.out] at hN
        have HNN := Lib.hid hN
        clear hN
        go_wp2_with fail
        refine (HNN.out).mono ?_
        rintro e w4 ⟨rfl, ho4⟩
        have B4 := Lib.hid (ho4.got B3.out (by simp)); have O4 := Lib.hid (O3.out.nil_trans ho4)
        clear ho4 g0 g1 g2 l0
        have g0 := cell_got B4.out 0; have g1 := cell_got B4.out 1; have g2 := cell_got B4.out 2; have l0 := got_lt B4.out
        simp only [nxtV]
        go_upto_region 7 with (fail)
        refine alloc_abs (G := fun w0 => Code.wp _ _ _ _ w0) ?_
        intro w5 hb5 ho5 hs5
        have B5 := Lib.hid (ho5.got B4.out (by simp)); have O5 := Lib.hid (O4.out.nil_trans ho5); have N5 := Lib.hid hb5
        clear hb5 ho5 hs5 g0 g1 g2 l0
        have g0 := cell_got B5.out 0; have g1 := cell_got B5.out 1; have g2 := cell_got B5.out 2; have l0 := got_lt B5.out
        have q0 := cell_got N5.out 0; have lq := got_lt N5.out
        go_wp2_with fail
        refine (cof_yes utc w5 a1 u1 (HD.out.kept O5.out)).mono ?_
        rintro e w6 ⟨⟨y6, m6, d6, hc6, rfl⟩, ho6⟩
        obtain ⟨rfl, rfl, rfl⟩ := C6.out.uniq hc6
        have B6 := Lib.hid (ho6.got B5.out (by simp)); have O6 := Lib.hid (O5.out.nil_trans ho6); have N6 := Lib.hid (ho6.got N5.out (by simp))
        clear ho6 hc6 g0 g1 g2 l0 q0 lq
        unfold civV
        go_upto_region 10 with (fail)
        refine alloc_abs (G := fun w0 => Code.wp _ _ _ _ w0) ?_
        intro w7 hb7 ho7 hs7
        have B7 := Lib.hid (ho7.got B6.out (by simp)); have O7 := Lib.hid (O6.out.nil_trans ho7); have N7 := Lib.hid (ho7.got N6.out (by simp)); have P7 := Lib.hid hb7
        clear hb7 ho7 hs7
        have q0 := cell_got N7.out 0; have lq := got_lt N7.out
        go_wp2_with fail
        refine (cof_yes ea w7 a8 a9 (HD.out.kept O7.out)).mono ?_
        rintro e w8 ⟨⟨y8, m8, d8, hc8, rfl⟩, ho8⟩
        obtain ⟨rfl, rfl, rfl⟩ := C7.out.uniq hc8
        have B8 := Lib.hid (ho8.got B7.out (by simp)); have O8 := Lib.hid (O7.out.nil_trans ho8); have N8 := Lib.hid (ho8.got N7.out (by simp)); have P8 := Lib.hid (ho8.got P7.out (by simp))
        clear ho8 hc8 q0 lq
        unfold civV
        go_upto_region 11 with (fail)
        refine alloc_abs (G := fun w0 => Code.wp _ _ _ _ w0) ?_
        intro w10 hb10 ho10 hs10
        have B10 := Lib.hid (ho10.got B8.out (by simp)); have O10 := Lib.hid (O8.out.nil_trans ho10); have N10 := Lib.hid (ho10.got N8.out (by simp)); have P10 := Lib.hid (ho10.got P8.out (by simp)); have R10 := Lib.hid hb10
        clear hb10 ho10 hs10 B8 O8 N8 P8 B7 O7 N7 P7 B6 O6 N6 B5 O5 N5 B4 O4
        have g0 := cell_got B10.out 0; have g1 := cell_got B10.out 1; have g2 := cell_got B10.out 2; have l0 := got_lt B10.out
        have q1 := cell_got N10.out 1; have lq := got_lt N10.out
        have y0 := cell_got P10.out 0; have y1 := cell_got P10.out 1; have ly := got_lt P10.out
        have r0 := cell_got R10.out 0; have r1 := cell_got R10.out 1; have r2 := cell_got R10.out 2; have lr := got_lt R10.out
        go_wp2_with fail
        refine wp_region_grown [0, 1, 2, 3, 4, 5, 6, 7, 8, 9, 10, 11, 12, 13, 14, 15, 16, 17, 18, 19] [] (by kernel_rfl) (by kernel_rfl) ?_
        simp only [pick, List.map_cons, List.map_nil, List.getD_cons_succ, List.getD_cons_zero]
        iterate 4 (refine wpQuiet_step (fun K hK => ?_); go_simp; refine hK _ ?_; clear hK K)
        refine wpQuiet_enter_w (by kernel_rfl) 11 #[.agg #[.int .i64 b, .int .i64 x, .slice p n cap], .int .i64 utc] (fun _ => by kernel_rfl) (.int .i64 of) (grown_only2 fun w' ho' => by have h := kOffset b x utc (HV.out.kept (O10.out.nil_trans ho')) hn (HD.out.kept (O10.out.nil_trans ho')); rw [HOF.out] at h; exact h) ?_
        iterate 12 (refine wpQuiet_step (fun K hK => ?_); go_simp; refine hK _ ?_; clear hK K)
        refine wpQuiet_enter_w (by kernel_rfl) 8 #[] (fun _ => by kernel_rfl) (.bool true) (grown_only2 fun w' ho' => awake_any w' (HE.out.kept (O10.out.nil_trans ho')) (HD.out.kept (O10.out.nil_trans ho'))) ?_
        iterate 2 (refine wpQuiet_step (fun K hK => ?_); go_simp; refine hK _ ?_; clear hK K)
        refine wpQuiet_nil ?_
        intro w9 hw9
        have ho9 := only_of_plus hw9; clear hw9
        go_wp2
        go_ret
        exact ⟨rfl, O10.out.nil_trans ho9⟩
  · rw [decide_eq_false h70]
    clear h70
    go_wp2_with fail
    refine (awake_any w2 (HE.out.kept O2.out) (HD.out.kept O2.out)).mono ?_
    rintro e w3 ⟨rfl, ho3⟩
    go_wp2
    go_ret
    exact ⟨rfl, O2.out.nil_trans ho3⟩

set_option maxRecDepth 100000 in
theorem leapAnnounces_lifted (os : Os) (started : os.Started) (H : Type) (enc : TypeId × Value → H) :
    ReturnsInHanded {} Tryd.checked os 6 .any (fun w args => (Rows.leapAnnouncesSpec.pre enc Tryd.prog Tryd.f6 Rows.leapAnnouncesRow.domain false w args ∧ laidMetH Tryd.prog Rows.leapAnnouncesRow.laid w) ∧ sizedMet enc Tryd.prog Tryd.f6 (OpenSpec.ofChange Rows.leapAnnouncesSpec) false w args)
      (Rows.leapAnnouncesSpec.post enc Tryd.prog Tryd.f6 false true false false) := by
  refine returnsInHanded_of_change_and_shaped (C := Tryd.checked) (X := fun w _ => laidMetH Tryd.prog Rows.leapAnnouncesRow.laid w) (fun _ _ _ hh h => h.of_heap hh) law_own started (by kernel_rfl) Tryd.func6
    (ChangeSpec.witness_shaped (enc := enc) (C := Tryd.checked) (os := os) (X := fun w _ => laidMetH Tryd.prog Rows.leapAnnouncesRow.laid w) false (World.laidAll Tryd.prog os Rows.leapAnnouncesRow.laid) #[.agg #[.int .i64 0, .int .i64 0, .slice none 0 0], .int .i64 0] 8 (World.laidAll_os _ _ _)
      (World.shaped_of_ZipB (by kernel_rfl) (by kernel_rfl)) (by kernel_rfl) (by kernel_rfl) (by kernel_rfl)
      (by rw [MakeChecks.laidMetH_plain _ _ _ (by kernel_rfl)]; exact laidMet_laidAll _ (by kernel_rfl) (by kernel_rfl))) ?_
  intro W base args ds gs before hval0 hW hcnd _ hL hsh _
  have hval : ∀ (j : Nat) t v, Tryd.f6.params[j]? = some t → args[j]? = some v → Value.okWide Tryd.prog W .any base t v := hval0
  have hW' := hW
  obtain ⟨p, q, hA0, hV, rfl, hfz, hnd⟩ := hW
  have hA : DataW.TrodAll enc Tryd.prog W 0 (fun _ => true) true Tryd.f6.params.toList args.toList ds p := hA0
  rw [Tryd.params6] at hA hval
  obtain ⟨v0, vs0, d0, ds0, p0, q0, hargs, rfl, rfl, h0, r0⟩ := trodAll_cons hA
  obtain ⟨v1, vs1, d1, ds1, p1, q1, rfl, rfl, rfl, h1, r1⟩ := trodAll_cons r0
  obtain ⟨rfl, rfl, rfl⟩ := trodAll_nil r1
  obtain rfl : args = #[v0, v1] := by cases args; simp_all
  obtain ⟨rfl, rfl⟩ := trodVars_none hV
  have k0 := h0
  have lt0 : ∀ x ∈ p0, x.block < W.heap.size := by obtain ⟨m, hm⟩ := k0; exact DataW.trod_lt m _ _ _ hm
  obtain ⟨c00, c01, c02, y00, y01, y02, m0, rfl, _, _, hy00, hy01, hy02⟩ := Joins.open_agg3 Tryd.underlying24 (by kernel_rfl) (by kernel_rfl) (hval 0 24 v0 rfl rfl) h0
  obtain ⟨b0, eb0, _, wb0⟩ := DataW.trod_int Tryd.underlying3 hy00
  obtain ⟨x0, ex0, _, wx0⟩ := DataW.trod_int Tryd.underlying3 hy01
  simp at eb0 ex0
  subst eb0 ex0
  obtain ⟨p0', n0, cap0, ec02⟩ := Joins.slice_form Tryd.underlying22 hy02
  simp at ec02
  subst ec02
  obtain ⟨z0, w0⟩ := vrow_les (p := p0') (n := n0) (cap := cap0) ⟨m0, hy02⟩
  obtain ⟨a1, rfl, rfl, rfl, w1⟩ := open_int Tryd.underlying3 (hval 1 3 v1 rfl rfl) h1
  clear hA0 hval0
  refine (announces_walk b0 x0 a1 w0 (env_of_laid (by kernel_rfl) (by simp [Rows.leapAnnouncesRow]) (by simp [Rows.leapAnnouncesRow]) (by simp [Rows.leapAnnouncesRow]) hL hsh) (mdy_of_laid (by kernel_rfl) (by simp [Rows.leapAnnouncesRow]) hL)).mono fun e W' ⟨he, ho⟩ => ?_
  subst he
  have bel : Below W.heap.size W W' := ho.nil_below
  exact ⟨_, rfl, _, _, _, [], _, [], hW', trodAll_mk1 (shut_bool Tryd.underlying4 _), (trodAll_cons_mk (Below.trod law_laidOut (by kernel_rfl) (of_decide_eq_true (by kernel_rfl)) k0 bel lt0) (trodAll_cons_mk (shut_int Tryd.underlying3 w1) trodAll_mk0)), rfl, bel.frame _, fun h => by cases h⟩

theorem leapAnnounces_over : Rows.leapAnnouncesRow.holds Tryd.pinned (OpenSpec.ofChange Rows.leapAnnouncesSpec) :=
  OpenClaim.holds_of_wide 6 Tryd.f6 rfl rfl rfl rfl rfl rfl rfl ⟨rfl, rfl, rfl, rfl, rfl⟩ rfl rfl rfl rfl rfl (by kernel_rfl) Tryd.func6 (by kernel_rfl)
    (of_decide_eq_true (by kernel_rfl)) (by unfold Func.isWrapper; first | (rw [if_pos (by decide +kernel)]; kernel_rfl) | (rw [if_neg (by decide +kernel)]; exact ⟨rfl, rfl⟩))
    (fun os started H enc _ => leapAnnounces_lifted os started H enc)

theorem leapAnnounces_holds : Rows.LeapAnnouncesCardSaid :=
  Claim7.holds_tied_plain_at .later [] [.data, .data, .data, .data, .sentinel, .sentinel, .data, .pinned] true (true, "5732520129394a119826d989098d2e7a7d6df8f14fb532af2e1e32a7a3b67be6") true leapAnnounces_over (fun _ h => by cases h) (by kernel_rfl) (fun _ h => by cases h) leapAnnounces_row_tie rfl ⟨rfl, rfl⟩ (by kernel_rfl) rfl
    (fun f fn hf hfn => by
      obtain rfl : f = 6 := Option.some.inj ((show Tryd.prog.funcNamed "timesync/timesynclaw06.LeapAnnounces" = some 6 by kernel_rfl).symm.trans hf) |>.symm
      obtain rfl : fn = Tryd.f6 := (Option.some.inj (Tryd.func6.symm.trans hfn)).symm
      exact ⟨by kernel_rfl, fun j t ht => by
        rw [Tryd.params6] at ht
        have hm : t ∈ [24, 3] := by simpa using Array.mem_of_getElem? ht
        have hall : ([24, 3].all fun u => !Tryd.prog.wantsStandIn u) = true := by kernel_rfl
        exact (show Tryd.prog.wantsStandIn t = false by simpa using List.all_eq_true.1 hall t hm)⟩)
    (by kernel_rfl)
end Go.Proofs.YtnfejojakikeeaaDoor
