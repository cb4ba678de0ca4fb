/- LeapLabels: TAI and UTC of package leap return what the reference returns, for every table and every label. Conditions: those of the given row. -/
import Derived.Test.YtnfejojakikeeaaGreatDoorKs
import Derived.Test.YtnfejojakikeeaaGreatDoorQ8
namespace Go.Proofs.YtnfejojakikeeaaGreatDoor
open Go.ChangeShapes Go.WideShapes Go.ChangeAt Go.RowKit

set_option maxRecDepth 100000 in
set_option maxHeartbeats 6000000 in
theorem labels_walk {w : World} {p : Option Addr} {n cap : Nat} {es : List Le} (b x utc tai : Int) (ex : Bool) (t0 : -9223372036854775808 ≤ tai) (t1 : tai ≤ 9223372036854775807) (hv : VRow leC 2 w p n cap es) (he : Env w) (hd : Mdy w) :
    Calls Tryz.prog 4 #[.agg #[.int .i64 b, .int .i64 x, .slice p n cap], .agg #[.int .i64 utc, .bool ex, .int .i64 tai]] w fun e w' => e = .returned (.bool true) ∧ Only [] w w' := by
  have HV := Lib.hid hv; have HE := Lib.hid he; have HD := Lib.hid hd; have HN := Lib.hid (vrow_n hv)
  clear he hd
  go_enter Tryz.func4, Tryz.ntmps4
  go_upto_region 1 with (fail)
  refine alloc_abs (G := fun w0 => Code.wp _ _ _ _ (w0.alloc _)) ?_
  intro w0 hb0 ho0 hs0
  rw [← hs0]
  clear hs0
  refine alloc_abs (G := fun w0 => Code.wp _ _ _ _ w0) ?_
  intro w1 hb1 ho1 hs1
  have B1 := Lib.hid (ho1.got hb0 (by simp)); have C1 := Lib.hid hb1; have O1 := Lib.hid (ho0.nil_trans ho1)
  clear hb0 ho0 hb1 ho1 hs1
  have g0 := cell_got B1.out 0; have g1 := cell_got B1.out 1; have g2 := cell_got B1.out 2; have l0 := got_lt B1.out
  have k0 := cell_got C1.out 0; have k1 := cell_got C1.out 1; have k2 := cell_got C1.out 2; have lk := got_lt C1.out
  go_wp2_with fail
  refine (ksmall b x p n cap HN.out).mono ?_
  rintro e w2 ⟨rfl, ho2⟩
  have B2 := Lib.hid (ho2.got B1.out (by simp)); have O2 := Lib.hid (O1.out.nil_trans ho2); have C2 := Lib.hid (ho2.got C1.out (by simp))
  clear ho2 g0 g1 g2 l0 k0 k1 k2 lk
  have g0 := cell_got B2.out 0; have g1 := cell_got B2.out 1; have g2 := cell_got B2.out 2; have l0 := got_lt B2.out
  have k0 := cell_got C2.out 0; have k1 := cell_got C2.out 1; have k2 := cell_got C2.out 2; have lk := got_lt C2.out
  by_cases h70 : n ≤ 70
  · rw [decide_eq_true h70]
    have hn : n ≤ 100000 := by omega
    clear h70
    have hk := fun w' (ho : Only [] w w') => kTAI b x utc ex (HV.out.kept ho) hn (HD.out.kept ho)
    have hr := fun w' (ho : Only [] w w') => rTAI b x utc ex (HV.out.kept ho) hn
    have hu := fun w' (ho : Only [] w w') => kUTC b x tai t0 t1 (HV.out.kept ho) hn (HD.out.kept ho)
    have hs := fun w' (ho : Only [] w w') => rUTC b x tai (HV.out.kept ho) hn
    generalize taiR b x es utc ex = r at hk hr
    generalize utcR b x es tai = s at hu hs
    obtain ⟨r1, r2⟩ := r
    obtain ⟨s1, s2, s3⟩ := s
    simp only at hk hr hu hs
    have HK := Lib.hid hk; have HRR := Lib.hid hr; have HU := Lib.hid hu; have HS := Lib.hid hs
    clear hk hr hu hs
    go_wp2_with fail
    refine (HK.out w2 O2.out).mono ?_
    rintro e w3 ⟨rfl, ho3⟩
    have B3 := Lib.hid (ho3.got B2.out (by simp)); have O3 := Lib.hid (O2.out.nil_trans ho3); have C3 := Lib.hid (ho3.got C2.out (by simp))
    clear ho3 g0 g1 g2 l0 k0 k1 k2 lk
    have g0 := cell_got B3.out 0; have g1 := cell_got B3.out 1; have g2 := cell_got B3.out 2; have l0 := got_lt B3.out
    have k0 := cell_got C3.out 0; have k1 := cell_got C3.out 1; have k2 := cell_got C3.out 2; have lk := got_lt C3.out
    go_wp2_with fail
    refine (HRR.out w3 O3.out).mono ?_
    rintro e w4 ⟨rfl, ho4⟩
    have B4 := Lib.hid (ho4.got B3.out (by simp)); have O4 := Lib.hid (O3.out.nil_trans ho4); have C4 := Lib.hid (ho4.got C3.out (by simp))
    clear ho4 g0 g1 g2 l0 k0 k1 k2 lk
    have g0 := cell_got B4.out 0; have g1 := cell_got B4.out 1; have g2 := cell_got B4.out 2; have l0 := got_lt B4.out
    have k0 := cell_got C4.out 0; have k1 := cell_got C4.out 1; have k2 := cell_got C4.out 2; have lk := got_lt C4.out
    go_wp2_with fail
    refine (HU.out w4 O4.out).mono ?_
    rintro e w5 ⟨rfl, ho5⟩
    have B5 := Lib.hid (ho5.got B4.out (by simp)); have O5 := Lib.hid (O4.out.nil_trans ho5); have C5 := Lib.hid (ho5.got C4.out (by simp))
    clear ho5 g0 g1 g2 l0 k0 k1 k2 lk
    have g0 := cell_got B5.out 0; have g1 := cell_got B5.out 1; have g2 := cell_got B5.out 2; have l0 := got_lt B5.out
    have k0 := cell_got C5.out 0; have k1 := cell_got C5.out 1; have k2 := cell_got C5.out 2; have lk := got_lt C5.out
    go_wp2_with fail
    refine (HS.out w5 O5.out).mono ?_
    rintro e w6 ⟨rfl, ho6⟩
    have B6 := Lib.hid (ho6.got B5.out (by simp)); have O6 := Lib.hid (O5.out.nil_trans ho6); have C6 := Lib.hid (ho6.got C5.out (by simp))
    clear ho6 g0 g1 g2 l0 k0 k1 k2 lk
    have g0 := cell_got B6.out 0; have g1 := cell_got B6.out 1; have g2 := cell_got B6.out 2; have l0 := got_lt B6.out
    have k0 := cell_got C6.out 0; have k1 := cell_got C6.out 1; have k2 := cell_got C6.out 2; have lk := got_lt C6.out
    go_wp2_with fail
    refine (awake_any w6 (HE.out.kept O6.out) (HD.out.kept O6.out)).mono ?_
    rintro e w7 ⟨rfl, ho7⟩
    go_wp2
    go_ret
    exact ⟨rfl, O6.out.nil_trans ho7⟩
  · rw [decide_eq_false h70]
    clear h70
    go_wp2_with fail
    refine (awake_any w2 (HE.out.kept O2.out) (HD.out.kept O2.out)).mono ?_
    rintro e w3 ⟨rfl, ho3⟩
    go_wp2
    go_ret
    exact ⟨rfl, O2.out.nil_trans ho3⟩

set_option maxRecDepth 100000 in
theorem leapLabels_lifted (os : Os) (started : os.Started) (H : Type) (enc : TypeId × Value → H) :
    ReturnsInHanded {} Tryz.checked os 4 .any (fun w args => (Rows.leapLabelsSpec.pre enc Tryz.prog Tryz.f4 Rows.leapLabelsRow.domain false w args ∧ laidMetH Tryz.prog Rows.leapLabelsRow.laid w) ∧ sizedMet enc Tryz.prog Tryz.f4 (OpenSpec.ofChange Rows.leapLabelsSpec) false w args)
      (Rows.leapLabelsSpec.post enc Tryz.prog Tryz.f4 false true false false) := by
  refine returnsInHanded_of_change_and_shaped (C := Tryz.checked) (X := fun w _ => laidMetH Tryz.prog Rows.leapLabelsRow.laid w) (fun _ _ _ hh h => h.of_heap hh) law_own started (by kernel_rfl) Tryz.func4
    (ChangeSpec.witness_shaped (enc := enc) (C := Tryz.checked) (os := os) (X := fun w _ => laidMetH Tryz.prog Rows.leapLabelsRow.laid w) false (World.laidAll Tryz.prog os Rows.leapLabelsRow.laid) #[.agg #[.int .i64 0, .int .i64 0, .slice none 0 0], .agg #[.int .i64 0, .bool false, .int .i64 0]] 8 (World.laidAll_os _ _ _)
      (World.shaped_of_ZipB (by kernel_rfl) (by kernel_rfl)) (by kernel_rfl) (by kernel_rfl) (by kernel_rfl)
      (by rw [MakeChecks.laidMetH_plain _ _ _ (by kernel_rfl)]; exact laidMet_laidAll _ (by kernel_rfl) (by kernel_rfl))) ?_
  intro W base args ds gs before hval0 hW hcnd _ hL hsh _
  have hval : ∀ (j : Nat) t v, Tryz.f4.params[j]? = some t → args[j]? = some v → Value.okWide Tryz.prog W .any base t v := hval0
  have hW' := hW
  obtain ⟨p, q, hA0, hV, rfl, hfz, hnd⟩ := hW
  have hA : DataW.TrodAll enc Tryz.prog W 0 (fun _ => true) true Tryz.f4.params.toList args.toList ds p := hA0
  rw [Tryz.params4] at hA hval
  obtain ⟨v0, vs0, d0, ds0, p0, q0, hargs, rfl, rfl, h0, r0⟩ := trodAll_cons hA
  obtain ⟨v1, vs1, d1, ds1, p1, q1, rfl, rfl, rfl, h1, r1⟩ := trodAll_cons r0
  obtain ⟨rfl, rfl, rfl⟩ := trodAll_nil r1
  obtain rfl : args = #[v0, v1] := by cases args; simp_all
  obtain ⟨rfl, rfl⟩ := trodVars_none hV
  have k0 := h0
  have lt0 : ∀ x ∈ p0, x.block < W.heap.size := by obtain ⟨m, hm⟩ := k0; exact DataW.trod_lt m _ _ _ hm
  obtain ⟨c00, c01, c02, y00, y01, y02, m0, rfl, _, _, hy00, hy01, hy02⟩ := Joins.open_agg3 Tryz.underlying24 (by kernel_rfl) (by kernel_rfl) (hval 0 24 v0 rfl rfl) h0
  obtain ⟨b0, eb0, _, wb0⟩ := DataW.trod_int Tryz.underlying3 hy00
  obtain ⟨x0, ex0, _, wx0⟩ := DataW.trod_int Tryz.underlying3 hy01
  simp at eb0 ex0
  subst eb0 ex0
  obtain ⟨p0', n0, cap0, ec02⟩ := Joins.slice_form Tryz.underlying22 hy02
  simp at ec02
  subst ec02
  obtain ⟨z0, w0⟩ := vrow_les (p := p0') (n := n0) (cap := cap0) ⟨m0, hy02⟩
  have k1 := h1
  have lt1 : ∀ x ∈ p1, x.block < W.heap.size := by obtain ⟨m, hm⟩ := k1; exact DataW.trod_lt m _ _ _ hm
  obtain ⟨c10, c11, c12, y10, y11, y12, m1, rfl, _, _, hy10, hy11, hy12⟩ := Joins.open_agg3 Tryz.underlying30 (by kernel_rfl) (by kernel_rfl) (hval 1 30 v1 rfl rfl) h1
  obtain ⟨u1, eu1, _, wu1⟩ := DataW.trod_int Tryz.underlying3 hy10
  obtain ⟨e1, ee1, _⟩ := DataW.trod_bool Tryz.underlying4 hy11
  obtain ⟨t1, et1, _, wt1⟩ := DataW.trod_int Tryz.underlying3 hy12
  simp at eu1 ee1 et1
  subst eu1 ee1 et1
  clear hA0 hval0
  refine (labels_walk b0 x0 u1 t1 e1 (i64_of_wf wt1).1 (i64_of_wf wt1).2 w0 (env_of_laid (by kernel_rfl) (by simp [Rows.leapLabelsRow]) (by simp [Rows.leapLabelsRow]) (by simp [Rows.leapLabelsRow]) hL hsh) (mdy_of_laid (by kernel_rfl) (by simp [Rows.leapLabelsRow]) hL)).mono fun e W' ⟨he, ho⟩ => ?_
  subst he
  have bel : Below W.heap.size W W' := ho.nil_below
  exact ⟨_, rfl, _, _, _, [], _, [], hW', trodAll_mk1 (shut_bool Tryz.underlying4 _), (trodAll_cons_mk (Below.trod law_laidOut (by kernel_rfl) (of_decide_eq_true (by kernel_rfl)) k0 bel lt0) (trodAll_cons_mk (Below.trod law_laidOut (by kernel_rfl) (of_decide_eq_true (by kernel_rfl)) k1 bel lt1) trodAll_mk0)), rfl, bel.frame _, fun h => by cases h⟩

theorem leapLabels_over : Rows.leapLabelsRow.holds Tryz.pinned (OpenSpec.ofChange Rows.leapLabelsSpec) :=
  OpenClaim.holds_of_wide 4 Tryz.f4 rfl rfl rfl rfl rfl rfl rfl ⟨rfl, rfl, rfl, rfl, rfl⟩ rfl rfl rfl rfl rfl (by kernel_rfl) Tryz.func4 (by kernel_rfl)
    (of_decide_eq_true (by kernel_rfl)) (by unfold Func.isWrapper; first | (rw [if_pos (by decide +kernel)]; kernel_rfl) | (rw [if_neg (by decide +kernel)]; exact ⟨rfl, rfl⟩))
    (fun os started H enc _ => leapLabels_lifted os started H enc)

theorem leapLabels_holds : Rows.LeapLabelsCardSaid :=
  Claim7.holds_tied_plain_at .later [] [.data, .data, .data, .data, .sentinel, .sentinel, .data, .pinned] true (true, "cf5c5fa06630b029b966643b2199c4952a7eada3c074a63ed6b225beb18c6122") true leapLabels_over (fun _ h => by cases h) (by kernel_rfl) (fun _ h => by cases h) leapLabels_row_tie rfl ⟨rfl, rfl⟩ (by kernel_rfl) rfl
    (fun f fn hf hfn => by
      obtain rfl : f = 4 := Option.some.inj ((show Tryz.prog.funcNamed "timesync/timesynclaw06.LeapLabels" = some 4 by kernel_rfl).symm.trans hf) |>.symm
      obtain rfl : fn = Tryz.f4 := (Option.some.inj (Tryz.func4.symm.trans hfn)).symm
      exact ⟨by kernel_rfl, fun j t ht => by
        rw [Tryz.params4] at ht
        have hm : t ∈ [24, 30] := by simpa using Array.mem_of_getElem? ht
        have hall : ([24, 30].all fun u => !Tryz.prog.wantsStandIn u) = true := by kernel_rfl
        exact (show Tryz.prog.wantsStandIn t = false by simpa using List.all_eq_true.1 hall t hm)⟩)
    (by kernel_rfl)
end Go.Proofs.YtnfejojakikeeaaGreatDoor
