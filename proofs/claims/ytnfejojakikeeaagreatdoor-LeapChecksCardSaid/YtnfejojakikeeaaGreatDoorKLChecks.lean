/- LeapChecks: Check of package leap returns what the reference returns, for every table. Conditions: those of the given row. -/
import Derived.Test.YtnfejojakikeeaaGreatDoorKs
import Derived.Test.YtnfejojakikeeaaGreatDoorQ6
namespace Go.Proofs.YtnfejojakikeeaaGreatDoor
open Go.ChangeShapes Go.WideShapes Go.ChangeAt Go.RowKit

set_option maxRecDepth 100000 in
set_option maxHeartbeats 6000000 in
theorem checks_walk {w : World} {p : Option Addr} {n cap : Nat} {es : List Le} (b x : Int) (hv : VRow leC 2 w p n cap es) (he : Env w) (hd : Mdy w) :
    Calls Tryz.prog 3 #[.agg #[.int .i64 b, .int .i64 x, .slice p n cap]] w fun e w' => e = .returned (.bool true) ∧ Only [] w w' := by
  have HV := Lib.hid hv; have HE := Lib.hid he; have HD := Lib.hid hd; have HN := Lib.hid (vrow_n hv)
  clear he hd
  go_enter Tryz.func3, Tryz.ntmps3
  go_upto_region 1 with (fail)
  refine alloc_abs (G := fun w0 => Code.wp _ _ _ _ w0) ?_
  intro w1 hb1 ho1 hs1
  have B1 := Lib.hid hb1; have O1 := Lib.hid ho1
  clear hb1 ho1 hs1
  have g0 := cell_got B1.out 0; have g1 := cell_got B1.out 1; have g2 := cell_got B1.out 2; have l0 := got_lt B1.out
  go_wp2_with fail
  refine (ksmall b x p n cap HN.out).mono ?_
  rintro e w2 ⟨rfl, ho2⟩
  have B2 := Lib.hid (ho2.got B1.out (by simp)); have O2 := Lib.hid (O1.out.nil_trans ho2)
  clear ho2 g0 g1 g2 l0
  have g0 := cell_got B2.out 0; have g1 := cell_got B2.out 1; have g2 := cell_got B2.out 2; have l0 := got_lt B2.out
  by_cases h70 : n ≤ 70
  · rw [decide_eq_true h70]
    have hn : n ≤ 100000 := by omega
    clear h70
    have hk := fun w' (ho : Only [] w w') => kcheck b x (HV.out.kept ho) hn (HD.out.kept ho)
    have hr := fun w' (ho : Only [] w w') => rCheck b x (HV.out.kept ho) hn
    generalize chkT b x es = c at hk hr
    have HK := Lib.hid hk; have HRR := Lib.hid hr
    clear hk hr
    go_wp2_with fail
    refine wp_region_grown [0, 1, 2, 3, 4, 5, 6, 7, 8] [] (by kernel_rfl) (by kernel_rfl) ?_
    simp only [pick, List.map_cons, List.map_nil, List.getD_cons_succ, List.getD_cons_zero]
    iterate 1 (refine wpQuiet_step (fun K hK => ?_); go_simp; refine hK _ ?_; clear hK K)
    refine wpQuiet_enter_w (by kernel_rfl) 8 #[.agg #[.int .i64 b, .int .i64 x, .slice p n cap]] (fun _ => by kernel_rfl) (.int .i64 c) (grown_only2 fun w' ho' => HK.out w' (O2.out.nil_trans ho')) ?_
    iterate 1 (refine wpQuiet_step (fun K hK => ?_); go_simp; refine hK _ ?_; clear hK K)
    refine wpQuiet_enter_w (by kernel_rfl) 9 #[.agg #[.int .i64 b, .int .i64 x, .slice p n cap]] (fun _ => by kernel_rfl) (.int .i64 c) (grown_only2 fun w' ho' => HRR.out w' (O2.out.nil_trans ho')) ?_
    iterate 1 (refine wpQuiet_step (fun K hK => ?_); go_simp; refine hK _ ?_; clear hK K)
    repeat (go_big_quiet_step (fail))
    refine wpQuiet_enter_w (by kernel_rfl) 7 #[] (fun _ => by kernel_rfl) (.bool true) (grown_only2 fun w' ho' => awake_any w' (HE.out.kept (O2.out.nil_trans ho')) (HD.out.kept (O2.out.nil_trans ho'))) ?_
    iterate 1 (refine wpQuiet_step (fun K hK => ?_); go_simp; refine hK _ ?_; clear hK K)
    repeat (go_big_quiet_step (fail))
    refine wpQuiet_nil ?_
    intro w9 hw9
    have ho9 := only_of_plus hw9; clear hw9
    go_wp2
    go_ret
    exact ⟨rfl, O2.out.nil_trans ho9⟩
  · rw [decide_eq_false h70]
    clear h70
    go_wp2_with fail
    refine (awake_any w2 (HE.out.kept O2.out) (HD.out.kept O2.out)).mono ?_
    rintro e w3 ⟨rfl, ho3⟩
    go_wp2
    go_ret
    exact ⟨rfl, O2.out.nil_trans ho3⟩

set_option maxRecDepth 100000 in
theorem leapChecks_lifted (os : Os) (started : os.Started) (H : Type) (enc : TypeId × Value → H) :
    ReturnsInHanded {} Tryz.checked os 3 .any (fun w args => (Rows.leapChecksSpec.pre enc Tryz.prog Tryz.f3 Rows.leapChecksRow.domain false w args ∧ laidMetH Tryz.prog Rows.leapChecksRow.laid w) ∧ sizedMet enc Tryz.prog Tryz.f3 (OpenSpec.ofChange Rows.leapChecksSpec) false w args)
      (Rows.leapChecksSpec.post enc Tryz.prog Tryz.f3 false true false false) := by
  refine returnsInHanded_of_change_and_shaped (C := Tryz.checked) (X := fun w _ => laidMetH Tryz.prog Rows.leapChecksRow.laid w) (fun _ _ _ hh h => h.of_heap hh) law_own started (by kernel_rfl) Tryz.func3
    (ChangeSpec.witness_shaped (enc := enc) (C := Tryz.checked) (os := os) (X := fun w _ => laidMetH Tryz.prog Rows.leapChecksRow.laid w) false (World.laidAll Tryz.prog os Rows.leapChecksRow.laid) #[.agg #[.int .i64 0, .int .i64 0, .slice none 0 0]] 8 (World.laidAll_os _ _ _)
      (World.shaped_of_ZipB (by kernel_rfl) (by kernel_rfl)) (by kernel_rfl) (by kernel_rfl) (by kernel_rfl)
      (by rw [MakeChecks.laidMetH_plain _ _ _ (by kernel_rfl)]; exact laidMet_laidAll _ (by kernel_rfl) (by kernel_rfl))) ?_
  intro W base args ds gs before hval0 hW hcnd _ hL hsh _
  have hval : ∀ (j : Nat) t v, Tryz.f3.params[j]? = some t → args[j]? = some v → Value.okWide Tryz.prog W .any base t v := hval0
  have hW' := hW
  obtain ⟨p, q, hA0, hV, rfl, hfz, hnd⟩ := hW
  have hA : DataW.TrodAll enc Tryz.prog W 0 (fun _ => true) true Tryz.f3.params.toList args.toList ds p := hA0
  rw [Tryz.params3] at hA hval
  obtain ⟨v0, vs0, d0, ds0, p0, q0, hargs, rfl, rfl, h0, r0⟩ := trodAll_cons hA
  obtain ⟨rfl, rfl, rfl⟩ := trodAll_nil r0
  obtain rfl : args = #[v0] := by cases args; simp_all
  obtain ⟨rfl, rfl⟩ := trodVars_none hV
  have k0 := h0
  have lt0 : ∀ x ∈ p0, x.block < W.heap.size := by obtain ⟨m, hm⟩ := k0; exact DataW.trod_lt m _ _ _ hm
  obtain ⟨c00, c01, c02, y00, y01, y02, m0, rfl, _, _, hy00, hy01, hy02⟩ := Joins.open_agg3 Tryz.underlying24 (by kernel_rfl) (by kernel_rfl) (hval 0 24 v0 rfl rfl) h0
  obtain ⟨b0, eb0, _, wb0⟩ := DataW.trod_int Tryz.underlying3 hy00
  obtain ⟨x0, ex0, _, wx0⟩ := DataW.trod_int Tryz.underlying3 hy01
  simp at eb0 ex0
  subst eb0 ex0
  obtain ⟨p0', n0, cap0, ec02⟩ := Joins.slice_form Tryz.underlying22 hy02
  simp at ec02
  subst ec02
  obtain ⟨z0, w0⟩ := vrow_les (p := p0') (n := n0) (cap := cap0) ⟨m0, hy02⟩
  clear hA0 hval0
  refine (checks_walk b0 x0 w0 (env_of_laid (by kernel_rfl) (by simp [Rows.leapChecksRow]) (by simp [Rows.leapChecksRow]) (by simp [Rows.leapChecksRow]) hL hsh) (mdy_of_laid (by kernel_rfl) (by simp [Rows.leapChecksRow]) hL)).mono fun e W' ⟨he, ho⟩ => ?_
  subst he
  have bel : Below W.heap.size W W' := ho.nil_below
  exact ⟨_, rfl, _, _, _, [], _, [], hW', trodAll_mk1 (shut_bool Tryz.underlying4 _), (trodAll_cons_mk (Below.trod law_laidOut (by kernel_rfl) (of_decide_eq_true (by kernel_rfl)) k0 bel lt0) trodAll_mk0), rfl, bel.frame _, fun h => by cases h⟩

theorem leapChecks_over : Rows.leapChecksRow.holds Tryz.pinned (OpenSpec.ofChange Rows.leapChecksSpec) :=
  OpenClaim.holds_of_wide 3 Tryz.f3 rfl rfl rfl rfl rfl rfl rfl ⟨rfl, rfl, rfl, rfl, rfl⟩ rfl rfl rfl rfl rfl (by kernel_rfl) Tryz.func3 (by kernel_rfl)
    (of_decide_eq_true (by kernel_rfl)) (by unfold Func.isWrapper; first | (rw [if_pos (by decide +kernel)]; kernel_rfl) | (rw [if_neg (by decide +kernel)]; exact ⟨rfl, rfl⟩))
    (fun os started H enc _ => leapChecks_lifted os started H enc)

theorem leapChecks_holds : Rows.LeapChecksCardSaid :=
  Claim7.holds_tied_plain_at .later [] [.data, .data, .data, .data, .sentinel, .sentinel, .data, .pinned] true (true, "cf5c5fa06630b029b966643b2199c4952a7eada3c074a63ed6b225beb18c6122") true leapChecks_over (fun _ h => by cases h) (by kernel_rfl) (fun _ h => by cases h) leapChecks_row_tie rfl ⟨rfl, rfl⟩ (by kernel_rfl) rfl
    (fun f fn hf hfn => by
      obtain rfl : f = 3 := Option.some.inj ((show Tryz.prog.funcNamed "timesync/timesynclaw06.LeapChecks" = some 3 by kernel_rfl).symm.trans hf) |>.symm
      obtain rfl : fn = Tryz.f3 := (Option.some.inj (Tryz.func3.symm.trans hfn)).symm
      exact ⟨by kernel_rfl, fun j t ht => by
        rw [Tryz.params3] at ht
        have hm : t ∈ [24] := by simpa using Array.mem_of_getElem? ht
        have hall : ([24].all fun u => !Tryz.prog.wantsStandIn u) = true := by kernel_rfl
        exact (show Tryz.prog.wantsStandIn t = false by simpa using List.all_eq_true.1 hall t hm)⟩)
    (by kernel_rfl)
end Go.Proofs.YtnfejojakikeeaaGreatDoor
