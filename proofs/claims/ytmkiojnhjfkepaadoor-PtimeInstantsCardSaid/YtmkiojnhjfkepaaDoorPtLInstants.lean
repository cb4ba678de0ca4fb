/- PtimeInstants: Check, Of and Time return what they must: the law returns true for every input. Condition: none but the tied tables of the library. -/
import Derived.Test.YtmkiojnhjfkepaaDoorPy
namespace Go.Proofs.YtmkiojnhjfkepaaDoor
open Go.ChangeShapes Go.WideShapes Go.ChangeAt Go.RowKit Go.Joins

set_option maxRecDepth 100000 in
set_option maxHeartbeats 2000000 in
theorem instants_walk (s n t : Int) (wt : (Lit.int .i64 t).wf = true) (w : World) (ht : Tab w) :
    Calls Tryd.prog 3 #[.agg #[.int .i64 s, .int .i64 n], .int .i64 t] w fun e w' => e = .returned (.bool true) ∧ Only [] w w' := by
  have HT := Lib.hid ht
  obtain ⟨E, hE⟩ := check_pair s n
  obtain ⟨T, F, hT⟩ := time_pair s n
  obtain ⟨S, M, G, hO⟩ := of_pair t (i64_of_wf wt).2
  have HE := Lib.hid hE; have HTm := Lib.hid hT; have HO := Lib.hid hO
  clear ht wt hE hT hO
  go_enter Tryd.func3, Tryd.ntmps3
  go_wp2_with fail
  refine alloc_abs (G := fun w0 => Calls _ _ _ w0 _) ?_
  intro w1 hb1 ho1 hs1
  have B1 := Lib.hid hb1; have O1 := Lib.hid ho1
  clear hb1 hs1 ho1
  refine (HTm.out.one w1).mono ?_
  rintro e w2 ⟨rfl, ho2⟩
  have B2 := Lib.hid (ho2.got B1.out (by simp)); have O2 := Lib.hid (O1.out.nil_trans ho2)
  clear B1 O1 ho2
  have g0 := cell_got B2.out 0; have g1 := cell_got B2.out 1
  go_wp2_with fail
  refine (HTm.out.two w2).mono ?_
  rintro e w3 ⟨rfl, ho3⟩
  have B3 := Lib.hid (ho3.got B2.out (by simp)); have O3 := Lib.hid (O2.out.nil_trans ho3)
  clear B2 O2 ho3 g0 g1
  go_wp2_with fail
  refine (HO.out.one w3).mono ?_
  rintro e w4 ⟨rfl, ho4⟩
  have B4 := Lib.hid (ho4.got B3.out (by simp)); have O4 := Lib.hid (O3.out.nil_trans ho4)
  clear B3 O3 ho4
  go_wp2_with fail
  refine alloc_abs (G := fun w0 => Calls _ _ _ w0 _) ?_
  intro w5 hb5 ho5 hs5
  have B5 := Lib.hid (ho5.got B4.out (by simp)); have O5 := Lib.hid (O4.out.nil_trans ho5); have C5 := Lib.hid hb5
  clear B4 O4 ho5 hb5 hs5
  refine (HO.out.two w5).mono ?_
  rintro e w6 ⟨rfl, ho6⟩
  have B6 := Lib.hid (ho6.got B5.out (by simp)); have O6 := Lib.hid (O5.out.nil_trans ho6); have C6 := Lib.hid (ho6.got C5.out (by simp))
  clear B5 O5 C5 ho6
  go_wp2_with fail
  refine alloc_abs (G := Code.wp _ _ _ _) ?_
  intro w7 hb7 ho7 hs7
  have B7 := Lib.hid (ho7.got B6.out (by simp)); have O7 := Lib.hid (O6.out.nil_trans ho7); have C7 := Lib.hid (ho7.got C6.out (by simp)); have D7 := Lib.hid hb7
  clear B6 O6 C6 ho7 hb7 hs7
  have g0 := cell_got B7.out 0; have g1 := cell_got B7.out 1
  have i0 := cell_got C7.out 0; have i1 := cell_got C7.out 1
  have j0 := cell_got D7.out 0; have j1 := cell_got D7.out 1
  have l0 := got_lt B7.out; have l1 := got_lt C7.out; have l2 := got_lt D7.out
  refine wp_region_grown [0,1,2,3,4,5,6,7,8,9,10,11,12,13,14,15,16,17,18,19,20,21,22,23,24,25,26,27,28] [] (by kernel_rfl) (by kernel_rfl) ?_
  simp only [pick, List.map_cons, List.map_nil, List.getD_cons_succ, List.getD_cons_zero]
  repeat (go_big_quiet_step (fail))
  refine wpQuiet_enter rfl 13 #[.agg #[.int .i64 s, .int .i64 n]] (fun _ => by kernel_rfl) (.int .i64 E) (grown_only fun w' _ => HE.out.one w') ?_
  iterate 1 (refine wpQuiet_step (fun K hK => ?_); go_simp; refine hK _ ?_; clear hK K)
  refine wpQuiet_enter rfl 14 #[.agg #[.int .i64 s, .int .i64 n]] (fun _ => by kernel_rfl) (.int .i64 E) (grown_only fun w' _ => HE.out.two w') ?_
  iterate 1 (refine wpQuiet_step (fun K hK => ?_); go_simp; refine hK _ ?_; clear hK K)
  repeat (go_big_quiet_step (fail))
  refine wpQuiet_enter_w (by kernel_rfl) 15 #[] (fun _ => by kernel_rfl) (.bool true) (grown_only fun w' ho' => awake_any w' (HT.out.kept (O7.out.nil_trans ho'))) ?_
  iterate 2 (refine wpQuiet_step (fun K hK => ?_); go_simp; refine hK _ ?_; clear hK K)
  refine wpQuiet_nil ?_
  intro w8 hw8
  have ho8 := only_of_plus hw8; clear hw8
  go_wp2
  go_ret
  exact ⟨rfl, O7.out.nil_trans ho8⟩

set_option maxRecDepth 100000 in
theorem ptimeInstants_lifted (os : Os) (started : os.Started) (H : Type) (enc : TypeId × Value → H) :
    ReturnsInHanded {} Tryd.checked os 3 .any (fun w args => (Rows.ptimeInstantsSpec.pre enc Tryd.prog Tryd.f3 Rows.ptimeInstantsRow.domain false w args ∧ laidMetH Tryd.prog Rows.ptimeInstantsRow.laid w) ∧ sizedMet enc Tryd.prog Tryd.f3 (OpenSpec.ofChange Rows.ptimeInstantsSpec) false w args)
      (Rows.ptimeInstantsSpec.post enc Tryd.prog Tryd.f3 false true false false) := by
  refine returnsInHanded_of_change_and (C := Tryd.checked) (X := fun w _ => laidMetH Tryd.prog Rows.ptimeInstantsRow.laid w) (fun _ _ _ hh h => h.of_heap hh) law_own started (by kernel_rfl) Tryd.func3
    (ChangeSpec.witness_shaped (enc := enc) (C := Tryd.checked) (os := os) (X := fun w _ => laidMetH Tryd.prog Rows.ptimeInstantsRow.laid w) false (World.laidAll Tryd.prog os Rows.ptimeInstantsRow.laid) #[.agg #[.int .i64 0, .int .i64 0], .int .i64 0] 8 (World.laidAll_os _ _ _)
      (World.shaped_of_ZipB (by kernel_rfl) (by kernel_rfl)) (by kernel_rfl) (by kernel_rfl) (by kernel_rfl)
      (by rw [MakeChecks.laidMetH_plain _ _ _ (by kernel_rfl)]; exact laidMet_laidAll _ (by kernel_rfl) (by kernel_rfl))) ?_
  intro W base args ds gs before hval0 hW hcnd _ hL _
  have hval : ∀ (j : Nat) t v, Tryd.f3.params[j]? = some t → args[j]? = some v → Value.okWide Tryd.prog W .any base t v := hval0
  have hW' := hW
  obtain ⟨p, q, hA0, hV, rfl, hfz, hnd⟩ := hW
  have hA : DataW.TrodAll enc Tryd.prog W 0 (fun _ => true) true Tryd.f3.params.toList args.toList ds p := hA0
  rw [Tryd.params3] at hA hval
  obtain ⟨v0, vs0, d0, ds0, p0, q0, hargs, rfl, rfl, h0, r0⟩ := trodAll_cons hA
  obtain ⟨v1, vs1, d1, ds1, p1, q1, rfl, rfl, rfl, h1, r1⟩ := trodAll_cons r0
  obtain ⟨rfl, rfl, rfl⟩ := trodAll_nil r1
  obtain rfl : args = #[v0, v1] := by cases args; simp_all
  obtain ⟨rfl, rfl⟩ := trodVars_none hV
  have k0 := h0
  have lt0 : ∀ x ∈ p0, x.block < W.heap.size := by obtain ⟨m, hm⟩ := k0; exact DataW.trod_lt m _ _ _ hm
  obtain ⟨c00, c01, y00, y01, m0, rfl, _, _, hy00, hy01⟩ := open_agg2 Tryd.underlying23 (by kernel_rfl) (by kernel_rfl) (hval 0 23 v0 rfl rfl) h0
  obtain ⟨s0, es0, _, ws0⟩ := DataW.trod_int Tryd.underlying3 hy00
  obtain ⟨n0, en0, _, wn0⟩ := DataW.trod_int Tryd.underlying3 hy01
  simp at es0 en0
  subst es0 en0
  obtain ⟨a1, rfl, rfl, rfl, w1⟩ := open_int Tryd.underlying3 (hval 1 3 v1 rfl rfl) h1
  clear hA0 hval0
  refine (instants_walk s0 n0 a1 w1 W (tab_of_laid (by kernel_rfl) (by simp [Rows.ptimeInstantsRow]) hL)).mono fun e W' ⟨he, ho⟩ => ?_
  subst he
  have bel : Below W.heap.size W W' := ho.nil_below
  exact ⟨_, rfl, _, _, _, [], _, [], hW', trodAll_mk1 (shut_bool Tryd.underlying4 _), (trodAll_cons_mk (Below.trod law_laidOut (by kernel_rfl) (of_decide_eq_true (by kernel_rfl)) k0 bel lt0) (trodAll_cons_mk (shut_int Tryd.underlying3 w1) trodAll_mk0)), rfl, bel.frame _, fun h => by cases h⟩

theorem ptimeInstants_over : Rows.ptimeInstantsRow.holds Tryd.pinned (OpenSpec.ofChange Rows.ptimeInstantsSpec) :=
  OpenClaim.holds_of_wide 3 Tryd.f3 rfl rfl rfl rfl rfl rfl rfl ⟨rfl, rfl, rfl, rfl, rfl⟩ rfl rfl rfl rfl rfl (by kernel_rfl) Tryd.func3 (by kernel_rfl)
    (of_decide_eq_true (by kernel_rfl)) (by unfold Func.isWrapper; first | (rw [if_pos (by decide +kernel)]; kernel_rfl) | (rw [if_neg (by decide +kernel)]; exact ⟨rfl, rfl⟩))
    (fun os started H enc _ => ptimeInstants_lifted os started H enc)

theorem ptimeInstants_holds : Rows.PtimeInstantsCardSaid :=
  Claim7.holds_tied_plain_at .later [] [.data, .data, .data] true (true, "4b5ff3d97fc2c89bd570ac74b8b16548d0b48ea7ffe4261ef3568e6d8c6ac2c2") true ptimeInstants_over (fun _ h => by cases h) (by kernel_rfl) (fun _ h => by cases h) ptimeInstants_row_tie rfl ⟨rfl, rfl⟩ (by kernel_rfl) rfl
    (fun f fn hf hfn => by
      obtain rfl : f = 3 := Option.some.inj ((show Tryd.prog.funcNamed "timesync/timesynclaw04.PtimeInstants" = some 3 by kernel_rfl).symm.trans hf) |>.symm
      obtain rfl : fn = Tryd.f3 := (Option.some.inj (Tryd.func3.symm.trans hfn)).symm
      exact ⟨by kernel_rfl, fun j t ht => by
        rw [Tryd.params3] at ht
        have hm : t ∈ [23, 3] := by simpa using Array.mem_of_getElem? ht
        have hall : ([23, 3].all fun u => !Tryd.prog.wantsStandIn u) = true := by kernel_rfl
        exact (show Tryd.prog.wantsStandIn t = false by simpa using List.all_eq_true.1 hall t hm)⟩)
    (by kernel_rfl)
end Go.Proofs.YtmkiojnhjfkepaaDoor
