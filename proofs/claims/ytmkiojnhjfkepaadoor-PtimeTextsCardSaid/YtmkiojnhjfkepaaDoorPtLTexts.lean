/- PtimeTexts: Text and Parse return what they must: the law returns true for every input. Condition: none but the tied tables and errors of the library. -/
import Derived.Test.YtmkiojnhjfkepaaDoorTr
namespace Go.Proofs.YtmkiojnhjfkepaaDoor
open Go.ChangeShapes Go.WideShapes Go.ChangeAt Go.RowKit Go.Joins

/-- Text of both -/
theorem text_pair (s n : Int) : ∃ X : ByteArray,
    (∀ w, Tab w → Calls Tryd.prog 27 #[.agg #[.int .i64 s, .int .i64 n]] w fun e w' => e = .returned (.string X) ∧ Only [] w w') ∧
    (∀ w, Calls Tryd.prog 28 #[.agg #[.int .i64 s, .int .i64 n]] w fun e w' => e = .returned (.string X) ∧ Only [] w w') := by
  by_cases h : stOk s n
  · have h' := h
    obtain ⟨h1, h2, h3, h4⟩ := h'
    obtain ⟨S, rfl⟩ : ∃ S : Nat, s = S := ⟨s.toNat, by omega⟩
    obtain ⟨M, rfl⟩ : ∃ M : Nat, n = M := ⟨n.toNat, by omega⟩
    refine ⟨⟨(stL S M).toArray⟩, fun w ht => ?_, fun w => Rtext_yes S M w h⟩
    have := Ptext_yes S M w h ht
    rwa [stStr_list S M (by omega)] at this
  · exact ⟨⟨#[]⟩, fun w _ => Ptext_no s n w h, fun w => Rtext_no s n w h⟩
/-- Parse of both -/
theorem parse_pair (x : ByteArray) (hx : x.size ≤ 200) : ∃ S M E : Int,
    (∀ w, Env w → Calls Tryd.prog 29 #[.string x] w fun e w' => e = .returned (.tuple #[.agg #[.int .i64 S, .int .i64 M], .int .i64 E]) ∧ Only [] w w') ∧
    (∀ w, Calls Tryd.prog 30 #[.string x] w fun e w' => e = .returned (.tuple #[.agg #[.int .i64 S, .int .i64 M], .int .i64 E]) ∧ Only [] w w') := by
  by_cases h : ∃ S M, Txt x.data.toList S M
  · obtain ⟨S, M, h⟩ := h
    exact ⟨S, M, 0, fun w he => Pparse_yes x w h he, fun w => Rparse_yes x w h⟩
  · have h' : ∀ S M, ¬ Txt x.data.toList S M := fun S M q => h ⟨S, M, q⟩
    exact ⟨0, 0, 19, fun w he => Pparse_no x w (by omega) h' he, fun w => Rparse_no x w hx h'⟩

set_option maxRecDepth 100000 in
set_option maxHeartbeats 2000000 in
theorem texts_walk (s n : Int) (x : ByteArray) (w : World) (hx : x.size ≤ maxLen) (he : Env w) :
    Calls Tryd.prog 7 #[.agg #[.int .i64 s, .int .i64 n], .string x] w fun e w' => e = .returned (.bool true) ∧ Only [] w w' := by
  unfold maxLen at hx
  obtain ⟨X, hP, hR⟩ := text_pair s n
  have HP := Lib.hid hP; have HR := Lib.hid hR; have HE := Lib.hid he
  clear hP hR he
  go_enter Tryd.func7, Tryd.ntmps7
  go_wp2_with fail
  refine alloc_abs (G := Code.wp _ _ _ _) ?_
  intro w1 hb1 ho1 hs1
  have B1 := Lib.hid hb1; have O1 := Lib.hid ho1
  clear hb1 hs1 ho1
  have g0 := cell_got B1.out 0; have g1 := cell_got B1.out 1
  have l0 := got_lt B1.out
  refine wp_region_grown [0,1,2,3,4] [] (by kernel_rfl) (by kernel_rfl) ?_
  simp only [pick, List.map_cons, List.map_nil, List.getD_cons_succ, List.getD_cons_zero]
  iterate 1 (refine wpQuiet_step (fun K hK => ?_); go_simp; refine hK _ ?_; clear hK K)
  refine wpQuiet_enter rfl 27 #[.agg #[.int .i64 s, .int .i64 n]] (fun _ => by kernel_rfl) (.string X) (grown_only fun w' ho' => HP.out w' (HE.out.tab.kept (O1.out.nil_trans ho'))) ?_
  iterate 1 (refine wpQuiet_step (fun K hK => ?_); go_simp; refine hK _ ?_; clear hK K)
  refine wpQuiet_enter rfl 28 #[.agg #[.int .i64 s, .int .i64 n]] (fun _ => by kernel_rfl) (.string X) (grown_only fun w' _ => HR.out w') ?_
  iterate 1 (refine wpQuiet_step (fun K hK => ?_); go_simp; refine hK _ ?_; clear hK K)
  refine wpQuiet_nil ?_
  intro w2 hw2
  have O2 := Lib.hid (O1.out.nil_trans (only_of_plus hw2)); clear hw2 O1 B1 g0 g1 l0 HP HR
  by_cases h200 : 200 < x.size
  · have d : decide (200 < (x.size : Int)) = true := by simp; omega
    have d' : decide (200 < x.size) = true := by simp; omega
    go_wp2_with fail
    refine (awake_any w2 (HE.out.tab.kept O2.out)).mono ?_
    rintro e w3 ⟨rfl, ho3⟩
    go_wp2_with fail
    go_ret
    exact ⟨rfl, O2.out.nil_trans ho3⟩
  · have d : decide (200 < (x.size : Int)) = false := by simp; omega
    have d' : decide (200 < x.size) = false := by simp; omega
    obtain ⟨S, M, E, hQ, hQ'⟩ := parse_pair x (by omega)
    have HQ := Lib.hid hQ; have HQ' := Lib.hid hQ'
    clear hQ hQ'
    go_wp2_with fail
    refine (HQ.out w2 (HE.out.kept O2.out)).mono ?_
    rintro e w4 ⟨rfl, ho4⟩
    have O4 := Lib.hid (O2.out.nil_trans ho4)
    clear O2 ho4
    go_wp2_with fail
    refine alloc_abs (G := fun w0 => Calls _ _ _ w0 _) ?_
    intro w5 hb5 ho5 hs5
    have O5 := Lib.hid (O4.out.nil_trans ho5); have C5 := Lib.hid hb5
    clear O4 ho5 hb5 hs5
    refine (HQ'.out w5).mono ?_
    rintro e w6 ⟨rfl, ho6⟩
    have O6 := Lib.hid (O5.out.nil_trans ho6); have C6 := Lib.hid (ho6.got C5.out (by simp))
    clear O5 ho6 C5
    have i0 := cell_got C6.out 0; have i1 := cell_got C6.out 1
    have l1 := got_lt C6.out
    go_wp2_with fail
    refine alloc_abs (G := fun w0 => Calls _ _ _ w0 _) ?_
    intro w7 hb7 ho7 hs7
    have O7 := Lib.hid (O6.out.nil_trans ho7)
    refine (awake_any w7 (HE.out.tab.kept O7.out)).mono ?_
    rintro e w8 ⟨rfl, ho8⟩
    go_wp2_with fail
    go_ret
    exact ⟨rfl, O7.out.nil_trans ho8⟩

set_option maxRecDepth 100000 in
theorem ptimeTexts_lifted (os : Os) (started : os.Started) (H : Type) (enc : TypeId × Value → H) :
    ReturnsInHanded {} Tryd.checked os 7 .any (fun w args => (Rows.ptimeTextsSpec.pre enc Tryd.prog Tryd.f7 Rows.ptimeTextsRow.domain false w args ∧ laidMetH Tryd.prog Rows.ptimeTextsRow.laid w) ∧ sizedMet enc Tryd.prog Tryd.f7 (OpenSpec.ofChange Rows.ptimeTextsSpec) false w args)
      (Rows.ptimeTextsSpec.post enc Tryd.prog Tryd.f7 false true false false) := by
  refine returnsInHanded_of_change_and_shaped (C := Tryd.checked) (X := fun w _ => laidMetH Tryd.prog Rows.ptimeTextsRow.laid w) (fun _ _ _ hh h => h.of_heap hh) law_own started (by kernel_rfl) Tryd.func7
    (ChangeSpec.witness_shaped (enc := enc) (C := Tryd.checked) (os := os) (X := fun w _ => laidMetH Tryd.prog Rows.ptimeTextsRow.laid w) false (World.laidAll Tryd.prog os Rows.ptimeTextsRow.laid) #[.agg #[.int .i64 0, .int .i64 0], .string ⟨#[]⟩] 8 (World.laidAll_os _ _ _)
      (World.shaped_of_ZipB (by kernel_rfl) (by kernel_rfl)) (by kernel_rfl) (by kernel_rfl) (by kernel_rfl)
      (by rw [MakeChecks.laidMetH_plain _ _ _ (by kernel_rfl)]; exact laidMet_laidAll _ (by kernel_rfl) (by kernel_rfl))) ?_
  intro W base args ds gs before hval0 hW hcnd _ hL hsh _
  have hval : ∀ (j : Nat) t v, Tryd.f7.params[j]? = some t → args[j]? = some v → Value.okWide Tryd.prog W .any base t v := hval0
  have hW' := hW
  obtain ⟨p, q, hA0, hV, rfl, hfz, hnd⟩ := hW
  have hA : DataW.TrodAll enc Tryd.prog W 0 (fun _ => true) true Tryd.f7.params.toList args.toList ds p := hA0
  rw [Tryd.params7] at hA hval
  obtain ⟨v0, vs0, d0, ds0, p0, q0, hargs, rfl, rfl, h0, r0⟩ := trodAll_cons hA
  obtain ⟨v1, vs1, d1, ds1, p1, q1, rfl, rfl, rfl, h1, r1⟩ := trodAll_cons r0
  obtain ⟨rfl, rfl, rfl⟩ := trodAll_nil r1
  obtain rfl : args = #[v0, v1] := by cases args; simp_all
  obtain ⟨rfl, rfl⟩ := trodVars_none hV
  have k0 := h0
  have lt0 : ∀ x ∈ p0, x.block < W.heap.size := by obtain ⟨m, hm⟩ := k0; exact DataW.trod_lt m _ _ _ hm
  obtain ⟨c00, c01, y00, y01, m0, rfl, _, _, hy00, hy01⟩ := open_agg2 Tryd.underlying23 (by kernel_rfl) (by kernel_rfl) (hval 0 23 v0 rfl rfl) h0
  obtain ⟨s0, es0, _, ws0⟩ := DataW.trod_int Tryd.underlying3 hy00
  obtain ⟨n0, en0, _, wn0⟩ := DataW.trod_int Tryd.underlying3 hy01
  simp at es0 en0
  subst es0 en0
  have k1 := h1
  have lt1 : ∀ x ∈ p1, x.block < W.heap.size := by obtain ⟨m, hm⟩ := k1; exact DataW.trod_lt m _ _ _ hm
  obtain ⟨a1, rfl, _, _, w1⟩ := Go.ChangeMaps.open_string Tryd.underlying9 (hval 1 9 v1 rfl rfl) h1
  clear hA0 hval0
  refine (texts_walk s0 n0 a1 W w1 (env_of_laid (by kernel_rfl) (by simp [Rows.ptimeTextsRow]) (by simp [Rows.ptimeTextsRow]) (by simp [Rows.ptimeTextsRow]) hL hsh)).mono fun e W' ⟨he, ho⟩ => ?_
  subst he
  have bel : Below W.heap.size W W' := ho.nil_below
  exact ⟨_, rfl, _, _, _, [], _, [], hW', trodAll_mk1 (shut_bool Tryd.underlying4 _), (trodAll_cons_mk (Below.trod law_laidOut (by kernel_rfl) (of_decide_eq_true (by kernel_rfl)) k0 bel lt0) (trodAll_cons_mk (Below.trod law_laidOut (by kernel_rfl) (of_decide_eq_true (by kernel_rfl)) k1 bel lt1) trodAll_mk0)), rfl, bel.frame _, fun h => by cases h⟩

theorem ptimeTexts_over : Rows.ptimeTextsRow.holds Tryd.pinned (OpenSpec.ofChange Rows.ptimeTextsSpec) :=
  OpenClaim.holds_of_wide 7 Tryd.f7 rfl rfl rfl rfl rfl rfl rfl ⟨rfl, rfl, rfl, rfl, rfl⟩ rfl rfl rfl rfl rfl (by kernel_rfl) Tryd.func7 (by kernel_rfl)
    (of_decide_eq_true (by kernel_rfl)) (by unfold Func.isWrapper; first | (rw [if_pos (by decide +kernel)]; kernel_rfl) | (rw [if_neg (by decide +kernel)]; exact ⟨rfl, rfl⟩))
    (fun os started H enc _ => ptimeTexts_lifted os started H enc)

theorem ptimeTexts_holds : Rows.PtimeTextsCardSaid :=
  Claim7.holds_tied_plain_at .later [] [.data, .data, .data, .sentinel, .sentinel] true (true, "4b5ff3d97fc2c89bd570ac74b8b16548d0b48ea7ffe4261ef3568e6d8c6ac2c2") true ptimeTexts_over (fun _ h => by cases h) (by kernel_rfl) (fun _ h => by cases h) ptimeTexts_row_tie rfl ⟨rfl, rfl⟩ (by kernel_rfl) rfl
    (fun f fn hf hfn => by
      obtain rfl : f = 7 := Option.some.inj ((show Tryd.prog.funcNamed "timesync/timesynclaw04.PtimeTexts" = some 7 by kernel_rfl).symm.trans hf) |>.symm
      obtain rfl : fn = Tryd.f7 := (Option.some.inj (Tryd.func7.symm.trans hfn)).symm
      exact ⟨by kernel_rfl, fun j t ht => by
        rw [Tryd.params7] at ht
        have hm : t ∈ [23, 9] := by simpa using Array.mem_of_getElem? ht
        have hall : ([23, 9].all fun u => !Tryd.prog.wantsStandIn u) = true := by kernel_rfl
        exact (show Tryd.prog.wantsStandIn t = false by simpa using List.all_eq_true.1 hall t hm)⟩)
    (by kernel_rfl)
end Go.Proofs.YtmkiojnhjfkepaaDoor
