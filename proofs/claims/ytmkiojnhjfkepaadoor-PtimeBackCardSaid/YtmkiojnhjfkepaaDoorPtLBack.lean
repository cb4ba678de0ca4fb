/- PtimeBack: a valid timestamp is read back from its bytes, its text and its instant: the law returns true for every input. Condition: none but the tied tables and errors of the library. -/
import Derived.Test.YtmkiojnhjfkepaaDoorTr
namespace Go.Proofs.YtmkiojnhjfkepaaDoor
open Go.ChangeShapes Go.WideShapes Go.ChangeAt Go.RowKit Go.Joins

theorem numB_be (x : Nat) : ∀ (size : Nat), numB (be x size) = x % 256 ^ size := by
  have key : ∀ (k size : Nat), k ≤ size → numB ((be x size).take k) = x / 256 ^ (size - k) % 256 ^ k := by
    intro k size
    induction k with
    | zero => intro _; simp [numB, Nat.mod_one]
    | succ k ih =>
      intro hk
      rw [take_snoc' _ k _ (beAt_get x size k (by omega)), numB_snoc, ih (by omega)]
      have e1 : (beAt x size k).toNat = x / 256 ^ (size - (k + 1)) % 256 := by
        unfold beAt
        rw [Int.toNat_natCast, Nat.pow_mul, show size - 1 - k = size - (k + 1) by omega]
      have e2 : x / 256 ^ (size - k) = x / 256 ^ (size - (k + 1)) / 256 := by
        rw [Nat.div_div_eq_div_mul, ← Nat.pow_succ, show (size - (k + 1)).succ = size - k by omega]
      rw [e1, e2]
      generalize x / 256 ^ (size - (k + 1)) = y
      rw [Nat.pow_succ, Nat.mul_comm (256 ^ k) 256, Nat.mod_mul]
      omega
  intro size
  have := key size size (Nat.le_refl _)
  rw [List.take_of_length_le (Nat.le_of_eq (be_length x size))] at this
  simpa using this
theorem bytes_be (x size : Nat) : Bytes (be x size) := fun z hz => by
  obtain ⟨i, _, rfl⟩ := List.mem_map.1 hz
  unfold beAt
  omega
theorem dec_enc (S M : Nat) (hS : S ≤ 281474976710655) (hM : M ≤ 999999999) : decS (encB S M) = S ∧ decM (encB S M) = M := by
  unfold decS decM encB
  simp only [Int.toNat_natCast]
  constructor
  · rw [List.take_append_of_le_length (by rw [be_length]; omega), List.take_of_length_le (by rw [be_length]; omega), numB_be]
    exact Nat.mod_eq_of_lt (by omega)
  · rw [List.drop_append, be_length, List.drop_of_length_le (by rw [be_length]; omega), List.nil_append, List.drop_zero, List.take_of_length_le (by rw [be_length]; omega), numB_be]
    exact Nat.mod_eq_of_lt (by omega)
theorem bytes_enc (S M : Int) : Bytes (encB S M) := fun z hz => by
  rcases List.mem_append.1 hz with h | h
  · exact bytes_be _ _ z h
  · exact bytes_be _ _ z h

set_option maxRecDepth 100000 in
set_option maxHeartbeats 2000000 in
theorem back_bad (s n : Int) (w : World) (hok : ¬ stOk s n) (he : Env w) :
    Calls Tryd.prog 8 #[.agg #[.int .i64 s, .int .i64 n]] w fun e w' => e = .returned (.bool true) ∧ Only [] w w' := by
  have HE := Lib.hid he; clear he
  go_enter Tryd.func8, Tryd.ntmps8
  go_wp2_with fail
  refine alloc_abs (G := fun w0 => Calls _ _ _ w0 _) ?_
  intro w1 hb1 ho1 hs1
  have B1 := Lib.hid hb1; have O1 := Lib.hid ho1
  clear hb1 hs1 ho1
  refine (Pcheck_no s n w1 hok).mono ?_
  rintro e w2 ⟨rfl, ho2⟩
  have B2 := Lib.hid (ho2.got B1.out (by simp)); have O2 := Lib.hid (O1.out.nil_trans ho2)
  clear B1 O1 ho2
  have g0 := cell_got B2.out 0; have g1 := cell_got B2.out 1
  go_wp2_with fail
  refine (Penc_no s n w2 hok).mono ?_
  rintro e w3 ⟨rfl, ho3⟩
  have B3 := Lib.hid (ho3.got B2.out (by simp)); have O3 := Lib.hid (O2.out.nil_trans ho3)
  clear B2 O2 ho3 g0 g1
  have g0 := cell_got B3.out 0; have g1 := cell_got B3.out 1
  go_wp2_with fail
  refine (Ptime_bad s n w3 hok).mono ?_
  rintro e w4 ⟨rfl, ho4⟩
  have B4 := Lib.hid (ho4.got B3.out (by simp)); have O4 := Lib.hid (O3.out.nil_trans ho4)
  clear B3 O3 ho4 g0 g1
  have g0 := cell_got B4.out 0; have g1 := cell_got B4.out 1
  go_wp2_with fail
  refine (Ptext_no s n w4 hok).mono ?_
  rintro e w5 ⟨rfl, ho5⟩
  have O5 := Lib.hid (O4.out.nil_trans ho5)
  clear B4 O4 ho5 g0 g1
  go_wp2_with fail
  refine (awake_any w5 (HE.out.tab.kept O5.out)).mono ?_
  rintro e w6 ⟨rfl, ho6⟩
  go_wp2_with fail
  go_ret
  exact ⟨rfl, O5.out.nil_trans ho6⟩

set_option maxRecDepth 100000 in
set_option maxHeartbeats 4000000 in
theorem back_good (S M : Nat) (w : World) (hok : stOk S M) (he : Env w) :
    Calls Tryd.prog 8 #[.agg #[.int .i64 S, .int .i64 M]] w fun e w' => e = .returned (.bool true) ∧ Only [] w w' := by
  have h' := hok
  obtain ⟨q1, q2, q3, q4⟩ := h'
  have HE := Lib.hid he; clear he
  have hdec : ∀ (w : World) (g : Nat), RowAt bE 5 1 w g 10 (encB S M) → Calls Tryd.prog 24 #[.slice (some ⟨g, 0, none⟩) 10 10] w fun e w' => e = .returned (.tuple #[.agg #[.int .i64 S, .int .i64 M], .int .i64 0]) ∧ Only [] w w' := fun w g hr => by
    have := Pdec_ten (hr.vrow (encB_length S M)) (bytes_enc S M)
    rw [(dec_enc S M (by omega) (by omega)).1, (dec_enc S M (by omega) (by omega)).2, decV_yes hok] at this
    exact this
  have htext : ∀ w, Tab w → Calls Tryd.prog 27 #[.agg #[.int .i64 S, .int .i64 M]] w fun e w' => e = .returned (.string ⟨(stL S M).toArray⟩) ∧ Only [] w w' := fun w ht => by
    have := Ptext_yes S M w hok ht
    rw [stStr_list S M (by omega)] at this
    exact this
  have hpar : ∀ w, Env w → Calls Tryd.prog 29 #[.string ⟨(stL S M).toArray⟩] w fun e w' => e = .returned (.tuple #[.agg #[.int .i64 S, .int .i64 M], .int .i64 0]) ∧ Only [] w w' := fun w he =>
    Pparse_yes ⟨(stL S M).toArray⟩ w (S := S) (M := M) ⟨hok, rfl⟩ he
  obtain ⟨T, hT⟩ : ∃ T : ByteArray, T = ⟨(stL S M).toArray⟩ := ⟨_, rfl⟩
  rw [← hT] at htext hpar
  have HD := Lib.hid hdec; have HX := Lib.hid htext; have HPa := Lib.hid hpar
  clear hdec htext hpar hT
  go_enter Tryd.func8, Tryd.ntmps8
  go_wp2_with fail
  refine alloc_abs (G := fun w0 => Calls _ _ _ w0 _) ?_
  intro w1 hb1 ho1 hs1
  have B1 := Lib.hid hb1; have O1 := Lib.hid ho1
  clear hb1 hs1 ho1
  refine (Pcheck_yes S M w1 hok).mono ?_
  rintro e w2 ⟨rfl, ho2⟩
  have B2 := Lib.hid (ho2.got B1.out (by simp)); have O2 := Lib.hid (O1.out.nil_trans ho2)
  clear B1 O1 ho2
  have g0 := cell_got B2.out 0; have g1 := cell_got B2.out 1
  go_wp2_with fail
  refine (Penc_yes S M w2 hok).mono ?_
  rintro e w3 ⟨g, rfl, hr3, ho3, hg3⟩
  have B3 := Lib.hid (ho3.got B2.out (by simp)); have O3 := Lib.hid (O2.out.nil_trans ho3); have R3 := Lib.hid hr3
  clear B2 O2 ho3 g0 g1 hr3 hg3
  go_wp2_with fail
  refine (HD.out w3 g R3.out).mono ?_
  rintro e w4 ⟨rfl, ho4⟩
  have B4 := Lib.hid (ho4.got B3.out (by simp)); have O4 := Lib.hid (O3.out.nil_trans ho4)
  clear B3 O3 ho4 R3
  have g0 := cell_got B4.out 0; have g1 := cell_got B4.out 1
  have l0 := got_lt B4.out
  go_wp2_with fail
  refine alloc_abs (G := fun w0 => Calls _ _ _ w0 _) ?_
  intro w5 hb5 ho5 hs5
  have B5 := Lib.hid (ho5.got B4.out (by simp)); have O5 := Lib.hid (O4.out.nil_trans ho5); have C5 := Lib.hid hb5
  clear B4 O4 ho5 hb5 hs5 g0 g1 l0
  refine (HX.out w5 (HE.out.tab.kept O5.out)).mono ?_
  rintro e w6 ⟨rfl, ho6⟩
  have B6 := Lib.hid (ho6.got B5.out (by simp)); have O6 := Lib.hid (O5.out.nil_trans ho6); have C6 := Lib.hid (ho6.got C5.out (by simp))
  clear B5 O5 ho6 C5
  go_wp2_with fail
  refine (HPa.out w6 (HE.out.kept O6.out)).mono ?_
  rintro e w7 ⟨rfl, ho7⟩
  have B7 := Lib.hid (ho7.got B6.out (by simp)); have O7 := Lib.hid (O6.out.nil_trans ho7); have C7 := Lib.hid (ho7.got C6.out (by simp))
  clear B6 O6 ho7 C6
  have g0 := cell_got B7.out 0; have g1 := cell_got B7.out 1
  have i0 := cell_got C7.out 0; have i1 := cell_got C7.out 1
  have l0 := got_lt B7.out; have l1 := got_lt C7.out
  go_wp2_with fail
  refine alloc_abs (G := fun w0 => Calls _ _ _ w0 _) ?_
  intro w8 hb8 ho8 hs8
  have B8 := Lib.hid (ho8.got B7.out (by simp)); have O8 := Lib.hid (O7.out.nil_trans ho8)
  clear B7 O7 ho8 C7 g0 g1 i0 i1 l0 l1 hb8 hs8
  by_cases hf : tmOf S M ≤ 8000000000000000000
  · refine (Ptime_yes S M w8 hok hf).mono ?_
    rintro e w9 ⟨rfl, ho9⟩
    have B9 := Lib.hid (ho9.got B8.out (by simp)); have O9 := Lib.hid (O8.out.nil_trans ho9)
    clear B8 O8 ho9
    have hof : ∀ w, Calls Tryd.prog 11 #[.int .i64 (tmOf S M)] w fun e w' => e = .returned (.tuple #[.agg #[.int .i64 S, .int .i64 M], .int .i64 0]) ∧ Only [] w w' := fun w => by
      have h1 : tmOf S M / 1000000000 - 2208988800 = S := by unfold tmOf; omega
      have h2 : tmOf S M % 1000000000 = M := by unfold tmOf; omega
      have := Pof_yes (tmOf S M) w (by unfold tmOf; omega) (by omega)
      rw [h1, h2] at this
      exact this
    have HO := Lib.hid hof
    clear hof
    generalize tmOf S M = t at hf HO
    have g0 := cell_got B9.out 0; have g1 := cell_got B9.out 1
    have l0 := got_lt B9.out
    have d : decide (t ≤ 8000000000000000000) = true := by simp [hf]
    go_wp2_with fail
    refine (HO.out w9).mono ?_
    rintro e w10 ⟨rfl, ho10⟩
    have B10 := Lib.hid (ho10.got B9.out (by simp)); have O10 := Lib.hid (O9.out.nil_trans ho10)
    clear B9 O9 ho10 g0 g1 l0
    have g0 := cell_got B10.out 0; have g1 := cell_got B10.out 1
    have l0 := got_lt B10.out
    go_wp2_with fail
    refine alloc_abs (G := fun w0 => Calls _ _ _ w0 _) ?_
    intro w11 hb11 ho11 hs11
    have O11 := Lib.hid (O10.out.nil_trans ho11)
    refine (awake_any w11 (HE.out.tab.kept O11.out)).mono ?_
    rintro e w12 ⟨rfl, ho12⟩
    go_wp2_with fail
    go_ret
    exact ⟨rfl, O11.out.nil_trans ho12⟩
  · refine (Ptime_far S M w8 hok (by omega)).mono ?_
    rintro e w9 ⟨rfl, ho9⟩
    have B9 := Lib.hid (ho9.got B8.out (by simp)); have O9 := Lib.hid (O8.out.nil_trans ho9)
    clear B8 O8 ho9
    have g0 := cell_got B9.out 0; have g1 := cell_got B9.out 1
    have hS : 5791011200 ≤ S := by unfold tmOf at hf; omega
    have d : decide (5791011200 ≤ (S : Int)) = true := by simp; omega
    go_wp2_with fail
    refine (awake_any w9 (HE.out.tab.kept O9.out)).mono ?_
    rintro e w10 ⟨rfl, ho10⟩
    go_wp2_with fail
    go_ret
    exact ⟨rfl, O9.out.nil_trans ho10⟩

theorem back_walk (s n : Int) (w : World) (he : Env w) :
    Calls Tryd.prog 8 #[.agg #[.int .i64 s, .int .i64 n]] w fun e w' => e = .returned (.bool true) ∧ Only [] w w' := by
  by_cases hok : stOk s n
  · have h' := hok
    obtain ⟨h1, h2, h3, h4⟩ := h'
    obtain ⟨S, rfl⟩ : ∃ S : Nat, s = S := ⟨s.toNat, by omega⟩
    obtain ⟨M, rfl⟩ : ∃ M : Nat, n = M := ⟨n.toNat, by omega⟩
    exact back_good S M w hok he
  · exact back_bad s n w hok he

set_option maxRecDepth 100000 in
theorem ptimeBack_lifted (os : Os) (started : os.Started) (H : Type) (enc : TypeId × Value → H) :
    ReturnsInHanded {} Tryd.checked os 8 .any (fun w args => (Rows.ptimeBackSpec.pre enc Tryd.prog Tryd.f8 Rows.ptimeBackRow.domain false w args ∧ laidMetH Tryd.prog Rows.ptimeBackRow.laid w) ∧ sizedMet enc Tryd.prog Tryd.f8 (OpenSpec.ofChange Rows.ptimeBackSpec) false w args)
      (Rows.ptimeBackSpec.post enc Tryd.prog Tryd.f8 false true false false) := by
  refine returnsInHanded_of_change_and_shaped (C := Tryd.checked) (X := fun w _ => laidMetH Tryd.prog Rows.ptimeBackRow.laid w) (fun _ _ _ hh h => h.of_heap hh) law_own started (by kernel_rfl) Tryd.func8
    (ChangeSpec.witness_shaped (enc := enc) (C := Tryd.checked) (os := os) (X := fun w _ => laidMetH Tryd.prog Rows.ptimeBackRow.laid w) false (World.laidAll Tryd.prog os Rows.ptimeBackRow.laid) #[.agg #[.int .i64 0, .int .i64 0]] 8 (World.laidAll_os _ _ _)
      (World.shaped_of_ZipB (by kernel_rfl) (by kernel_rfl)) (by kernel_rfl) (by kernel_rfl) (by kernel_rfl)
      (by rw [MakeChecks.laidMetH_plain _ _ _ (by kernel_rfl)]; exact laidMet_laidAll _ (by kernel_rfl) (by kernel_rfl))) ?_
  intro W base args ds gs before hval0 hW hcnd _ hL hsh _
  have hval : ∀ (j : Nat) t v, Tryd.f8.params[j]? = some t → args[j]? = some v → Value.okWide Tryd.prog W .any base t v := hval0
  have hW' := hW
  obtain ⟨p, q, hA0, hV, rfl, hfz, hnd⟩ := hW
  have hA : DataW.TrodAll enc Tryd.prog W 0 (fun _ => true) true Tryd.f8.params.toList args.toList ds p := hA0
  rw [Tryd.params8] at hA hval
  obtain ⟨v0, vs0, d0, ds0, p0, q0, hargs, rfl, rfl, h0, r0⟩ := trodAll_cons hA
  obtain ⟨rfl, rfl, rfl⟩ := trodAll_nil r0
  obtain rfl : args = #[v0] := by cases args; simp_all
  obtain ⟨rfl, rfl⟩ := trodVars_none hV
  have k0 := h0
  have lt0 : ∀ x ∈ p0, x.block < W.heap.size := by obtain ⟨m, hm⟩ := k0; exact DataW.trod_lt m _ _ _ hm
  obtain ⟨c00, c01, y00, y01, m0, rfl, _, _, hy00, hy01⟩ := open_agg2 Tryd.underlying23 (by kernel_rfl) (by kernel_rfl) (hval 0 23 v0 rfl rfl) h0
  obtain ⟨s0, es0, _, ws0⟩ := DataW.trod_int Tryd.underlying3 hy00
  obtain ⟨n0, en0, _, wn0⟩ := DataW.trod_int Tryd.underlying3 hy01
  simp at es0 en0
  subst es0 en0
  clear hA0 hval0
  refine (back_walk s0 n0 W (env_of_laid (by kernel_rfl) (by simp [Rows.ptimeBackRow]) (by simp [Rows.ptimeBackRow]) (by simp [Rows.ptimeBackRow]) hL hsh)).mono fun e W' ⟨he, ho⟩ => ?_
  subst he
  have bel : Below W.heap.size W W' := ho.nil_below
  exact ⟨_, rfl, _, _, _, [], _, [], hW', trodAll_mk1 (shut_bool Tryd.underlying4 _), (trodAll_cons_mk (Below.trod law_laidOut (by kernel_rfl) (of_decide_eq_true (by kernel_rfl)) k0 bel lt0) trodAll_mk0), rfl, bel.frame _, fun h => by cases h⟩

theorem ptimeBack_over : Rows.ptimeBackRow.holds Tryd.pinned (OpenSpec.ofChange Rows.ptimeBackSpec) :=
  OpenClaim.holds_of_wide 8 Tryd.f8 rfl rfl rfl rfl rfl rfl rfl ⟨rfl, rfl, rfl, rfl, rfl⟩ rfl rfl rfl rfl rfl (by kernel_rfl) Tryd.func8 (by kernel_rfl)
    (of_decide_eq_true (by kernel_rfl)) (by unfold Func.isWrapper; first | (rw [if_pos (by decide +kernel)]; kernel_rfl) | (rw [if_neg (by decide +kernel)]; exact ⟨rfl, rfl⟩))
    (fun os started H enc _ => ptimeBack_lifted os started H enc)

theorem ptimeBack_holds : Rows.PtimeBackCardSaid :=
  Claim7.holds_tied_plain_at .later [] [.data, .data, .data, .sentinel, .sentinel] true (true, "4b5ff3d97fc2c89bd570ac74b8b16548d0b48ea7ffe4261ef3568e6d8c6ac2c2") true ptimeBack_over (fun _ h => by cases h) (by kernel_rfl) (fun _ h => by cases h) ptimeBack_row_tie rfl ⟨rfl, rfl⟩ (by kernel_rfl) rfl
    (fun f fn hf hfn => by
      obtain rfl : f = 8 := Option.some.inj ((show Tryd.prog.funcNamed "timesync/timesynclaw04.PtimeBack" = some 8 by kernel_rfl).symm.trans hf) |>.symm
      obtain rfl : fn = Tryd.f8 := (Option.some.inj (Tryd.func8.symm.trans hfn)).symm
      exact ⟨by kernel_rfl, fun j t ht => by
        rw [Tryd.params8] at ht
        have hm : t ∈ [23] := by simpa using Array.mem_of_getElem? ht
        have hall : ([23].all fun u => !Tryd.prog.wantsStandIn u) = true := by kernel_rfl
        exact (show Tryd.prog.wantsStandIn t = false by simpa using List.all_eq_true.1 hall t hm)⟩)
    (by kernel_rfl)
end Go.Proofs.YtmkiojnhjfkepaaDoor
