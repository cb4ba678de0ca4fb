/- ScenarioAgain: what is read from a text is valid and has just this text; otherwise there is an error, and a line only if the form is wrong, one of those of the text or the next one, for every text. Conditions: those of the given row. -/
import Derived.Test.YthmeifdgkodjlaaDoorPz
namespace Go.Proofs.YthmeifdgkodjlaaDoor
open Go.ChangeShapes Go.WideShapes Go.ChangeAt Go.RowKit

theorem pcs_count (c : UInt8) : ∀ l : List UInt8, (pcs c l).length = l.count c + 1
  | [] => by simp [pcs]
  | x :: r => by
    have ih := pcs_count c r
    unfold pcs
    by_cases hx : x = c
    · rw [if_pos hx, List.length_cons, ih, hx, List.count_cons_self]
    · rw [if_neg hx, List.count_cons_of_ne hx]
      split
      · rename_i e; exact absurd e (pcs_ne c r)
      · rename_i h t e
        rw [e] at ih
        simpa using ih
/-- what reading a text gives -/
theorem again_cases (L : List UInt8) : (∃ m : Nat, prsS L = (sc0, m, 19) ∧ 1 ≤ m ∧ m ≤ L.count 10 + 1) ∨ (∃ E : Int, prsS L = (sc0, 0, E) ∧ E ≠ 0 ∧ E ≠ 19) ∨ (∃ s : Sc, prsS L = (s, 0, 0) ∧ chkS s = 0 ∧ scT s = L ∧ SdOk s) := by
  unfold prsS
  cases h : rdA ss0 1 (pcs 10 L) with
  | error m =>
    obtain ⟨h1, h2⟩ := rdA_err _ _ _ _ (pcs_ne 10 L) h
    rw [pcs_count] at h2
    exact .inl ⟨m, rfl, h1, by omega⟩
  | ok x =>
    simp only
    by_cases hc : chkS x.sc = 0
    · rw [if_pos hc]
      obtain ⟨h1, h2⟩ := again_sc h
      exact .inr (.inr ⟨x.sc, rfl, hc, h1, h2⟩)
    · rw [if_neg hc]
      exact .inr (.inl ⟨_, rfl, hc, chkS_ne _⟩)
theorem prs_lens {L : List UInt8} (h : L.length ≤ 4000) : (∀ p ∈ pcs 10 L, p.length ≤ 99999) ∧ (lnsO 1 (pcs 10 L)).length ≤ 99999 :=
  ⟨fun p hp => by have := mem_pcs_len hp; omega, by have h1 := lnsO_length (pcs 10 L) 1; have h2 := pcs_length_le 10 L; omega⟩
def zW : ScW := ⟨[], [], [], 0, 0, none, 0, none, 0, none, 0⟩
set_option maxRecDepth 100000 in
set_option maxHeartbeats 6000000 in
theorem again_walk {w : World} (X : ByteArray) (he : Env w) :
    Calls Tryd.prog 4 #[.string X] w fun e w' => e = .returned (.bool true) ∧ Only [] w w' := by
  have HE := Lib.hid he
  obtain ⟨L, hL⟩ : ∃ L, X.data.toList = L := ⟨_, rfl⟩
  have hsz : X.size = L.length := by rw [← hL, Array.length_toList]; rfl
  have HL := Lib.hid hL
  have HSZ := Lib.hid hsz
  clear he hL hsz
  by_cases h4 : 4000 < X.size
  · have d1 : decide ((X.size : Int) > 4000) = true := by simp; omega
    have d2 : decide (4000 < (X.size : Int)) = true := by simp; omega
    have HA := Lib.hid (pAwake w HE.out)
    clear h4
    go_enter Tryd.func4, Tryd.ntmps4
    go_wp2_with fail
    refine HA.out.mono ?_
    rintro e w8 ⟨rfl, ho8⟩
    have O8 := Lib.hid ho8
    clear ho8
    go_wp2
    go_ret
    exact ⟨rfl, O8.out⟩
  · have d1 : decide ((X.size : Int) > 4000) = false := by simp; omega
    have d2 : decide (4000 < (X.size : Int)) = false := by simp; omega
    have hll : L.length ≤ 4000 := by have := HSZ.out; omega
    have hlens := prs_lens hll
    have HP := Lib.hid (pParse X L HL.out (by omega) hlens.1 hlens.2 w HE.out)
    have hX : X = bstr L := bstr_eq HL.out
    have HF := Lib.hid (pFeeds X (by omega))
    have HXB := Lib.hid hX
    clear h4 hlens hX
    go_enter Tryd.func4, Tryd.ntmps4
    go_wp2_with fail
    refine HP.out.mono ?_
    rintro e w1 ⟨⟨s2, hs2, hok, rfl⟩, ho1⟩
    have O1 := Lib.hid ho1
    clear ho1 HP
    have HOK := Lib.hid hok
    clear hok
    rcases again_cases L with ⟨m, hr, hm1, hm2⟩ | ⟨E, hr, hE0, hE19⟩ | ⟨s, hr, hc, hT, hsd⟩
    · rw [hr] at hs2 ⊢
      have HS2 := Lib.hid hs2
      clear hr hs2
      simp only
      obtain ⟨nd2, lk2, ft2, un2, sd2, pn2, cn2, pl2, cl2, pf2, cf2⟩ := s2
      simp only [scV]
      have z0 : ((m : Int) == 0) = false := by rw [beq_eq_false_iff_ne]; omega
      have z0n : ((m : Int) != 0) = true := by rw [bne_iff_ne]; omega
      have hm1' : (1 : Int) ≤ (m : Int) := by omega
      go_upto_region 4 with (fail)
      refine alloc_abs (G := fun w0 => Code.wp _ _ _ _ w0) ?_
      intro w2 hb2 ho2 hs2
      have B2 := Lib.hid hb2; have O2 := Lib.hid (O1.out.nil_trans ho2); have HOK2 := Lib.hid (HOK.out.kept ho2)
      clear hb2 ho2 hs2 O1 HOK
      have c0 := cell_got B2.out 0; have c1 := cell_got B2.out 1; have c2 := cell_got B2.out 2; have c3 := cell_got B2.out 3; have c4 := cell_got B2.out 4; have lc := got_lt B2.out
      have hsm := pSame (b := zW) HOK2.out (zero_ok w2)
      rw [show decide (ScW.sc ⟨nd2, lk2, ft2, un2, sd2, pn2, cn2, pl2, cl2, pf2, cf2⟩ = zW.sc) = true from decide_eq_true HS2.out] at hsm
      have HSM := Lib.hid hsm
      clear hsm
      go_wp2_with fail
      refine HSM.out.mono ?_
      rintro e w3 ⟨rfl, ho3⟩
      have O3 := Lib.hid (O2.out.nil_trans ho3)
      clear ho3 O2 c0 c1 c2 c3 c4 lc
      have hf := HF.out w3
      rw [HL.out] at hf
      have HF3 := Lib.hid hf
      clear hf
      have hcn := List.count_le_length (a := (10 : UInt8)) (l := L)
      generalize L.count 10 = cn at hm2 HF3 hcn
      have hm2' : (m : Int) ≤ (cn : Int) + 1 := by omega
      have hcn' : cn ≤ 4000 := by omega
      go_wp2_with fail
      refine HF3.out.mono ?_
      rintro e w4 ⟨rfl, rfl⟩
      have HA := Lib.hid (pAwake w3 (HE.out.kept O3.out))
      go_wp2_with fail
      refine HA.out.mono ?_
      rintro e w8 ⟨rfl, ho8⟩
      have O8 := Lib.hid (O3.out.nil_trans ho8)
      clear ho8
      go_wp2
      go_ret
      exact ⟨rfl, O8.out⟩
    · rw [hr] at hs2 ⊢
      have HS2 := Lib.hid hs2
      clear hr hs2
      simp only
      obtain ⟨nd2, lk2, ft2, un2, sd2, pn2, cn2, pl2, cl2, pf2, cf2⟩ := s2
      simp only [scV]
      have z0 : (E == 0) = false := by simp [hE0]
      have z0n : (E != 0) = true := by simp [hE0]
      have z1 : (E == 19) = false := by simp [hE19]
      clear hE0 hE19
      go_upto_region 4 with (fail)
      refine alloc_abs (G := fun w0 => Code.wp _ _ _ _ w0) ?_
      intro w2 hb2 ho2 hs2
      have B2 := Lib.hid hb2; have O2 := Lib.hid (O1.out.nil_trans ho2); have HOK2 := Lib.hid (HOK.out.kept ho2)
      clear hb2 ho2 hs2 O1 HOK
      have c0 := cell_got B2.out 0; have c1 := cell_got B2.out 1; have c2 := cell_got B2.out 2; have c3 := cell_got B2.out 3; have c4 := cell_got B2.out 4; have lc := got_lt B2.out
      have hsm := pSame (b := zW) HOK2.out (zero_ok w2)
      rw [show decide (ScW.sc ⟨nd2, lk2, ft2, un2, sd2, pn2, cn2, pl2, cl2, pf2, cf2⟩ = zW.sc) = true from decide_eq_true HS2.out] at hsm
      have HSM := Lib.hid hsm
      clear hsm
      go_wp2_with fail
      refine HSM.out.mono ?_
      rintro e w3 ⟨rfl, ho3⟩
      have O3 := Lib.hid (O2.out.nil_trans ho3)
      clear ho3 O2 c0 c1 c2 c3 c4 lc
      have HA := Lib.hid (pAwake w3 (HE.out.kept O3.out))
      go_wp2_with fail
      refine HA.out.mono ?_
      rintro e w8 ⟨rfl, ho8⟩
      have O8 := Lib.hid (O3.out.nil_trans ho8)
      clear ho8
      go_wp2
      go_ret
      exact ⟨rfl, O8.out⟩
    · rw [hr] at hs2 ⊢
      have HS2 := Lib.hid hs2
      have htx : txtS s = (L, 0) := by unfold txtS; rw [if_pos hc, hT]
      have ht := fun w' ho => pText s2 (HOK.out.kept (w' := w') ho) (by rw [hs2]; exact hsd)
      simp only [hs2, htx, ← HXB.out] at ht
      have hk := fun w' ho => pCheck s2 (HOK.out.kept (w' := w') ho)
      simp only [hs2, hc] at hk
      have HT := Lib.hid ht; have HCK := Lib.hid hk
      clear hr hs2 htx ht hk hc hT hsd
      simp only
      obtain ⟨nd2, lk2, ft2, un2, sd2, pn2, cn2, pl2, cl2, pf2, cf2⟩ := s2
      simp only [scV]
      go_upto_region 4 with (fail)
      refine alloc_abs (G := fun w0 => Code.wp _ _ _ _ w0) ?_
      intro w2 hb2 ho2 hs2
      have B2 := Lib.hid hb2; have O2 := Lib.hid (O1.out.nil_trans ho2); have P2 := Lib.hid ho2
      clear hb2 ho2 hs2 O1 HOK
      have c0 := cell_got B2.out 0; have c1 := cell_got B2.out 1; have c2 := cell_got B2.out 2; have c3 := cell_got B2.out 3; have c4 := cell_got B2.out 4; have lc := got_lt B2.out
      have HT2 := Lib.hid (HT.out w2 P2.out (HE.out.kept O2.out).tab)
      go_wp2_with fail
      refine HT2.out.mono ?_
      rintro e w3 ⟨rfl, ho3⟩
      have O3 := Lib.hid (O2.out.nil_trans ho3); have B3 := Lib.hid (ho3.got B2.out (by simp)); have P3 := Lib.hid (P2.out.nil_trans ho3)
      clear ho3 O2 B2 HT2 HT P2 c0 c1 c2 c3 c4 lc
      have c0 := cell_got B3.out 0; have c1 := cell_got B3.out 1; have c2 := cell_got B3.out 2; have c3 := cell_got B3.out 3; have c4 := cell_got B3.out 4; have lc := got_lt B3.out
      have HK3 := Lib.hid (HCK.out w3 P3.out)
      go_wp2_with fail
      refine HK3.out.mono ?_
      rintro e w4 ⟨rfl, ho4⟩
      have O4 := Lib.hid (O3.out.nil_trans ho4)
      clear ho4 O3 B3 HK3 HCK P3 c0 c1 c2 c3 c4 lc
      have HA := Lib.hid (pAwake w4 (HE.out.kept O4.out))
      go_wp2_with fail
      refine HA.out.mono ?_
      rintro e w8 ⟨rfl, ho8⟩
      have O8 := Lib.hid (O4.out.nil_trans ho8)
      clear ho8
      go_wp2
      go_ret
      exact ⟨rfl, O8.out⟩
set_option maxRecDepth 100000 in
theorem scenarioAgain_lifted (os : Os) (started : os.Started) (H : Type) (enc : TypeId × Value → H) :
    ReturnsInHanded {} Tryd.checked os 4 .any (fun w args => (Rows.scenarioAgainSpec.pre enc Tryd.prog Tryd.f4 Rows.scenarioAgainRow.domain false w args ∧ laidMetH Tryd.prog Rows.scenarioAgainRow.laid w) ∧ sizedMet enc Tryd.prog Tryd.f4 (OpenSpec.ofChange Rows.scenarioAgainSpec) false w args)
      (Rows.scenarioAgainSpec.post enc Tryd.prog Tryd.f4 false true false false) := by
  refine returnsInHanded_of_change_and_shaped (C := Tryd.checked) (X := fun w _ => laidMetH Tryd.prog Rows.scenarioAgainRow.laid w) (fun _ _ _ hh h => h.of_heap hh) law_own started (by kernel_rfl) Tryd.func4
    (ChangeSpec.witness_shaped (enc := enc) (C := Tryd.checked) (os := os) (X := fun w _ => laidMetH Tryd.prog Rows.scenarioAgainRow.laid w) false (World.laidAll Tryd.prog os Rows.scenarioAgainRow.laid) #[.string ⟨#[]⟩] 8 (World.laidAll_os _ _ _)
      (World.shaped_of_ZipB (by kernel_rfl) (by kernel_rfl)) (by kernel_rfl) (by kernel_rfl) (by kernel_rfl)
      (by rw [MakeChecks.laidMetH_plain _ _ _ (by kernel_rfl)]; exact laidMet_laidAll _ (by kernel_rfl) (by kernel_rfl))) ?_
  intro W base args ds gs before hval0 hW hcnd _ hL hsh _
  have hval : ∀ (j : Nat) t v, Tryd.f4.params[j]? = some t → args[j]? = some v → Value.okWide Tryd.prog W .any base t v := hval0
  have hW' := hW
  obtain ⟨p, q, hA0, hV, rfl, hfz, hnd⟩ := hW
  have hA : DataW.TrodAll enc Tryd.prog W 0 (fun _ => true) true Tryd.f4.params.toList args.toList ds p := hA0
  rw [Tryd.params4] at hA hval
  obtain ⟨v0, vs0, d0, ds0, p0, q0, hargs, rfl, rfl, h0, r0⟩ := trodAll_cons hA
  obtain ⟨rfl, rfl, rfl⟩ := trodAll_nil r0
  obtain rfl : args = #[v0] := by cases args; simp_all
  obtain ⟨rfl, rfl⟩ := trodVars_none hV
  have k0 := h0
  have lt0 : ∀ x ∈ p0, x.block < W.heap.size := by obtain ⟨m, hm⟩ := k0; exact DataW.trod_lt m _ _ _ hm
  obtain ⟨a0, rfl, _, _, w0⟩ := Go.ChangeMaps.open_string Tryd.underlying9 (hval 0 9 v0 rfl rfl) h0
  clear hA0 hval0
  refine (again_walk a0 (env_of_laid (by kernel_rfl) (by simp [Rows.scenarioAgainRow]) (by simp [Rows.scenarioAgainRow]) (by simp [Rows.scenarioAgainRow]) hL hsh)).mono fun e W' ⟨he, ho⟩ => ?_
  subst he
  have bel : Below W.heap.size W W' := ho.nil_below
  exact ⟨_, rfl, _, _, _, [], _, [], hW', trodAll_mk1 (shut_bool Tryd.underlying4 _), (trodAll_cons_mk (Below.trod law_laidOut (by kernel_rfl) (of_decide_eq_true (by kernel_rfl)) k0 bel lt0) trodAll_mk0), rfl, bel.frame _, fun h => by cases h⟩

theorem scenarioAgain_over : Rows.scenarioAgainRow.holds Tryd.pinned (OpenSpec.ofChange Rows.scenarioAgainSpec) :=
  OpenClaim.holds_of_wide 4 Tryd.f4 rfl rfl rfl rfl rfl rfl rfl ⟨rfl, rfl, rfl, rfl, rfl⟩ rfl rfl rfl rfl rfl (by kernel_rfl) Tryd.func4 (by kernel_rfl)
    (of_decide_eq_true (by kernel_rfl)) (by unfold Func.isWrapper; first | (rw [if_pos (by decide +kernel)]; kernel_rfl) | (rw [if_neg (by decide +kernel)]; exact ⟨rfl, rfl⟩))
    (fun os started H enc _ => scenarioAgain_lifted os started H enc)

theorem scenarioAgain_holds : Rows.ScenarioAgainCardSaid :=
  Claim7.holds_tied_plain_at .later [] [.data, .data, .data, .data, .sentinel, .sentinel, .pinned] true (true, "b13adb8c9f517f690b233c117c471c0584d8ea699463bbaaa7331c9b66606ae0") true scenarioAgain_over (fun _ h => by cases h) (by kernel_rfl) (fun _ h => by cases h) scenarioAgain_row_tie rfl ⟨rfl, rfl⟩ (by kernel_rfl) rfl
    (fun f fn hf hfn => by
      obtain rfl : f = 4 := Option.some.inj ((show Tryd.prog.funcNamed "timesync/timesynclaw56.ScenarioAgain" = some 4 by kernel_rfl).symm.trans hf) |>.symm
      obtain rfl : fn = Tryd.f4 := (Option.some.inj (Tryd.func4.symm.trans hfn)).symm
      exact ⟨by kernel_rfl, fun j t ht => by
        rw [Tryd.params4] at ht
        have hm : t ∈ [9] := by simpa using Array.mem_of_getElem? ht
        have hall : ([9].all fun u => !Tryd.prog.wantsStandIn u) = true := by kernel_rfl
        exact (show Tryd.prog.wantsStandIn t = false by simpa using List.all_eq_true.1 hall t hm)⟩)
    (by kernel_rfl)
end Go.Proofs.YthmeifdgkodjlaaDoor
