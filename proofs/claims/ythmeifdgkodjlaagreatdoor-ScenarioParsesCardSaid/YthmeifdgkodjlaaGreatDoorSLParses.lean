/- ScenarioParses: the scene, the line and the error that the package reads are those of the reference, for every text. Conditions: those of the given row. -/
import Derived.Test.YthmeifdgkodjlaaGreatDoorG7
import Derived.Test.YthmeifdgkodjlaaGreatDoorUg
namespace Go.Proofs.YthmeifdgkodjlaaGreatDoor
open Go.ChangeShapes Go.WideShapes Go.ChangeAt Go.RowKit

theorem prs_lens {L : List UInt8} (h : L.length ≤ 4000) : (∀ p ∈ pcs 10 L, p.length ≤ 99999) ∧ (lnsO 1 (pcs 10 L)).length ≤ 99999 :=
  ⟨fun p hp => by have := mem_pcs_len hp; omega, by have h1 := lnsO_length (pcs 10 L) 1; have h2 := pcs_length_le 10 L; omega⟩
set_option maxRecDepth 100000 in
set_option maxHeartbeats 6000000 in
theorem parses_walk {w : World} (X : ByteArray) (he : Env w) :
    Calls Tryz.prog 5 #[.string X] w fun e w' => e = .returned (.bool true) ∧ Only [] w w' := by
  have HE := Lib.hid he
  obtain ⟨L, hL⟩ : ∃ L, X.data.toList = L := ⟨_, rfl⟩
  have hsz : X.size = L.length := by rw [← hL, Array.length_toList]; rfl
  have HL := Lib.hid hL
  have HSZ := Lib.hid hsz
  clear he hL hsz
  by_cases h4 : 4000 < X.size
  · have d1 : decide ((X.size : Int) > 4000) = true := by simp; omega
    have d2 : decide (4000 < (X.size : Int)) = true := by simp; omega
    have HA := Lib.hid (pAwake w HE.out)
    clear h4
    go_enter Tryz.func5, Tryz.ntmps5
    go_wp2_with fail
    refine HA.out.mono ?_
    rintro e w8 ⟨rfl, ho8⟩
    have O8 := Lib.hid ho8
    clear ho8
    go_wp2
    go_ret
    exact ⟨rfl, O8.out⟩
  · have d1 : decide ((X.size : Int) > 4000) = false := by simp; omega
    have d2 : decide (4000 < (X.size : Int)) = false := by simp; omega
    have hll : L.length ≤ 4000 := by have := HSZ.out; omega
    have hlens := prs_lens hll
    have HP := Lib.hid (pParse X L HL.out (by omega) hlens.1 hlens.2 w HE.out)
    have HR := Lib.hid (fun w' => Rf.rParse X L HL.out (by omega) w')
    clear h4 hlens
    generalize prsS L = res at HP HR
    obtain ⟨sc, m, E⟩ := res
    go_enter Tryz.func5, Tryz.ntmps5
    go_wp2_with fail
    refine HP.out.mono ?_
    rintro e w1 ⟨⟨s2, hs2, hok, rfl⟩, ho1⟩
    have O1 := Lib.hid ho1
    have HS2 := Lib.hid hs2
    have HOK := Lib.hid hok
    clear ho1 HP hok hs2
    obtain ⟨nd2, lk2, ft2, un2, sd2, pn2, cn2, pl2, cl2, pf2, cf2⟩ := s2
    simp only [scV]
    go_wp2_with fail
    refine alloc_abs (G := fun w0 => Calls _ _ _ w0 _) ?_
    intro w2 hb2 ho2 hs2
    have B2 := Lib.hid hb2; have O2 := Lib.hid (O1.out.nil_trans ho2); have HOK2 := Lib.hid (HOK.out.kept ho2)
    clear hb2 ho2 hs2 O1 HOK
    refine (HR.out w2).mono ?_
    rintro e w3 ⟨⟨s3, hs3, hok3, rfl⟩, ho3⟩
    have O3 := Lib.hid (O2.out.nil_trans ho3); have B3 := Lib.hid (ho3.got B2.out (by simp)); have HOK3 := Lib.hid (HOK2.out.kept ho3); have HK3 := Lib.hid hok3; have HS3 := Lib.hid hs3
    clear hs3 hok3 ho3 O2 B2 HOK2
    obtain ⟨nd3, lk3, ft3, un3, sd3, pn3, cn3, pl3, cl3, pf3, cf3⟩ := s3
    simp only [scV]
    have c0 := cell_got B3.out 0; have c1 := cell_got B3.out 1; have c2 := cell_got B3.out 2; have c3 := cell_got B3.out 3; have c4 := cell_got B3.out 4; have lc := got_lt B3.out
    go_wp2_with fail
    refine alloc_abs (G := fun w0 => Calls _ _ _ w0 _) ?_
    intro w4 hb4 ho4 hs4
    have O4 := Lib.hid (O3.out.nil_trans ho4); have HK4 := Lib.hid (HK3.out.kept ho4); have HOK4 := Lib.hid (HOK3.out.kept ho4)
    clear hb4 ho4 hs4 O3 HK3 HOK3 c0 c1 c2 c3 c4 lc B3
    have hsm := pSame HOK4.out HK4.out
    rw [show decide (ScW.sc ⟨nd2, lk2, ft2, un2, sd2, pn2, cn2, pl2, cl2, pf2, cf2⟩ = ScW.sc ⟨nd3, lk3, ft3, un3, sd3, pn3, cn3, pl3, cl3, pf3, cf3⟩) = true from decide_eq_true (HS2.out.trans HS3.out.symm)] at hsm
    refine hsm.mono ?_
    rintro e w5 ⟨rfl, ho5⟩
    have O5 := Lib.hid (O4.out.nil_trans ho5)
    clear ho5 O4 hsm
    have HA := Lib.hid (pAwake w5 (HE.out.kept O5.out))
    go_wp2_with fail
    refine HA.out.mono ?_
    rintro e w8 ⟨rfl, ho8⟩
    have O8 := Lib.hid (O5.out.nil_trans ho8)
    clear ho8
    go_wp2
    go_ret
    exact ⟨rfl, O8.out⟩
set_option maxRecDepth 100000 in
theorem scenarioParses_lifted (os : Os) (started : os.Started) (H : Type) (enc : TypeId × Value → H) :
    ReturnsInHanded {} Tryz.checked os 5 .any (fun w args => (Rows.scenarioParsesSpec.pre enc Tryz.prog Tryz.f5 Rows.scenarioParsesRow.domain false w args ∧ laidMetH Tryz.prog Rows.scenarioParsesRow.laid w) ∧ sizedMet enc Tryz.prog Tryz.f5 (OpenSpec.ofChange Rows.scenarioParsesSpec) false w args)
      (Rows.scenarioParsesSpec.post enc Tryz.prog Tryz.f5 false true false false) := by
  refine returnsInHanded_of_change_and_shaped (C := Tryz.checked) (X := fun w _ => laidMetH Tryz.prog Rows.scenarioParsesRow.laid w) (fun _ _ _ hh h => h.of_heap hh) law_own started (by kernel_rfl) Tryz.func5
    (ChangeSpec.witness_shaped (enc := enc) (C := Tryz.checked) (os := os) (X := fun w _ => laidMetH Tryz.prog Rows.scenarioParsesRow.laid w) false (World.laidAll Tryz.prog os Rows.scenarioParsesRow.laid) #[.string ⟨#[]⟩] 8 (World.laidAll_os _ _ _)
      (World.shaped_of_ZipB (by kernel_rfl) (by kernel_rfl)) (by kernel_rfl) (by kernel_rfl) (by kernel_rfl)
      (by rw [MakeChecks.laidMetH_plain _ _ _ (by kernel_rfl)]; exact laidMet_laidAll _ (by kernel_rfl) (by kernel_rfl))) ?_
  intro W base args ds gs before hval0 hW hcnd _ hL hsh _
  have hval : ∀ (j : Nat) t v, Tryz.f5.params[j]? = some t → args[j]? = some v → Value.okWide Tryz.prog W .any base t v := hval0
  have hW' := hW
  obtain ⟨p, q, hA0, hV, rfl, hfz, hnd⟩ := hW
  have hA : DataW.TrodAll enc Tryz.prog W 0 (fun _ => true) true Tryz.f5.params.toList args.toList ds p := hA0
  rw [Tryz.params5] at hA hval
  obtain ⟨v0, vs0, d0, ds0, p0, q0, hargs, rfl, rfl, h0, r0⟩ := trodAll_cons hA
  obtain ⟨rfl, rfl, rfl⟩ := trodAll_nil r0
  obtain rfl : args = #[v0] := by cases args; simp_all
  obtain ⟨rfl, rfl⟩ := trodVars_none hV
  have k0 := h0
  have lt0 : ∀ x ∈ p0, x.block < W.heap.size := by obtain ⟨m, hm⟩ := k0; exact DataW.trod_lt m _ _ _ hm
  obtain ⟨a0, rfl, _, _, w0⟩ := Go.ChangeMaps.open_string Tryz.underlying9 (hval 0 9 v0 rfl rfl) h0
  clear hA0 hval0
  refine (parses_walk a0 (env_of_laid (by kernel_rfl) (by simp [Rows.scenarioParsesRow]) (by simp [Rows.scenarioParsesRow]) (by simp [Rows.scenarioParsesRow]) hL hsh)).mono fun e W' ⟨he, ho⟩ => ?_
  subst he
  have bel : Below W.heap.size W W' := ho.nil_below
  exact ⟨_, rfl, _, _, _, [], _, [], hW', trodAll_mk1 (shut_bool Tryz.underlying4 _), (trodAll_cons_mk (Below.trod law_laidOut (by kernel_rfl) (of_decide_eq_true (by kernel_rfl)) k0 bel lt0) trodAll_mk0), rfl, bel.frame _, fun h => by cases h⟩

theorem scenarioParses_over : Rows.scenarioParsesRow.holds Tryz.pinned (OpenSpec.ofChange Rows.scenarioParsesSpec) :=
  OpenClaim.holds_of_wide 5 Tryz.f5 rfl rfl rfl rfl rfl rfl rfl ⟨rfl, rfl, rfl, rfl, rfl⟩ rfl rfl rfl rfl rfl (by kernel_rfl) Tryz.func5 (by kernel_rfl)
    (of_decide_eq_true (by kernel_rfl)) (by unfold Func.isWrapper; first | (rw [if_pos (by decide +kernel)]; kernel_rfl) | (rw [if_neg (by decide +kernel)]; exact ⟨rfl, rfl⟩))
    (fun os started H enc _ => scenarioParses_lifted os started H enc)

theorem scenarioParses_holds : Rows.ScenarioParsesCardSaid :=
  Claim7.holds_tied_plain_at .later [] [.data, .data, .data, .data, .sentinel, .sentinel, .pinned] true (true, "ad56d0d74317d7d29a88cd7d6ee526fd1d84a70b822a4bf7753bf90f46e7eb24") true scenarioParses_over (fun _ h => by cases h) (by kernel_rfl) (fun _ h => by cases h) scenarioParses_row_tie rfl ⟨rfl, rfl⟩ (by kernel_rfl) rfl
    (fun f fn hf hfn => by
      obtain rfl : f = 5 := Option.some.inj ((show Tryz.prog.funcNamed "timesync/timesynclaw56.ScenarioParses" = some 5 by kernel_rfl).symm.trans hf) |>.symm
      obtain rfl : fn = Tryz.f5 := (Option.some.inj (Tryz.func5.symm.trans hfn)).symm
      exact ⟨by kernel_rfl, fun j t ht => by
        rw [Tryz.params5] at ht
        have hm : t ∈ [9] := by simpa using Array.mem_of_getElem? ht
        have hall : ([9].all fun u => !Tryz.prog.wantsStandIn u) = true := by kernel_rfl
        exact (show Tryz.prog.wantsStandIn t = false by simpa using List.all_eq_true.1 hall t hm)⟩)
    (by kernel_rfl)
end Go.Proofs.YthmeifdgkodjlaaGreatDoor
