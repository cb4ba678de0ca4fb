/- PtimeSums: what AddCorr returns is the sum in nanoseconds, or one more; a correction of whole nanoseconds is read back: the law returns true for every input. Condition: none but the tied tables of the library. -/
import Derived.Test.YtmkiojnhjfkepaaDoorPl
namespace Go.Proofs.YtmkiojnhjfkepaaDoor
open Go.ChangeShapes Go.WideShapes Go.ChangeAt Go.RowKit

theorem sums_d (a b : Int) : (a + b) / 65536 - a / 65536 - b / 65536 = 0 ∨ (a + b) / 65536 - a / 65536 - b / 65536 = 1 := by omega
theorem nanos_bd (a : Int) (a0 : -9223372036854775808 ≤ a) (a1 : a ≤ 9223372036854775807) : -140737488355328 ≤ a / 65536 ∧ a / 65536 ≤ 140737488355327 := by omega
theorem inI_true {n : Int} (h : inI n = true) : -9223372036854775808 ≤ n ∧ n ≤ 9223372036854775807 := by simpa [inI] using h


set_option maxRecDepth 100000 in
set_option maxHeartbeats 2000000 in
theorem sums_walk (a b : Int) (wa : (Lit.int .i64 a).wf = true) (wb : (Lit.int .i64 b).wf = true) (w : World) (ht : Tab w) :
    Calls Tryd.prog 5 #[.int .i64 a, .int .i64 b] w fun e w' => e = .returned (.bool true) ∧ Only [] w w' := by
  obtain ⟨a0, a1⟩ := i64_of_wf wa
  obtain ⟨b0, b1⟩ := i64_of_wf wb
  have HT := Lib.hid ht; clear ht wa wb
  have hcorr : Hid (corrE a = 0 → corrV a / 65536 = a ∧ -9223372036854775808 ≤ corrV a ∧ corrV a ≤ 9223372036854775807) := Lib.hid (by
    unfold corrE corrV
    intro h
    have hi : inI (a * 65536) = true := by
      cases hi : inI (a * 65536)
      · simp [hi] at h
      · rfl
    have := inI_true hi
    rw [orZ_yes this.1 this.2]
    omega)
  have hce : corrE a = 0 ∨ corrE a = 3 := by unfold corrE; split <;> simp
  cases hin : inI (a + b)
  · have hsat : satV a b = 9223372036854775807 ∨ satV a b = -9223372036854775808 := by
      unfold satV; simp only [hin, Bool.false_eq_true, if_false]; split <;> simp
    have hadd := Paddcorr a b w a0 a1 b0 b1
    rw [hin] at hadd
    generalize satV a b = S at hadd hsat
    have HA := Lib.hid hadd; clear hadd
    clear hin
    go_enter Tryd.func5, Tryd.ntmps5
    go_wp2_with fail
    refine HA.out.mono ?_
    rintro e w' ⟨rfl, rfl⟩
    rcases hsat with rfl | rfl
    all_goals
      go_wp2_with fail
      refine (Pcorr a _ a0 a1).mono ?_
      rintro e w' ⟨rfl, rfl⟩
      have hc := hcorr.out
      generalize corrV a = V at hc
      generalize corrE a = E at hc hce
      have HC := Lib.hid hc; clear hc
      rcases hce with rfl | rfl
      · obtain ⟨c1, c2, c3⟩ := HC.out rfl
        have hn := fun w => Pnanos_only V w c2 c3
        rw [c1] at hn
        have HN := Lib.hid hn
        clear c1 hn HC
        go_wp2_with fail
        refine (HN.out _).mono ?_
        rintro e w3 ⟨rfl, ho3⟩
        go_wp2_with fail
        refine (awake_any w3 (HT.out.kept ho3)).mono ?_
        rintro e w4 ⟨rfl, ho4⟩
        go_wp2_with fail
        go_ret
        exact ⟨rfl, ho3.nil_trans ho4⟩
      · clear HC
        go_wp2_with fail
        refine (awake_any w HT.out).mono ?_
        rintro e w4 ⟨rfl, ho4⟩
        go_wp2_with fail
        go_ret
        exact ⟨rfl, ho4⟩
  · have hadd := Paddcorr a b w a0 a1 b0 b1
    have hb := inI_true hin
    have hs : satV a b = a + b := by unfold satV; simp [hin]
    rw [hin, hs] at hadd
    have HA := Lib.hid hadd
    have HD := Lib.hid (sums_d a b)
    have n1 := nanos_bd (a + b) hb.1 hb.2
    have n2 := nanos_bd a a0 a1
    have n3 := nanos_bd b b0 b1
    clear hadd hin hs
    have HP1 := Lib.hid (fun w => Pnanos_only (a + b) w hb.1 hb.2)
    have HP2 := Lib.hid (fun w => Pnanos_only a w a0 a1)
    have HP3 := Lib.hid (fun w => Pnanos_only b w b0 b1)
    generalize (a + b) / 65536 = x at n1 HD HP1
    obtain ⟨y, hy⟩ : ∃ y, y = a / 65536 := ⟨_, rfl⟩
    obtain ⟨z, hz⟩ : ∃ z, z = b / 65536 := ⟨_, rfl⟩
    rw [← hy] at n2 HD HP2
    rw [← hz] at n3 HD HP3
    clear hy hz
    obtain ⟨n11, n12⟩ := n1
    obtain ⟨n21, n22⟩ := n2
    obtain ⟨n31, n32⟩ := n3
    go_enter Tryd.func5, Tryd.ntmps5
    go_wp2_with fail
    refine HA.out.mono ?_
    rintro e w' ⟨rfl, rfl⟩
    go_wp2_with fail
    refine (HP1.out w).mono ?_
    rintro e w1 ⟨rfl, ho1⟩
    go_wp2_with fail
    refine (HP2.out w1).mono ?_
    rintro e w2 ⟨rfl, ho2⟩
    go_wp2_with fail
    refine (HP3.out w2).mono ?_
    rintro e w3 ⟨rfl, ho3⟩
    have O3 := Lib.hid ((ho1.nil_trans ho2).nil_trans ho3)
    clear ho1 ho2 ho3
    have hd := HD.out
    have hd0 : x - y - z = 0 ∨ x - y - z = 1 := hd
    clear hd
    rcases hd0 with hd | hd
    all_goals
      go_wp2_with fail
      refine (Pcorr a _ a0 a1).mono ?_
      rintro e w' ⟨rfl, rfl⟩
      have hc := hcorr.out
      generalize corrV a = V at hc
      generalize corrE a = E at hc hce
      have HC := Lib.hid hc; clear hc
      rcases hce with rfl | rfl
      · obtain ⟨c1, c2, c3⟩ := HC.out rfl
        have hn := fun w => Pnanos_only V w c2 c3
        rw [c1] at hn
        have HN := Lib.hid hn
        clear c1 hn HC
        go_wp2_with fail
        refine (HN.out _).mono ?_
        rintro e w4 ⟨rfl, ho4⟩
        go_wp2_with fail
        refine (awake_any w4 (HT.out.kept (O3.out.nil_trans ho4))).mono ?_
        rintro e w5 ⟨rfl, ho5⟩
        go_wp2_with fail
        go_ret
        exact ⟨rfl, (O3.out.nil_trans ho4).nil_trans ho5⟩
      · clear HC
        go_wp2_with fail
        refine (awake_any w3 (HT.out.kept O3.out)).mono ?_
        rintro e w5 ⟨rfl, ho5⟩
        go_wp2_with fail
        go_ret
        exact ⟨rfl, O3.out.nil_trans ho5⟩

set_option maxRecDepth 100000 in
theorem ptimeSums_lifted (os : Os) (started : os.Started) (H : Type) (enc : TypeId × Value → H) :
    ReturnsInHanded {} Tryd.checked os 5 .any (fun w args => (Rows.ptimeSumsSpec.pre enc Tryd.prog Tryd.f5 Rows.ptimeSumsRow.domain false w args ∧ laidMetH Tryd.prog Rows.ptimeSumsRow.laid w) ∧ sizedMet enc Tryd.prog Tryd.f5 (OpenSpec.ofChange Rows.ptimeSumsSpec) false w args)
      (Rows.ptimeSumsSpec.post enc Tryd.prog Tryd.f5 false true false false) := by
  refine returnsInHanded_of_change_and (C := Tryd.checked) (X := fun w _ => laidMetH Tryd.prog Rows.ptimeSumsRow.laid w) (fun _ _ _ hh h => h.of_heap hh) law_own started (by kernel_rfl) Tryd.func5
    (ChangeSpec.witness_shaped (enc := enc) (C := Tryd.checked) (os := os) (X := fun w _ => laidMetH Tryd.prog Rows.ptimeSumsRow.laid w) false (World.laidAll Tryd.prog os Rows.ptimeSumsRow.laid) #[.int .i64 0, .int .i64 0] 8 (World.laidAll_os _ _ _)
      (World.shaped_of_ZipB (by kernel_rfl) (by kernel_rfl)) (by kernel_rfl) (by kernel_rfl) (by kernel_rfl)
      (by rw [MakeChecks.laidMetH_plain _ _ _ (by kernel_rfl)]; exact laidMet_laidAll _ (by kernel_rfl) (by kernel_rfl))) ?_
  intro W base args ds gs before hval0 hW hcnd _ hL _
  have hval : ∀ (j : Nat) t v, Tryd.f5.params[j]? = some t → args[j]? = some v → Value.okWide Tryd.prog W .any base t v := hval0
  have hW' := hW
  obtain ⟨p, q, hA0, hV, rfl, hfz, hnd⟩ := hW
  have hA : DataW.TrodAll enc Tryd.prog W 0 (fun _ => true) true Tryd.f5.params.toList args.toList ds p := hA0
  rw [Tryd.params5] at hA hval
  obtain ⟨v0, vs0, d0, ds0, p0, q0, hargs, rfl, rfl, h0, r0⟩ := trodAll_cons hA
  obtain ⟨v1, vs1, d1, ds1, p1, q1, rfl, rfl, rfl, h1, r1⟩ := trodAll_cons r0
  obtain ⟨rfl, rfl, rfl⟩ := trodAll_nil r1
  obtain rfl : args = #[v0, v1] := by cases args; simp_all
  obtain ⟨rfl, rfl⟩ := trodVars_none hV
  obtain ⟨a0, rfl, rfl, rfl, w0⟩ := open_int Tryd.underlying3 (hval 0 3 v0 rfl rfl) h0
  obtain ⟨a1, rfl, rfl, rfl, w1⟩ := open_int Tryd.underlying3 (hval 1 3 v1 rfl rfl) h1
  clear hA0 hval0
  refine (sums_walk a0 a1 w0 w1 W (tab_of_laid (by kernel_rfl) (by simp [Rows.ptimeSumsRow]) hL)).mono fun e W' ⟨he, ho⟩ => ?_
  subst he
  have bel : Below W.heap.size W W' := ho.nil_below
  exact ⟨_, rfl, _, _, _, [], _, [], hW', trodAll_mk1 (shut_bool Tryd.underlying4 _), (trodAll_cons_mk (shut_int Tryd.underlying3 w0) (trodAll_cons_mk (shut_int Tryd.underlying3 w1) trodAll_mk0)), rfl, bel.frame _, fun h => by cases h⟩

theorem ptimeSums_over : Rows.ptimeSumsRow.holds Tryd.pinned (OpenSpec.ofChange Rows.ptimeSumsSpec) :=
  OpenClaim.holds_of_wide 5 Tryd.f5 rfl rfl rfl rfl rfl rfl rfl ⟨rfl, rfl, rfl, rfl, rfl⟩ rfl rfl rfl rfl rfl (by kernel_rfl) Tryd.func5 (by kernel_rfl)
    (of_decide_eq_true (by kernel_rfl)) (by unfold Func.isWrapper; first | (rw [if_pos (by decide +kernel)]; kernel_rfl) | (rw [if_neg (by decide +kernel)]; exact ⟨rfl, rfl⟩))
    (fun os started H enc _ => ptimeSums_lifted os started H enc)

theorem ptimeSums_holds : Rows.PtimeSumsCardSaid :=
  Claim7.holds_tied_plain_at .later [] [.data, .data, .data] true (true, "4b5ff3d97fc2c89bd570ac74b8b16548d0b48ea7ffe4261ef3568e6d8c6ac2c2") true ptimeSums_over (fun _ h => by cases h) (by kernel_rfl) (fun _ h => by cases h) ptimeSums_row_tie rfl ⟨rfl, rfl⟩ (by kernel_rfl) rfl
    (fun f fn hf hfn => by
      obtain rfl : f = 5 := Option.some.inj ((show Tryd.prog.funcNamed "timesync/timesynclaw04.PtimeSums" = some 5 by kernel_rfl).symm.trans hf) |>.symm
      obtain rfl : fn = Tryd.f5 := (Option.some.inj (Tryd.func5.symm.trans hfn)).symm
      exact ⟨by kernel_rfl, fun j t ht => by
        rw [Tryd.params5] at ht
        have hm : t ∈ [3, 3] := by simpa using Array.mem_of_getElem? ht
        have hall : ([3, 3].all fun u => !Tryd.prog.wantsStandIn u) = true := by kernel_rfl
        exact (show Tryd.prog.wantsStandIn t = false by simpa using List.all_eq_true.1 hall t hm)⟩)
    (by kernel_rfl)
end Go.Proofs.YtmkiojnhjfkepaaDoor
