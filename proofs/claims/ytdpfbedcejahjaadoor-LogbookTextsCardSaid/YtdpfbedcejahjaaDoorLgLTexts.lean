/- LogbookTexts: Text of package logbook returns what the reference returns, for every log. Conditions: those of the given row. -/
import Derived.Test.YtdpfbedcejahjaaDoorLf
import Derived.Test.YtdpfbedcejahjaaDoorRl
namespace Go.Proofs.YtdpfbedcejahjaaDoor
open Go.ChangeShapes Go.WideShapes Go.ChangeAt Go.RowKit

set_option maxRecDepth 100000 in
set_option maxHeartbeats 1000000 in
theorem texts_walk {w : World} {p : Option Addr} {n cap : Nat} {l : List En} (hv : VRow enC 6 w p n cap l) (he : Env w) :
    Calls Tryd.prog 7 #[.slice p n cap] w fun e w' => e = .returned (.bool true) ∧ Only [] w w' := by
  have HE := Lib.hid he; have HV := Lib.hid hv
  clear he hv
  by_cases h600 : 600 < n
  · have d : decide (600 < (n : Int)) = true := by simp; omega
    have d' : decide (600 < n) = true := by simp; omega
    go_enter Tryd.func7, Tryd.ntmps7
    go_wp2_with fail
    refine (awake_any w HE.out).mono ?_
    rintro e w3 ⟨rfl, ho3⟩
    go_wp2
    go_ret
    exact ⟨rfl, ho3⟩
  · have d : decide (600 < (n : Int)) = false := by simp; omega
    have d' : decide (600 < n) = false := by simp; omega
    have hn : n ≤ 100000 := by omega
    have h1 := Ptext HV.out hn HE.out
    have h2 := fun w' (ho : Only [] w w') => Rtext (HV.out.kept ho) hn
    obtain ⟨X, hX⟩ : ∃ X, X = bstr (txtR l).1 := ⟨_, rfl⟩
    obtain ⟨q, hq⟩ : ∃ q, q = (txtR l).2 := ⟨_, rfl⟩
    rw [← hX, ← hq] at h1 h2
    have H1 := Lib.hid h1; have H2 := Lib.hid h2
    clear h1 h2 hX hq
    go_enter Tryd.func7, Tryd.ntmps7
    go_wp2_with fail
    with_reducible refine H1.out.mono ?_
    rintro e w1 ⟨rfl, ho1⟩
    have O1 := Lib.hid ho1
    clear ho1
    go_wp2_with fail
    with_reducible refine (H2.out w1 O1.out).mono ?_
    rintro e w2 ⟨rfl, ho2⟩
    have O2 := Lib.hid (O1.out.nil_trans ho2)
    clear ho2 O1
    go_wp2_with fail
    refine (awake_any w2 (HE.out.kept O2.out)).mono ?_
    rintro e w4 ⟨rfl, ho4⟩
    go_wp2
    go_ret
    exact ⟨rfl, O2.out.nil_trans ho4⟩

set_option maxRecDepth 100000 in
theorem logbookTexts_lifted (os : Os) (started : os.Started) (H : Type) (enc : TypeId × Value → H) :
    ReturnsInHanded {} Tryd.checked os 7 .any (fun w args => (Rows.logbookTextsSpec.pre enc Tryd.prog Tryd.f7 Rows.logbookTextsRow.domain false w args ∧ laidMetH Tryd.prog Rows.logbookTextsRow.laid w) ∧ sizedMet enc Tryd.prog Tryd.f7 (OpenSpec.ofChange Rows.logbookTextsSpec) false w args)
      (Rows.logbookTextsSpec.post enc Tryd.prog Tryd.f7 false true false false) := by
  refine returnsInHanded_of_change_and_shaped (C := Tryd.checked) (X := fun w _ => laidMetH Tryd.prog Rows.logbookTextsRow.laid w) (fun _ _ _ hh h => h.of_heap hh) law_own started (by kernel_rfl) Tryd.func7
    (ChangeSpec.witness_shaped (enc := enc) (C := Tryd.checked) (os := os) (X := fun w _ => laidMetH Tryd.prog Rows.logbookTextsRow.laid w) false (World.laidAll Tryd.prog os Rows.logbookTextsRow.laid) #[.slice none 0 0] 8 (World.laidAll_os _ _ _)
      (World.shaped_of_ZipB (by kernel_rfl) (by kernel_rfl)) (by kernel_rfl) (by kernel_rfl) (by kernel_rfl)
      (by rw [MakeChecks.laidMetH_plain _ _ _ (by kernel_rfl)]; exact laidMet_laidAll _ (by kernel_rfl) (by kernel_rfl))) ?_
  intro W base args ds gs before hval0 hW hcnd _ hL hsh _
  have hval : ∀ (j : Nat) t v, Tryd.f7.params[j]? = some t → args[j]? = some v → Value.okWide Tryd.prog W .any base t v := hval0
  have hW' := hW
  obtain ⟨p, q, hA0, hV, rfl, hfz, hnd⟩ := hW
  have hA : DataW.TrodAll enc Tryd.prog W 0 (fun _ => true) true Tryd.f7.params.toList args.toList ds p := hA0
  rw [Tryd.params7] at hA hval
  obtain ⟨v0, vs0, d0, ds0, p0, q0, hargs, rfl, rfl, h0, r0⟩ := trodAll_cons hA
  obtain ⟨rfl, rfl, rfl⟩ := trodAll_nil r0
  obtain rfl : args = #[v0] := by cases args; simp_all
  obtain ⟨rfl, rfl⟩ := trodVars_none hV
  have k0 := h0
  have lt0 : ∀ x ∈ p0, x.block < W.heap.size := by obtain ⟨m, hm⟩ := k0; exact DataW.trod_lt m _ _ _ hm
  obtain ⟨a0, len0, cap0, rfl⟩ := okWide_slice Tryd.underlying22 (hval 0 22 v0 rfl rfl)
  obtain ⟨z0, w0⟩ := vrow_entries h0
  clear hA0 hval0
  refine (texts_walk w0 (env_of_laid (by kernel_rfl) (by simp [Rows.logbookTextsRow]) (by simp [Rows.logbookTextsRow]) (by simp [Rows.logbookTextsRow]) hL hsh)).mono fun e W' ⟨he, ho⟩ => ?_
  subst he
  have bel : Below W.heap.size W W' := ho.nil_below
  exact ⟨_, rfl, _, _, _, [], _, [], hW', trodAll_mk1 (shut_bool Tryd.underlying4 _), (trodAll_cons_mk (Below.trod law_laidOut (by kernel_rfl) (of_decide_eq_true (by kernel_rfl)) k0 bel lt0) trodAll_mk0), rfl, bel.frame _, fun h => by cases h⟩

theorem logbookTexts_over : Rows.logbookTextsRow.holds Tryd.pinned (OpenSpec.ofChange Rows.logbookTextsSpec) :=
  OpenClaim.holds_of_wide 7 Tryd.f7 rfl rfl rfl rfl rfl rfl rfl ⟨rfl, rfl, rfl, rfl, rfl⟩ rfl rfl rfl rfl rfl (by kernel_rfl) Tryd.func7 (by kernel_rfl)
    (of_decide_eq_true (by kernel_rfl)) (by unfold Func.isWrapper; first | (rw [if_pos (by decide +kernel)]; kernel_rfl) | (rw [if_neg (by decide +kernel)]; exact ⟨rfl, rfl⟩))
    (fun os started H enc _ => logbookTexts_lifted os started H enc)

theorem logbookTexts_holds : Rows.LogbookTextsCardSaid :=
  Claim7.holds_tied_plain_at .later [] [.data, .data, .data, .data, .sentinel, .sentinel, .pinned] true (true, "564874f31a2064b56c5f0939af7266e812ae2367ef2df6b2e37e04df0403260a") true logbookTexts_over (fun _ h => by cases h) (by kernel_rfl) (fun _ h => by cases h) logbookTexts_row_tie rfl ⟨rfl, rfl⟩ (by kernel_rfl) rfl
    (fun f fn hf hfn => by
      obtain rfl : f = 7 := Option.some.inj ((show Tryd.prog.funcNamed "timesync/timesynclaw50.LogbookTexts" = some 7 by kernel_rfl).symm.trans hf) |>.symm
      obtain rfl : fn = Tryd.f7 := (Option.some.inj (Tryd.func7.symm.trans hfn)).symm
      exact ⟨by kernel_rfl, fun j t ht => by
        rw [Tryd.params7] at ht
        have hm : t ∈ [22] := by simpa using Array.mem_of_getElem? ht
        have hall : ([22].all fun u => !Tryd.prog.wantsStandIn u) = true := by kernel_rfl
        exact (show Tryd.prog.wantsStandIn t = false by simpa using List.all_eq_true.1 hall t hm)⟩)
    (by kernel_rfl)
end Go.Proofs.YtdpfbedcejahjaaDoor
