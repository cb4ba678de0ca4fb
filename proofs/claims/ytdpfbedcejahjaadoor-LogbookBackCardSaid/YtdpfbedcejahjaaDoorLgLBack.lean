/- LogbookBack: a log is read back by Parse from what Text writes, and so is a beginning of it, for every log. Conditions: those of the given row. -/
import Derived.Test.YtdpfbedcejahjaaDoorLf
import Derived.Test.YtdpfbedcejahjaaDoorLe
import Derived.Test.YtdpfbedcejahjaaDoorLy
namespace Go.Proofs.YtdpfbedcejahjaaDoor
open Go.ChangeShapes Go.WideShapes Go.ChangeAt Go.RowKit

set_option maxRecDepth 100000 in
set_option maxHeartbeats 2000000 in
theorem back_walk {w : World} {p : Option Addr} {n cap : Nat} {l : List En} (hv : VRow enC 6 w p n cap l) (c : Int) (hc : (Lit.int .u16 c).wf = true) (he : Env w) :
    Calls Tryd.prog 8 #[.slice p n cap, .int .u16 c] w fun e w' => e = .returned (.bool true) ∧ Only [] w w' := by
  have hc2 : 0 ≤ c ∧ c ≤ 65535 := bounds_u16 hc
  clear hc
  have hl := hv.len
  have hnc := hv.le
  subst hl
  have HE := Lib.hid he; have HV := Lib.hid hv
  clear he hv
  by_cases h600 : 600 < l.length
  · have d : decide (600 < (l.length : Int)) = true := by simp; omega
    have d' : decide (600 < l.length) = true := by simp; omega
    go_enter Tryd.func8, Tryd.ntmps8
    go_wp2_with fail
    refine (awake_any w HE.out).mono ?_
    rintro e w3 ⟨rfl, ho3⟩
    go_wp2
    go_ret
    exact ⟨rfl, ho3⟩
  · have d : decide (600 < (l.length : Int)) = false := by simp; omega
    have d' : decide (600 < l.length) = false := by simp; omega
    have hn : l.length ≤ 100000 := by omega
    have h1 := Ptext HV.out hn HE.out
    by_cases h0 : logE l = 0
    · obtain ⟨k, hk⟩ : ∃ k : Nat, k = (c % ((l.length : Int) + 1)).toNat := ⟨_, rfl⟩
      have hkc : c % ((l.length : Int) + 1) = (k : Int) := by
        have := Int.emod_nonneg c (show ((l.length : Int) + 1) ≠ 0 by omega)
        omega
      have hkl : k ≤ l.length := by
        have := Int.emod_lt_of_pos c (show 0 < ((l.length : Int) + 1) by omega)
        omega
      have h2 := fun w' (ho : Only [] w w') => Ptext ((HV.out.kept ho).take k hkl) (by omega) (HE.out.kept ho)
      have hz := logE_zero.1 h0
      have htl := text_len hz.2.1
      rw [show txtR l = (textL l, 0) by unfold txtR; rw [if_pos h0]] at h1
      rw [show txtR (l.take k) = (textL (l.take k), 0) by unfold txtR; rw [if_pos (logE_take k h0)]] at h2
      have h3 := fun w' he => Pparse (textL l) (by omega) w' he
      have hpr : parR (textL l) = (l, 0, 0) := by
        unfold parR
        rw [if_neg (by omega)]
        have : parL (textL l) = .ok l := text_back 1 hz.2.1
        rw [this]
        simp [h0]
      rw [hpr] at h3
      dsimp only at h1 h2
      have hpf : textL (l.take k) = (textL l).take (textL (l.take k)).length := textL_take l k
      have hpl : (textL (l.take k)).length ≤ (textL l).length := by
        have := congrArg List.length hpf
        rw [List.length_take] at this; omega
      obtain ⟨X, hX⟩ : ∃ X, X = bstr (textL l) := ⟨_, rfl⟩
      obtain ⟨Y, hY⟩ : ∃ Y, Y = bstr (textL (l.take k)) := ⟨_, rfl⟩
      have hXs : X.size = (textL l).length := by rw [hX, bstr_size]
      have hYs : Y.size = (textL (l.take k)).length := by rw [hY, bstr_size]
      have hxy : X.extract 0 Y.size = Y := by
        rw [hYs, hX, hY]
        apply bstr_eq
        rw [Lib.extract_from_zero, bstr_data]
        exact hpf.symm
      rw [← hX] at h1 h3
      rw [← hY] at h2
      have hle : Y.size ≤ X.size := by omega
      have hX5 : X.size ≤ 65536 := by omega
      have d1 : decide (65536 < (X.size : Int)) = false := by simp; omega
      have d2 : decide (65536 < X.size) = false := by simp; omega
      have H1 := Lib.hid h1; have H2 := Lib.hid h2; have H3 := Lib.hid h3; have HKC := Lib.hid hkc
      clear h1 h2 h3 hX hY hXs hYs hpf hpl htl hz hpr h0 hk hkc
      go_enter Tryd.func8, Tryd.ntmps8
      go_wp2_with fail
      with_reducible refine H1.out.mono ?_
      rintro e w1 ⟨rfl, ho1⟩
      have O1 := Lib.hid ho1
      clear ho1 H1
      have hkc := HKC.out
      have hkcap : (k : Int) ≤ (cap : Int) := by omega
      go_wp2_with fail
      all_goals
        with_reducible refine (H2.out w1 O1.out).mono ?_
        rintro e w2 ⟨rfl, ho2⟩
        have O2 := Lib.hid (O1.out.nil_trans ho2)
        clear ho2
        go_wp2_with fail
        with_reducible refine (H3.out w2 (HE.out.kept O2.out)).mono ?_
        rintro e w3 ⟨⟨p3, cap3, rfl, hv3⟩, ho3⟩
        have O3 := Lib.hid (O2.out.nil_trans ho3); have V3 := Lib.hid hv3
        clear ho3 hv3
        dsimp only
        go_wp2_with fail
        have heq := Eqlogs (HV.out.kept O3.out) V3.out hn hn
        rw [decide_eq_true rfl] at heq
        have HEQ := Lib.hid heq
        clear heq
        with_reducible refine HEQ.out.mono ?_
        rintro e w4 ⟨rfl, ho4⟩
        have O4 := Lib.hid (O3.out.nil_trans ho4)
        clear ho4
        go_wp2_with fail
        refine (awake_any w4 (HE.out.kept O4.out)).mono ?_
        rintro e w5 ⟨rfl, ho5⟩
        go_wp2
        go_ret
        exact ⟨rfl, O4.out.nil_trans ho5⟩
    · rw [show txtR l = ([], 2) by unfold txtR; rw [if_neg h0]] at h1
      dsimp only at h1
      rw [show bstr [] = ⟨#[]⟩ from rfl] at h1
      have b1 : (logE l == 0) = false := by simp [h0]
      have b2 : (logE l != 0) = true := by simp [h0]
      have H1 := Lib.hid h1
      clear h1 h0
      go_enter Tryd.func8, Tryd.ntmps8
      go_wp2_with fail
      with_reducible refine H1.out.mono ?_
      rintro e w1 ⟨rfl, ho1⟩
      have O1 := Lib.hid ho1
      clear ho1 H1
      go_wp2_with fail
      refine (Pcheck (HV.out.kept O1.out) hn).mono ?_
      rintro e w2 ⟨rfl, ho2⟩
      have O2 := Lib.hid (O1.out.nil_trans ho2)
      clear ho2
      go_wp2_with fail
      refine (awake_any w2 (HE.out.kept O2.out)).mono ?_
      rintro e w4 ⟨rfl, ho4⟩
      go_wp2
      go_ret
      exact ⟨rfl, O2.out.nil_trans ho4⟩

set_option maxRecDepth 100000 in
theorem logbookBack_lifted (os : Os) (started : os.Started) (H : Type) (enc : TypeId × Value → H) :
    ReturnsInHanded {} Tryd.checked os 8 .any (fun w args => (Rows.logbookBackSpec.pre enc Tryd.prog Tryd.f8 Rows.logbookBackRow.domain false w args ∧ laidMetH Tryd.prog Rows.logbookBackRow.laid w) ∧ sizedMet enc Tryd.prog Tryd.f8 (OpenSpec.ofChange Rows.logbookBackSpec) false w args)
      (Rows.logbookBackSpec.post enc Tryd.prog Tryd.f8 false true false false) := by
  refine returnsInHanded_of_change_and_shaped (C := Tryd.checked) (X := fun w _ => laidMetH Tryd.prog Rows.logbookBackRow.laid w) (fun _ _ _ hh h => h.of_heap hh) law_own started (by kernel_rfl) Tryd.func8
    (ChangeSpec.witness_shaped (enc := enc) (C := Tryd.checked) (os := os) (X := fun w _ => laidMetH Tryd.prog Rows.logbookBackRow.laid w) false (World.laidAll Tryd.prog os Rows.logbookBackRow.laid) #[.slice none 0 0, .int .u16 0] 8 (World.laidAll_os _ _ _)
      (World.shaped_of_ZipB (by kernel_rfl) (by kernel_rfl)) (by kernel_rfl) (by kernel_rfl) (by kernel_rfl)
      (by rw [MakeChecks.laidMetH_plain _ _ _ (by kernel_rfl)]; exact laidMet_laidAll _ (by kernel_rfl) (by kernel_rfl))) ?_
  intro W base args ds gs before hval0 hW hcnd _ hL hsh _
  have hval : ∀ (j : Nat) t v, Tryd.f8.params[j]? = some t → args[j]? = some v → Value.okWide Tryd.prog W .any base t v := hval0
  have hW' := hW
  obtain ⟨p, q, hA0, hV, rfl, hfz, hnd⟩ := hW
  have hA : DataW.TrodAll enc Tryd.prog W 0 (fun _ => true) true Tryd.f8.params.toList args.toList ds p := hA0
  rw [Tryd.params8] at hA hval
  obtain ⟨v0, vs0, d0, ds0, p0, q0, hargs, rfl, rfl, h0, r0⟩ := trodAll_cons hA
  obtain ⟨v1, vs1, d1, ds1, p1, q1, rfl, rfl, rfl, h1, r1⟩ := trodAll_cons r0
  obtain ⟨rfl, rfl, rfl⟩ := trodAll_nil r1
  obtain rfl : args = #[v0, v1] := by cases args; simp_all
  obtain ⟨rfl, rfl⟩ := trodVars_none hV
  have k0 := h0
  have lt0 : ∀ x ∈ p0, x.block < W.heap.size := by obtain ⟨m, hm⟩ := k0; exact DataW.trod_lt m _ _ _ hm
  obtain ⟨a0, len0, cap0, rfl⟩ := okWide_slice Tryd.underlying22 (hval 0 22 v0 rfl rfl)
  obtain ⟨z0, w0⟩ := vrow_entries h0
  obtain ⟨a1, rfl, rfl, rfl, w1⟩ := open_int Tryd.underlying40 (hval 1 40 v1 rfl rfl) h1
  clear hA0 hval0
  refine (back_walk w0 a1 w1 (env_of_laid (by kernel_rfl) (by simp [Rows.logbookBackRow]) (by simp [Rows.logbookBackRow]) (by simp [Rows.logbookBackRow]) hL hsh)).mono fun e W' ⟨he, ho⟩ => ?_
  subst he
  have bel : Below W.heap.size W W' := ho.nil_below
  exact ⟨_, rfl, _, _, _, [], _, [], hW', trodAll_mk1 (shut_bool Tryd.underlying4 _), (trodAll_cons_mk (Below.trod law_laidOut (by kernel_rfl) (of_decide_eq_true (by kernel_rfl)) k0 bel lt0) (trodAll_cons_mk (shut_int Tryd.underlying40 w1) trodAll_mk0)), rfl, bel.frame _, fun h => by cases h⟩

theorem logbookBack_over : Rows.logbookBackRow.holds Tryd.pinned (OpenSpec.ofChange Rows.logbookBackSpec) :=
  OpenClaim.holds_of_wide 8 Tryd.f8 rfl rfl rfl rfl rfl rfl rfl ⟨rfl, rfl, rfl, rfl, rfl⟩ rfl rfl rfl rfl rfl (by kernel_rfl) Tryd.func8 (by kernel_rfl)
    (of_decide_eq_true (by kernel_rfl)) (by unfold Func.isWrapper; first | (rw [if_pos (by decide +kernel)]; kernel_rfl) | (rw [if_neg (by decide +kernel)]; exact ⟨rfl, rfl⟩))
    (fun os started H enc _ => logbookBack_lifted os started H enc)

theorem logbookBack_holds : Rows.LogbookBackCardSaid :=
  Claim7.holds_tied_plain_at .later [] [.data, .data, .data, .data, .sentinel, .sentinel, .pinned] true (true, "564874f31a2064b56c5f0939af7266e812ae2367ef2df6b2e37e04df0403260a") true logbookBack_over (fun _ h => by cases h) (by kernel_rfl) (fun _ h => by cases h) logbookBack_row_tie rfl ⟨rfl, rfl⟩ (by kernel_rfl) rfl
    (fun f fn hf hfn => by
      obtain rfl : f = 8 := Option.some.inj ((show Tryd.prog.funcNamed "timesync/timesynclaw50.LogbookBack" = some 8 by kernel_rfl).symm.trans hf) |>.symm
      obtain rfl : fn = Tryd.f8 := (Option.some.inj (Tryd.func8.symm.trans hfn)).symm
      exact ⟨by kernel_rfl, fun j t ht => by
        rw [Tryd.params8] at ht
        have hm : t ∈ [22, 40] := by simpa using Array.mem_of_getElem? ht
        have hall : ([22, 40].all fun u => !Tryd.prog.wantsStandIn u) = true := by kernel_rfl
        exact (show Tryd.prog.wantsStandIn t = false by simpa using List.all_eq_true.1 hall t hm)⟩)
    (by kernel_rfl)
end Go.Proofs.YtdpfbedcejahjaaDoor
