/- LogbookWrites: what Parse of package logbook reads is written by Text as the same text, for every text. Conditions: those of the given row. -/
import Derived.Test.YtdpfbedcejahjaaDoorLf
import Derived.Test.YtdpfbedcejahjaaDoorLy
namespace Go.Proofs.YtdpfbedcejahjaaDoor
open Go.ChangeShapes Go.WideShapes Go.ChangeAt Go.RowKit

theorem parP_err : ∀ {ps : List (List UInt8)} {n m : Nat}, parP ps n = .error m → n ≤ m
  | [], n, m, h => by simp only [parP] at h; injection h with h; omega
  | p :: r, n, m, h => by
    unfold parP at h
    split at h
    · split at h
      · cases h
      · injection h with h; omega
    · split at h
      · injection h with h; omega
      · split at h
        · cases h
        · rename_i h'
          injection h with h
          have := parP_err h'
          omega
theorem eChk_ne (e : En) : eChk e ≠ 19 := by
  unfold eChk
  split
  · decide
  · split
    · decide
    · split <;> decide
theorem ordE_ne : ∀ (l past : List En), ordE past l ≠ 19
  | [], _ => by simp [ordE]
  | e :: l, past => by
    unfold ordE
    split
    · decide
    · split
      · decide
      · exact ordE_ne l _
theorem onesE_ne : ∀ (l : List En), onesE l ≠ 19
  | [] => by simp [onesE]
  | e :: l => by
    unfold onesE
    split
    · exact onesE_ne l
    · exact eChk_ne e
theorem logE_ne (l : List En) : logE l ≠ 19 := by
  unfold logE
  split
  · decide
  · split
    · exact ordE_ne l []
    · exact onesE_ne l
/-- what Parse returns of a text that is not too long -/
theorem parR_cases {s : List UInt8} (hs : s.length ≤ 20000) : ((parR s).2.2 = 0 ∧ (parR s).2.1 = 0 ∧ txtR (parR s).1 = (s, 0)) ∨ ((parR s).2.2 = 19 ∧ 0 < (parR s).2.1 ∧ (parR s).1 = []) ∨ ((parR s).2.2 ≠ 0 ∧ (parR s).2.2 ≠ 19 ∧ (parR s).2.1 = 0 ∧ (parR s).1 = []) := by
  unfold parR
  rw [if_neg (by omega)]
  cases h : parL s with
  | error m =>
    right; left
    have := parP_err h
    exact ⟨rfl, by simp only; omega, rfl⟩
  | ok l =>
    simp only
    split
    · rename_i h0
      left
      refine ⟨rfl, rfl, ?_⟩
      unfold txtR
      rw [if_pos h0, parse_text h]
    · rename_i h0
      right; right
      exact ⟨h0, logE_ne l, rfl, rfl⟩

set_option maxRecDepth 100000 in
set_option maxHeartbeats 1000000 in
theorem writes_walk (S : ByteArray) (w : World) (he : Env w) :
    Calls Tryd.prog 9 #[.string S] w fun e w' => e = .returned (.bool true) ∧ Only [] w w' := by
  have HE := Lib.hid he
  clear he
  by_cases h : 20000 < S.size
  · have d : decide (20000 < (S.size : Int)) = true := by simp; omega
    have d' : decide (20000 < S.size) = true := by simp; omega
    go_enter Tryd.func9, Tryd.ntmps9
    go_wp2_with fail
    refine (awake_any w HE.out).mono ?_
    rintro e w3 ⟨rfl, ho3⟩
    go_wp2
    go_ret
    exact ⟨rfl, ho3⟩
  · have d : decide (20000 < (S.size : Int)) = false := by simp; omega
    have d' : decide (20000 < S.size) = false := by simp; omega
    have hsl : S.data.toList.length = S.size := by rw [Array.length_toList]; rfl
    have h1 := fun w he => Pparse S.data.toList (by omega) w he
    rw [bstr_of] at h1
    have hcs := parR_cases (s := S.data.toList) (by omega)
    have hlen : (parR S.data.toList).1.length ≤ 100000 := by
      unfold parR
      split
      · simp
      · split
        · simp
        · split
          · rename_i hz
            have := (logE_zero.1 hz).1
            simp only; omega
          · simp
    obtain ⟨⟨l, m, q⟩, hr⟩ : ∃ r, r = parR S.data.toList := ⟨_, rfl⟩
    rw [← hr] at h1 hlen hcs
    have H1 := Lib.hid h1
    clear h1 hr
    dsimp only at hlen hcs
    go_enter Tryd.func9, Tryd.ntmps9
    go_wp2_with fail
    with_reducible refine (H1.out w HE.out).mono ?_
    rintro e w1 ⟨⟨p1, cap1, rfl, hv1⟩, ho1⟩
    have O1 := Lib.hid ho1; have V1 := Lib.hid hv1
    clear ho1 hv1 H1
    dsimp only
    rcases hcs with ⟨rfl, rfl, hx⟩ | ⟨rfl, hm, rfl⟩ | ⟨hq0, hq19, rfl, rfl⟩
    · have h2 := Ptext V1.out hlen (HE.out.kept O1.out)
      rw [hx] at h2
      dsimp only at h2
      rw [bstr_of] at h2
      have H2 := Lib.hid h2
      clear h2 hx
      go_wp2_with fail
      with_reducible refine H2.out.mono ?_
      rintro e w2 ⟨rfl, ho2⟩
      have O2 := Lib.hid (O1.out.nil_trans ho2)
      clear ho2
      go_wp2_with fail
      refine (awake_any w2 (HE.out.kept O2.out)).mono ?_
      rintro e w4 ⟨rfl, ho4⟩
      go_wp2
      go_ret
      exact ⟨rfl, O2.out.nil_trans ho4⟩
    · have e1 : decide (0 < (m : Int)) = true := by simp; omega
      have e2 : decide (0 < m) = true := by simp; omega
      simp only [List.length_nil]
      go_wp2_with fail
      refine (awake_any w1 (HE.out.kept O1.out)).mono ?_
      rintro e w4 ⟨rfl, ho4⟩
      go_wp2
      go_ret
      exact ⟨rfl, O1.out.nil_trans ho4⟩
    · have e1 : (q == 0) = false := by simp [hq0]
      have e2 : (q != 0) = true := by simp [hq0]
      have e3 : (q == 19) = false := by simp [hq19]
      clear hq0 hq19
      simp only [List.length_nil]
      go_wp2_with fail
      refine (awake_any w1 (HE.out.kept O1.out)).mono ?_
      rintro e w4 ⟨rfl, ho4⟩
      go_wp2
      go_ret
      exact ⟨rfl, O1.out.nil_trans ho4⟩

set_option maxRecDepth 100000 in
theorem logbookWrites_lifted (os : Os) (started : os.Started) (H : Type) (enc : TypeId × Value → H) :
    ReturnsInHanded {} Tryd.checked os 9 .any (fun w args => (Rows.logbookWritesSpec.pre enc Tryd.prog Tryd.f9 Rows.logbookWritesRow.domain false w args ∧ laidMetH Tryd.prog Rows.logbookWritesRow.laid w) ∧ sizedMet enc Tryd.prog Tryd.f9 (OpenSpec.ofChange Rows.logbookWritesSpec) false w args)
      (Rows.logbookWritesSpec.post enc Tryd.prog Tryd.f9 false true false false) := by
  refine returnsInHanded_of_change_and_shaped (C := Tryd.checked) (X := fun w _ => laidMetH Tryd.prog Rows.logbookWritesRow.laid w) (fun _ _ _ hh h => h.of_heap hh) law_own started (by kernel_rfl) Tryd.func9
    (ChangeSpec.witness_shaped (enc := enc) (C := Tryd.checked) (os := os) (X := fun w _ => laidMetH Tryd.prog Rows.logbookWritesRow.laid w) false (World.laidAll Tryd.prog os Rows.logbookWritesRow.laid) #[.string ⟨#[]⟩] 8 (World.laidAll_os _ _ _)
      (World.shaped_of_ZipB (by kernel_rfl) (by kernel_rfl)) (by kernel_rfl) (by kernel_rfl) (by kernel_rfl)
      (by rw [MakeChecks.laidMetH_plain _ _ _ (by kernel_rfl)]; exact laidMet_laidAll _ (by kernel_rfl) (by kernel_rfl))) ?_
  intro W base args ds gs before hval0 hW hcnd _ hL hsh _
  have hval : ∀ (j : Nat) t v, Tryd.f9.params[j]? = some t → args[j]? = some v → Value.okWide Tryd.prog W .any base t v := hval0
  have hW' := hW
  obtain ⟨p, q, hA0, hV, rfl, hfz, hnd⟩ := hW
  have hA : DataW.TrodAll enc Tryd.prog W 0 (fun _ => true) true Tryd.f9.params.toList args.toList ds p := hA0
  rw [Tryd.params9] at hA hval
  obtain ⟨v0, vs0, d0, ds0, p0, q0, hargs, rfl, rfl, h0, r0⟩ := trodAll_cons hA
  obtain ⟨rfl, rfl, rfl⟩ := trodAll_nil r0
  obtain rfl : args = #[v0] := by cases args; simp_all
  obtain ⟨rfl, rfl⟩ := trodVars_none hV
  have k0 := h0
  have lt0 : ∀ x ∈ p0, x.block < W.heap.size := by obtain ⟨m, hm⟩ := k0; exact DataW.trod_lt m _ _ _ hm
  obtain ⟨a0, rfl, _, _, w0⟩ := Go.ChangeMaps.open_string Tryd.underlying9 (hval 0 9 v0 rfl rfl) h0
  clear hA0 hval0
  refine (writes_walk a0 W (env_of_laid (by kernel_rfl) (by simp [Rows.logbookWritesRow]) (by simp [Rows.logbookWritesRow]) (by simp [Rows.logbookWritesRow]) hL hsh)).mono fun e W' ⟨he, ho⟩ => ?_
  subst he
  have bel : Below W.heap.size W W' := ho.nil_below
  exact ⟨_, rfl, _, _, _, [], _, [], hW', trodAll_mk1 (shut_bool Tryd.underlying4 _), (trodAll_cons_mk (Below.trod law_laidOut (by kernel_rfl) (of_decide_eq_true (by kernel_rfl)) k0 bel lt0) trodAll_mk0), rfl, bel.frame _, fun h => by cases h⟩

theorem logbookWrites_over : Rows.logbookWritesRow.holds Tryd.pinned (OpenSpec.ofChange Rows.logbookWritesSpec) :=
  OpenClaim.holds_of_wide 9 Tryd.f9 rfl rfl rfl rfl rfl rfl rfl ⟨rfl, rfl, rfl, rfl, rfl⟩ rfl rfl rfl rfl rfl (by kernel_rfl) Tryd.func9 (by kernel_rfl)
    (of_decide_eq_true (by kernel_rfl)) (by unfold Func.isWrapper; first | (rw [if_pos (by decide +kernel)]; kernel_rfl) | (rw [if_neg (by decide +kernel)]; exact ⟨rfl, rfl⟩))
    (fun os started H enc _ => logbookWrites_lifted os started H enc)

theorem logbookWrites_holds : Rows.LogbookWritesCardSaid :=
  Claim7.holds_tied_plain_at .later [] [.data, .data, .data, .data, .sentinel, .sentinel, .pinned] true (true, "564874f31a2064b56c5f0939af7266e812ae2367ef2df6b2e37e04df0403260a") true logbookWrites_over (fun _ h => by cases h) (by kernel_rfl) (fun _ h => by cases h) logbookWrites_row_tie rfl ⟨rfl, rfl⟩ (by kernel_rfl) rfl
    (fun f fn hf hfn => by
      obtain rfl : f = 9 := Option.some.inj ((show Tryd.prog.funcNamed "timesync/timesynclaw50.LogbookWrites" = some 9 by kernel_rfl).symm.trans hf) |>.symm
      obtain rfl : fn = Tryd.f9 := (Option.some.inj (Tryd.func9.symm.trans hfn)).symm
      exact ⟨by kernel_rfl, fun j t ht => by
        rw [Tryd.params9] at ht
        have hm : t ∈ [9] := by simpa using Array.mem_of_getElem? ht
        have hall : ([9].all fun u => !Tryd.prog.wantsStandIn u) = true := by kernel_rfl
        exact (show Tryd.prog.wantsStandIn t = false by simpa using List.all_eq_true.1 hall t hm)⟩)
    (by kernel_rfl)
end Go.Proofs.YtdpfbedcejahjaaDoor
