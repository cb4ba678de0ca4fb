/- AgendaLimits: a queue takes as many events as its limit: the law returns true for every input. No condition. -/
import Derived.Test.YtpiilepmaomfeaaAgA
import Derived.Test.YtpiilepmaomfeaaLaw
namespace Go.Proofs.Ytpiilepmaomfeaa
open Go.ChangeShapes Go.WideShapes Go.ChangeAt Go.RowKit

/-- after `k` pushes at one time -/
structure Lim (w wr : World) (q : Nat) (lim at_ : Int) (k : Nat) : Prop where
  ex : ∃ F l, Que wr q F lim 0 k l ∧ l.length = k ∧ (∀ e ∈ l, e.t = at_) ∧ (0 < k → ∃ e ∈ l, e.i = 1) ∧ (∀ b ∈ F, w.heap.size ≤ b)
  only : Only [] w wr

set_option maxRecDepth 100000 in
set_option maxHeartbeats 2000000 in
theorem limits_walk (a0 a1 : Int) (_wf0 : (Lit.int .i64 a0).wf = true) (wf1 : (Lit.int .u16 a1).wf = true) (w : World) :
    Calls Try.prog 4 #[.int .i64 a0, .int .u16 a1] w fun e w' => e = .returned (.bool true) ∧ Only [] w w' := by
  obtain ⟨hlo, hhi⟩ := bounds_u16 wf1
  clear wf1
  by_cases hout : a0 < 1 ∨ 4096 < a0
  · rcases hout with h | h
    · go_enter Try.func4, Try.ntmps4
      go_wp2_with fail
      refine (new_no a0 w (.inl h)).mono ?_
      rintro e w1 ⟨rfl, rfl⟩
      go_wp2_with fail
      refine (awake_any _).mono ?_
      rintro e w2 ⟨rfl, ho2⟩
      go_wp2
      go_ret
      exact ⟨rfl, ho2⟩
    · have h1 : ¬ a0 < 1 := by omega
      go_enter Try.func4, Try.ntmps4
      go_wp2_with fail
      refine (new_no a0 w (.inr h)).mono ?_
      rintro e w1 ⟨rfl, rfl⟩
      go_wp2_with fail
      refine (awake_any _).mono ?_
      rintro e w2 ⟨rfl, ho2⟩
      go_wp2
      go_ret
      exact ⟨rfl, ho2⟩
  · have h1 : 1 ≤ a0 := by omega
    have h2 : a0 ≤ 4096 := by omega
    obtain ⟨n, rfl⟩ : ∃ n : Nat, a0 = (n : Int) := ⟨a0.toNat, by omega⟩
    clear hout
    go_enter Try.func4, Try.ntmps4
    go_wp2_with fail
    refine (new_ok n w h1 h2).mono ?_
    rintro e w1 ⟨rfl, hq1, ho1⟩
    have Q1 := Lib.hid hq1; clear hq1
    go_wp2
    go_loopw [31] (fun vi wr => ∃ k : Nat, vi = .int .i64 k ∧ k ≤ n ∧ Lim w wr w.heap.size n a1 k) (fun vi _ => n - (intOf vi).toNat)
    case atStart => exact ⟨0, rfl, Nat.zero_le _, ⟨⟨_, _, Q1.out, rfl, by simp, by simp, by simp⟩, ho1⟩⟩
    case round =>
      obtain ⟨k, rfl, hk, hlim⟩ := hrel
      obtain ⟨⟨F, l, hq, hl, ht, hi, hF⟩, ho⟩ := hlim
      have Q := Lib.hid hq; have L := Lib.hid hl; have T := Lib.hid ht; have I := Lib.hid hi; have FF := Lib.hid hF; have OO := Lib.hid ho
      clear hq hl ht hi hF ho
      by_cases hkn : k < n
      · go_wp2_with fail
        refine (push_ok Q.out a1 0 hlo hlo (by rw [L.out]; omega) (by omega) (by omega)).mono ?_
        rintro e w2 ⟨rfl, F2, l2, hq2, ho2, hF2, hl2, hm2⟩
        have Q2 := Lib.hid hq2; have FF2 := Lib.hid hF2; have L2 := Lib.hid hl2; have M2 := Lib.hid hm2; clear hq2 hF2 hl2 hm2
        go_wp2
        go_roundw
        case rel =>
          refine ⟨k + 1, by go_num, by omega, ⟨⟨F2, l2, by have := Q2.out; simpa using this, by rw [L2.out, L.out], ?_, ?_, ?_⟩, OO.out.trans ho2 (fun x hx => .inr (FF.out x hx))⟩⟩
          · intro e he
            rcases (M2.out e).1 he with rfl | h
            · rfl
            · exact T.out e h
          · intro _
            by_cases hk0 : k = 0
            · subst hk0; exact ⟨_, (M2.out _).2 (.inl rfl), rfl⟩
            · obtain ⟨e, he, hei⟩ := I.out (by omega)
              exact ⟨e, (M2.out e).2 (.inr he), hei⟩
          · intro b hb
            rcases FF2.out b hb with h | h
            · exact FF.out b h
            · have := OO.out.size; omega
        case measure => simp [intOf]; omega
      · have hkn' : k = n := by omega
        subst hkn'
        go_wp2_with fail
        refine (push_full Q.out a1 0 hlo hlo (by rw [L.out]; omega)).mono ?_
        rintro e w2 ⟨rfl, ho2⟩
        have Q2 := Lib.hid (Q.out.kept ho2 (by simp))
        go_wp2_with fail
        have hfirst := Q2.out.first (by rw [L.out]; omega)
        have hid : (el l 0).i = 1 := by
          obtain ⟨e, he, hei⟩ := I.out (by omega)
          have h3 := hfirst.2 e he
          have h4 := T.out e he
          have h5 := T.out _ hfirst.1
          have h6 := Q2.out.ids _ hfirst.1
          unfold ge at h3
          omega
        have htm : (el l 0).t = a1 := T.out _ hfirst.1
        have HID := Lib.hid hid; have HTM := Lib.hid htm; clear hid htm hfirst
        refine (pop_some Q2.out (by rw [L.out]; omega)).mono ?_
        rintro e w3 ⟨rfl, l3, hq3, ho3, hl3, hm3⟩
        rw [HTM.out] at hq3
        have Q3 := Lib.hid hq3; have L3 := Lib.hid hl3; clear hq3 hl3 hm3
        go_wp2_with fail
        refine alloc_abs (G := fun w0 => Calls _ _ _ w0 _) ?_
        intro w4 hb4 ho4 hs4
        have B4 := Lib.hid hb4; clear hb4 hs4
        have hs3 := ho3.size
        have hF3 : Hid (∀ b ∈ F, b < w3.heap.size) := fun b hb => by have := Q2.out.blocks b hb; omega
        refine (push_ok (Q3.out.kept ho4 (by simp)) a1 0 hlo (by omega) (by have := L3.out; have := L.out; omega) (by omega) (by omega)).mono ?_
        rintro e w5 ⟨rfl, F5, l5, hq5, ho5, hF5, hl5, hm5⟩
        have Q5 := Lib.hid hq5; have FF5 := Lib.hid hF5; have L5 := Lib.hid hl5; clear hq5 hF5 hl5 hm5
        have B5 := Lib.hid (box_kept B4.out ho5 (fun b hb => .inl (hF3.out b hb)))
        have g0 := cell_got B5.out 0
        have g1 := cell_got B5.out 1
        have g2 := cell_got B5.out 2
        have hone := HID.out
        have hl5 : (l5.length : Int) = k := by have := L5.out; have := L3.out; have := L.out; omega
        simp only [HID.out] at g1
        have HL5 := Lib.hid hl5; clear hl5 hone
        go_wp2_with fail
        refine (len_any Q5.out.rep).mono ?_
        rintro e w6 ⟨rfl, rfl⟩
        rw [HL5.out]
        go_wp2_with fail
        refine (awake_any _).mono ?_
        rintro e w7 ⟨rfl, ho7⟩
        go_wp2
        go_ret
        refine ⟨rfl, ?_⟩
        have eF : ∀ b ∈ F, b ∈ ([] : List Nat) ∨ w.heap.size ≤ b := fun b hb => .inr (FF.out b hb)
        exact ((((OO.out.nil_trans ho2).trans ho3 eF).nil_trans ho4).trans ho5 eF).nil_trans ho7
set_option maxRecDepth 100000 in
theorem agendaLimits_lifted (os : Os) (started : os.Started) (H : Type) (enc : TypeId × Value → H) :
    ReturnsInHanded {} Try.checked os 4 .any (Rows.agendaLimitsSpec.pre6 enc Try.prog Try.f4 Rows.agendaLimitsRow.domain false) (Rows.agendaLimitsSpec.post enc Try.prog Try.f4 false true false false) := by
  refine returnsInHanded_of_change (C := Try.checked) law_own started (by kernel_rfl) Try.func4
    (ChangeSpec.witness6 (enc := enc) (C := Try.checked) false ⟨#[], #[.int .i64 0, .int .u16 0], []⟩ 8 (by kernel_rfl) (by kernel_rfl) (by kernel_rfl) (by kernel_rfl)) ?_
  intro W base args ds gs before hval0 hW hcnd _
  have hval : ∀ (j : Nat) t v, Try.f4.params[j]? = some t → args[j]? = some v → Value.okWide Try.prog W .any base t v := hval0
  have hW' := hW
  obtain ⟨p, q, hA0, hV, rfl, hfz, hnd⟩ := hW
  have hA : DataW.TrodAll enc Try.prog W 0 (fun _ => true) true Try.f4.params.toList args.toList ds p := hA0
  rw [Try.params4] at hA hval
  obtain ⟨v0, vs0, d0, ds0, p0, q0, hargs, rfl, rfl, h0, r0⟩ := trodAll_cons hA
  obtain ⟨v1, vs1, d1, ds1, p1, q1, rfl, rfl, rfl, h1, r1⟩ := trodAll_cons r0
  obtain ⟨rfl, rfl, rfl⟩ := trodAll_nil r1
  obtain rfl : args = #[v0, v1] := by cases args; simp_all
  obtain ⟨rfl, rfl⟩ := trodVars_none hV
  obtain ⟨a0, rfl, rfl, rfl, w0⟩ := open_int Try.underlying3 (hval 0 3 v0 rfl rfl) h0
  obtain ⟨a1, rfl, rfl, rfl, w1⟩ := open_int Try.underlying25 (hval 1 25 v1 rfl rfl) h1
  clear hA0 hval0
  refine (limits_walk a0 a1 w0 w1 W).mono fun e W' ⟨he, ho⟩ => ?_
  subst he
  have bel : Below W.heap.size W W' := ho.nil_below
  exact ⟨_, rfl, _, _, _, [], _, [], hW', trodAll_mk1 (shut_bool Try.underlying4 _), (trodAll_cons_mk (shut_int Try.underlying3 w0) (trodAll_cons_mk (shut_int Try.underlying25 w1) trodAll_mk0)), rfl, bel.frame _, fun h => by cases h⟩

theorem agendaLimits_over : Rows.agendaLimitsRow.holds Try.pinned (OpenSpec.ofChange Rows.agendaLimitsSpec) :=
  OpenClaim.holds_of_wide 4 Try.f4 rfl rfl rfl rfl rfl rfl rfl ⟨rfl, rfl, rfl, rfl, rfl⟩ rfl rfl rfl rfl rfl (by kernel_rfl) Try.func4 (by kernel_rfl)
    (of_decide_eq_true (by kernel_rfl)) (by unfold Func.isWrapper; first | (rw [if_pos (by decide +kernel)]; kernel_rfl) | (rw [if_neg (by decide +kernel)]; exact ⟨rfl, rfl⟩))
    (fun os started H enc _ => agendaLimits_lifted os started H enc)

theorem agendaLimits_holds : Rows.AgendaLimitsSaid := agendaLimits_over
end Go.Proofs.Ytpiilepmaomfeaa
