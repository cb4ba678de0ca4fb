/- AgendaNobody: a nil queue returns ErrNil and nothing, a zero Queue is full: the law returns true for every input. No condition. -/
import Derived.Test.YtpiilepmaomfeaaAgA
import Derived.Test.YtpiilepmaomfeaaLaw
namespace Go.Proofs.Ytpiilepmaomfeaa
open Go.ChangeShapes Go.WideShapes Go.ChangeAt Go.RowKit

set_option maxRecDepth 100000 in
set_option maxHeartbeats 2000000 in
theorem nobody_walk (a0 a1 : Int) (_wf0 : (Lit.int .i64 a0).wf = true) (wf1 : (Lit.int .i64 a1).wf = true) (w : World) :
    Calls Try.prog 9 #[.int .i64 a0, .int .i64 a1] w fun e w' => e = .returned (.bool true) ∧ Only [] w w' := by
  go_enter Try.func9, Try.ntmps9
  go_wp2_with fail
  refine alloc_abs (G := fun w0 => Calls _ _ _ w0 _) ?_
  intro w1 hz1 ho1 hs1
  refine (push_nil a0 a1 w1).mono ?_
  rintro e w2 ⟨rfl, rfl⟩
  have Z1 := Lib.hid hz1; have S1 := Lib.hid hs1; clear hz1 hs1
  go_wp2_with fail
  refine (pop_nil w1).mono ?_
  rintro e w3 ⟨rfl, ho3⟩
  go_wp2_with fail
  refine alloc_abs (G := fun w0 => Calls _ _ _ w0 _) ?_
  intro w4 hb4 ho4 hs4
  have B4 := Lib.hid hb4; clear hb4 hs4
  refine (peek_nil w4).mono ?_
  rintro e w5 ⟨rfl, ho5⟩
  go_wp2_with fail
  refine alloc_abs (G := fun w0 => Calls _ _ _ w0 _) ?_
  intro w6 hb6 ho6 hs6
  have B6 := Lib.hid hb6; clear hb6 hs6
  have o16 := Lib.hid (((ho3.nil_trans ho4).nil_trans ho5).nil_trans ho6)
  have Z6 := Lib.hid (o16.out.got Z1.out (by simp))
  have hq : QRep w6 w.heap.size [w.heap.size] (.int .i64 0) (.int .i64 0) (.int .i64 0) [] := .inl ⟨rfl, rfl, Z6.out⟩
  have hQ : Que w6 w.heap.size [w.heap.size] 0 0 0 [] := ⟨hq, fun j h1 h2 => by simp at h2, by simp, by simp, by omega⟩
  have HQ := Lib.hid hQ; clear hQ hq
  clear Z6
  by_cases hneg : a0 < 0
  · have ho7 : Only [] w6 w6 := Only.refl _ _
    refine (push_range w.heap.size a0 a1 w6 hneg).mono ?_
    rintro e w7 ⟨rfl, rfl⟩
    have Q7 := Lib.hid (HQ.out.kept ho7 (by simp))
    go_wp2_with fail
    refine (pop_none Q7.out.rep).mono ?_
    rintro e w8 ⟨rfl, ho8⟩
    have Q8 := Lib.hid (Q7.out.kept ho8 (by simp))
    have b46 := Lib.hid ((ho5.nil_trans ho6).nil_trans (ho7.nil_trans ho8))
    have x4 := b46.out.got B4.out (by simp)
    have x6 := (ho7.nil_trans ho8).got B6.out (by simp)
    have g0 := cell_got x4 0; have g1 := cell_got x4 1; have g2 := cell_got x4 2
    have i0 := cell_got x6 0; have i1 := cell_got x6 1; have i2 := cell_got x6 2
    have n4 := got_lt x4
    have n6 := got_lt x6
    have OO := Lib.hid ((ho1.nil_trans o16.out).nil_trans (ho7.nil_trans ho8))
    clear x4 x6
    go_wp2_with fail
    refine (cancel_nil a1 _).mono ?_
    rintro e w9 ⟨rfl, rfl⟩
    go_wp2_with fail
    refine (len_nil _).mono ?_
    rintro e w9 ⟨rfl, rfl⟩
    go_wp2_with fail
    refine alloc_abs (G := fun w0 => Calls _ _ _ w0 _) ?_
    intro w10 hb10 ho10 hs10
    clear hb10 hs10
    have Q10 := Lib.hid (Q8.out.kept ho10 (by simp))
    refine (cancel_no Q10.out.rep a1 wf1 (by simp)).mono ?_
    rintro e w9 ⟨rfl, rfl⟩
    go_wp2_with fail
    refine (len_any Q10.out.rep).mono ?_
    rintro e w9 ⟨rfl, rfl⟩
    go_wp2_with fail
    refine (awake_any _).mono ?_
    rintro e w11 ⟨rfl, ho11⟩
    go_wp2
    go_ret
    exact ⟨rfl, (OO.out.nil_trans ho10).nil_trans ho11⟩
  · refine (push_full HQ.out a0 a1 (by omega) (by omega) (by simp)).mono ?_
    rintro e w7 ⟨rfl, ho7⟩
    have Q7 := Lib.hid (HQ.out.kept ho7 (by simp))
    go_wp2_with fail
    refine (pop_none Q7.out.rep).mono ?_
    rintro e w8 ⟨rfl, ho8⟩
    have Q8 := Lib.hid (Q7.out.kept ho8 (by simp))
    have b46 := Lib.hid ((ho5.nil_trans ho6).nil_trans (ho7.nil_trans ho8))
    have x4 := b46.out.got B4.out (by simp)
    have x6 := (ho7.nil_trans ho8).got B6.out (by simp)
    have g0 := cell_got x4 0; have g1 := cell_got x4 1; have g2 := cell_got x4 2
    have i0 := cell_got x6 0; have i1 := cell_got x6 1; have i2 := cell_got x6 2
    have n4 := got_lt x4
    have n6 := got_lt x6
    have OO := Lib.hid ((ho1.nil_trans o16.out).nil_trans (ho7.nil_trans ho8))
    clear x4 x6
    go_wp2_with fail
    refine (cancel_nil a1 _).mono ?_
    rintro e w9 ⟨rfl, rfl⟩
    go_wp2_with fail
    refine (len_nil _).mono ?_
    rintro e w9 ⟨rfl, rfl⟩
    go_wp2_with fail
    refine alloc_abs (G := fun w0 => Calls _ _ _ w0 _) ?_
    intro w10 hb10 ho10 hs10
    clear hb10 hs10
    have Q10 := Lib.hid (Q8.out.kept ho10 (by simp))
    refine (cancel_no Q10.out.rep a1 wf1 (by simp)).mono ?_
    rintro e w9 ⟨rfl, rfl⟩
    go_wp2_with fail
    refine (len_any Q10.out.rep).mono ?_
    rintro e w9 ⟨rfl, rfl⟩
    go_wp2_with fail
    refine (awake_any _).mono ?_
    rintro e w11 ⟨rfl, ho11⟩
    go_wp2
    go_ret
    exact ⟨rfl, (OO.out.nil_trans ho10).nil_trans ho11⟩

set_option maxRecDepth 100000 in
theorem agendaNobody_lifted (os : Os) (started : os.Started) (H : Type) (enc : TypeId × Value → H) :
    ReturnsInHanded {} Try.checked os 9 .any (Rows.agendaNobodySpec.pre6 enc Try.prog Try.f9 Rows.agendaNobodyRow.domain false) (Rows.agendaNobodySpec.post enc Try.prog Try.f9 false true false false) := by
  refine returnsInHanded_of_change (C := Try.checked) law_own started (by kernel_rfl) Try.func9
    (ChangeSpec.witness6 (enc := enc) (C := Try.checked) false ⟨#[], #[.int .i64 0, .int .i64 0], []⟩ 8 (by kernel_rfl) (by kernel_rfl) (by kernel_rfl) (by kernel_rfl)) ?_
  intro W base args ds gs before hval0 hW hcnd _
  have hval : ∀ (j : Nat) t v, Try.f9.params[j]? = some t → args[j]? = some v → Value.okWide Try.prog W .any base t v := hval0
  have hW' := hW
  obtain ⟨p, q, hA0, hV, rfl, hfz, hnd⟩ := hW
  have hA : DataW.TrodAll enc Try.prog W 0 (fun _ => true) true Try.f9.params.toList args.toList ds p := hA0
  rw [Try.params9] at hA hval
  obtain ⟨v0, vs0, d0, ds0, p0, q0, hargs, rfl, rfl, h0, r0⟩ := trodAll_cons hA
  obtain ⟨v1, vs1, d1, ds1, p1, q1, rfl, rfl, rfl, h1, r1⟩ := trodAll_cons r0
  obtain ⟨rfl, rfl, rfl⟩ := trodAll_nil r1
  obtain rfl : args = #[v0, v1] := by cases args; simp_all
  obtain ⟨rfl, rfl⟩ := trodVars_none hV
  obtain ⟨a0, rfl, rfl, rfl, w0⟩ := open_int Try.underlying3 (hval 0 3 v0 rfl rfl) h0
  obtain ⟨a1, rfl, rfl, rfl, w1⟩ := open_int Try.underlying3 (hval 1 3 v1 rfl rfl) h1
  clear hA0 hval0
  refine (nobody_walk a0 a1 w0 w1 W).mono fun e W' ⟨he, ho⟩ => ?_
  subst he
  have bel : Below W.heap.size W W' := ho.nil_below
  exact ⟨_, rfl, _, _, _, [], _, [], hW', trodAll_mk1 (shut_bool Try.underlying4 _), (trodAll_cons_mk (shut_int Try.underlying3 w0) (trodAll_cons_mk (shut_int Try.underlying3 w1) trodAll_mk0)), rfl, bel.frame _, fun h => by cases h⟩

theorem agendaNobody_over : Rows.agendaNobodyRow.holds Try.pinned (OpenSpec.ofChange Rows.agendaNobodySpec) :=
  OpenClaim.holds_of_wide 9 Try.f9 rfl rfl rfl rfl rfl rfl rfl ⟨rfl, rfl, rfl, rfl, rfl⟩ rfl rfl rfl rfl rfl (by kernel_rfl) Try.func9 (by kernel_rfl)
    (of_decide_eq_true (by kernel_rfl)) (by unfold Func.isWrapper; first | (rw [if_pos (by decide +kernel)]; kernel_rfl) | (rw [if_neg (by decide +kernel)]; exact ⟨rfl, rfl⟩))
    (fun os started H enc _ => agendaNobody_lifted os started H enc)

theorem agendaNobody_holds : Rows.AgendaNobodySaid := agendaNobody_over
end Go.Proofs.Ytpiilepmaomfeaa
