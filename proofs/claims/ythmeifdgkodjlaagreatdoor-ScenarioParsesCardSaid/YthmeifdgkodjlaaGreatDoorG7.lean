/- Texts of one chain: XP3 XP4 XP5 XP6 XP7 XP8 XP9 XPa. -/
import Derived.Test.YthmeifdgkodjlaaGreatDoorG6
import Derived.Test.YthmeifdgkodjlaaGreatDoorG1
import Derived.Lib.SmallJoins
/- sameNode and sameLink of the law. Condition: the lengths. -/
namespace Go.Proofs.YthmeifdgkodjlaaGreatDoor
open Go.RowKit

theorem take_eq {α : Type} {k : Nat} {l l' : List α} (z : α) (h : l.take k = l'.take k) (h1 : k < l.length) (h2 : k < l'.length) : l.take (k + 1) = l'.take (k + 1) ↔ l.getD k z = l'.getD k z := by
  rw [List.take_succ_eq_append_getElem h1, List.take_succ_eq_append_getElem h2, h]
  rw [List.getD_eq_getElem?_getD, List.getD_eq_getElem?_getD, List.getElem?_eq_getElem h1, List.getElem?_eq_getElem h2]
  simp only [Option.getD_some]
  exact ⟨fun e => by simpa using List.append_cancel_left e, fun e => by rw [e]⟩
def SmI {α : Type} (w : World) (l l' : List α) (vi : Value) (wr : World) : Prop := ∃ k : Nat, k ≤ l.length ∧ vi = .int .i64 k ∧ l.take k = l'.take k ∧ Only [] w wr
theorem sm_ne {α : Type} {k : Nat} {l l' : List α} (z : α) (h : l.getD k z ≠ l'.getD k z) : l ≠ l' := fun e => h (by rw [e])
theorem sm_end {α : Type} {k : Nat} {l l' : List α} (h : l.take k = l'.take k) (h1 : l.length ≤ k) (h2 : l'.length = l.length) : l = l' := by
  rw [List.take_of_length_le h1, List.take_of_length_le (by omega)] at h; exact h
set_option maxRecDepth 100000 in
set_option maxHeartbeats 4000000 in
theorem pSameNode {w : World} {x y : NdW} (hx : x.Ok w) (hy : y.Ok w) :
    Calls Tryz.prog 43 #[ndV x.n x.ps x.cs x.pv x.cv, ndV y.n y.ps y.cs y.pv y.cv] w fun e w' => e = .returned (.bool (decide (x.n = y.n))) ∧ Only [] w w' := by
  obtain ⟨⟨ph, sg, tol, rf, er, st, sv⟩, ps, cs, pv, cv⟩ := x
  obtain ⟨⟨ph2, sg2, tol2, rf2, er2, st2, sv2⟩, ps2, cs2, pv2, cv2⟩ := y
  obtain ⟨h1, h2, h3, h4⟩ := hx
  obtain ⟨k1, k2, k3, k4⟩ := hy
  simp only at h1 h2 h3 h4 k1 k2 k3 k4
  have VA := Lib.hid h1; have VB := Lib.hid k1; have WA := Lib.hid h2; have WB := Lib.hid k2
  obtain ⟨res, hres⟩ : ∃ res, res = decide ((⟨ph, sg, tol, rf, er, st, sv⟩ : Nd) = ⟨ph2, sg2, tol2, rf2, er2, st2, sv2⟩) := ⟨_, rfl⟩
  have HRES := Lib.hid hres
  simp only [← hres, ndV]
  clear h1 h2 k1 k2 hres
  by_cases hph : ph = ph2
  · subst hph
    by_cases hsg : sg2.length = sg.length
    · rw [hsg]
      by_cases htol : tol = tol2
      · subst htol
        by_cases hrf : rf = rf2
        · subst hrf
          by_cases her : er = er2
          · subst her
            by_cases hst : st = st2
            · subst hst
              by_cases hsv : sv2.length = sv.length
              · rw [hsv]
                go_enter Tryz.func43, Tryz.ntmps43
                go_upto_region 1 with (fail)
                refine alloc_abs (G := fun w0 => Code.wp _ _ _ _ (w0.alloc _)) ?_
                intro w0 hb0 ho0 hs0
                have hlt0 : w.heap.size < w0.heap.size := got_lt hb0
                rw [← hs0]
                refine alloc_abs (G := fun w0 => Code.wp _ _ _ _ w0) ?_
                intro w1 hb1 ho1 hs1
                have BA := Lib.hid (ho1.got hb0 (by simp)); have BB := Lib.hid hb1; have O1 := Lib.hid (ho0.nil_trans ho1)
                have HNE := Lib.hid hlt0
                clear hb0 ho0 hs0 hb1 ho1 hs1 hlt0
                generalize w.heap.size = ba at BA HNE ⊢
                generalize w0.heap.size = bb at BB HNE ⊢
                have p0 := cell_got BA.out 0; have p1 := cell_got BA.out 1; have p2 := cell_got BA.out 2; have p3 := cell_got BA.out 3; have p4 := cell_got BA.out 4; have p5 := cell_got BA.out 5; have p6 := cell_got BA.out 6
                have q0 := cell_got BB.out 0; have q1 := cell_got BB.out 1; have q2 := cell_got BB.out 2; have q3 := cell_got BB.out 3; have q4 := cell_got BB.out 4; have q5 := cell_got BB.out 5; have q6 := cell_got BB.out 6
                have la := got_lt BA.out; have lb := got_lt BB.out
                go_wp2
                clear p0 p1 p2 p3 p4 p5 p6 q0 q1 q2 q3 q4 q5 q6 la lb
                have OX := Lib.hid (Only.refl [] w1)
                go_loopw [5] (fun vi wr => SmI w1 sg sg2 vi wr) (fun vi _ => sg.length - (intOf vi).toNat)
                case atStart => exact ⟨0, Nat.zero_le _, rfl, rfl, Only.refl _ _⟩
                case round =>
                  obtain ⟨k, hk, rfl, htk, ho⟩ := hrel
                  have HTK := Lib.hid htk; have OO := Lib.hid ho
                  have CA := Lib.hid ((OX.out.nil_trans ho).got BA.out (by simp)); have CB := Lib.hid ((OX.out.nil_trans ho).got BB.out (by simp)); have OA := Lib.hid ((O1.out.nil_trans OX.out).nil_trans ho)
                  clear htk ho
                  have p0 := cell_got CA.out 0; have p1 := cell_got CA.out 1; have p2 := cell_got CA.out 2; have p3 := cell_got CA.out 3; have p4 := cell_got CA.out 4; have p5 := cell_got CA.out 5; have p6 := cell_got CA.out 6
                  have q0 := cell_got CB.out 0; have q1 := cell_got CB.out 1; have q2 := cell_got CB.out 2; have q3 := cell_got CB.out 3; have q4 := cell_got CB.out 4; have q5 := cell_got CB.out 5; have q6 := cell_got CB.out 6
                  have la := got_lt CA.out; have lb := got_lt CB.out
                  by_cases hlt : k < sg.length
                  · obtain ⟨bk, off, hp, c0, c1, lk⟩ := VA.out.sg OA.out hlt
                    obtain ⟨bk2, off2, hp2, d0, d1, lk2⟩ := VB.out.sg OA.out (show k < sg2.length by omega)
                    subst hp; subst hp2
                    have hiff := take_eq sg0 HTK.out hlt (show k < sg2.length by omega)
                    have HNE2 : Hid (sg.getD k sg0 ≠ sg2.getD k sg0 → res = false) := Lib.hid (fun h => by rw [HRES.out]; exact decide_eq_false (fun e => sm_ne sg0 h (by rw [show sg = sg2 from (by injection e)])))
                    have hkl : (k : Int) < (sg.length : Int) := by omega
                    have hkl2 : (k : Int) < (sg2.length : Int) := by omega
                    generalize sg.getD k sg0 = s at c0 c1 hiff HNE2
                    generalize sg2.getD k sg0 = s2 at d0 d1 hiff HNE2
                    have HIF := Lib.hid hiff
                    clear hiff
                    by_cases ha : s.a = s2.a
                    · by_cases hp : s.p = s2.p
                      · have e1 : (s.a == s2.a) = true := by simp [ha]
                        have e2 : (s.p == s2.p) = true := by simp [hp]
                        have HS : Hid (s = s2) := Lib.hid (by obtain ⟨a, b⟩ := s; obtain ⟨c, d⟩ := s2; simp only at ha hp; subst ha hp; rfl)
                        clear ha hp
                        go_wp2_with fail
                        refine wp_region_grown [0, 1, 2, 3, 4, 5, 6, 7, 8, 9, 10, 11, 12] [] (by kernel_rfl) (by kernel_rfl) ?_
                        simp only [pick, List.map_cons, List.map_nil, List.getD_cons_succ, List.getD_cons_zero]
                        iterate 1 (refine wpQuiet_step (fun K hK => ?_); go_simp; refine hK _ ?_; clear hK K)
                        repeat (go_big_quiet_step (fail))
                        refine wpQuiet_nil ?_
                        intro w4 hw4
                        have o4 := only_of_plus hw4
                        clear hw4
                        go_wp2
                        go_roundw
                        case rel => exact ⟨k + 1, by omega, by go_num, HIF.out.2 HS.out, OO.out.nil_trans o4⟩
                        case measure => simp [intOf]; omega
                      · have e1 : (s.a == s2.a) = true := by simp [ha]
                        have e2 : (s.p == s2.p) = false := by simp [hp]
                        have HQ : Hid (res = false) := Lib.hid (HNE2.out (fun e => hp (by rw [e])))
                        clear ha hp
                        go_wp2_with fail
                        refine wp_region_grown [0, 1, 2, 3, 4, 5, 6, 7, 8, 9, 10, 11, 12] [] (by kernel_rfl) (by kernel_rfl) ?_
                        simp only [pick, List.map_cons, List.map_nil, List.getD_cons_succ, List.getD_cons_zero]
                        iterate 1 (refine wpQuiet_step (fun K hK => ?_); go_simp; refine hK _ ?_; clear hK K)
                        repeat (go_big_quiet_step (fail))
                        refine wpQuiet_nil ?_
                        intro w4 hw4
                        have o4 := only_of_plus hw4
                        clear hw4
                        go_wp2
                        go_ret
                        exact ⟨by rw [HQ.out]; rfl, OA.out.nil_trans o4⟩
                    · have e1 : (s.a == s2.a) = false := by simp [ha]
                      have HQ : Hid (res = false) := Lib.hid (HNE2.out (fun e => ha (by rw [e])))
                      clear ha
                      go_wp2_with fail
                      refine wp_region_grown [0, 1, 2, 3, 4, 5, 6, 7, 8, 9, 10, 11, 12] [] (by kernel_rfl) (by kernel_rfl) ?_
                      simp only [pick, List.map_cons, List.map_nil, List.getD_cons_succ, List.getD_cons_zero]
                      iterate 1 (refine wpQuiet_step (fun K hK => ?_); go_simp; refine hK _ ?_; clear hK K)
                      repeat (go_big_quiet_step (fail))
                      refine wpQuiet_nil ?_
                      intro w4 hw4
                      have o4 := only_of_plus hw4
                      clear hw4
                      go_wp2
                      go_ret
                      exact ⟨by rw [HQ.out]; rfl, OA.out.nil_trans o4⟩
                  · obtain rfl : k = sg.length := by omega
                    have HEQ := Lib.hid (sm_end HTK.out (Nat.le_refl _) (by omega))
                    have OX2 := Lib.hid (OX.out.nil_trans OO.out)
                    have HSG := HEQ
                    obtain ⟨wr1, hwr1⟩ : ∃ wr1 : World, wr1 = wr := ⟨_, rfl⟩
                    subst hwr1
                    clear HEQ
                    go_wp2
                    clear p0 p1 p2 p3 p4 p5 p6 q0 q1 q2 q3 q4 q5 q6 la lb
                    clear OA CA CB OO HTK
                    have OX := OX2
                    go_loopw [6] (fun vi wr => SmI wr1 sv sv2 vi wr) (fun vi _ => sv.length - (intOf vi).toNat)
                    case atStart => exact ⟨0, Nat.zero_le _, rfl, rfl, Only.refl _ _⟩
                    case round =>
                      obtain ⟨k, hk, rfl, htk, ho⟩ := hrel
                      have HTK := Lib.hid htk; have OO := Lib.hid ho
                      have CA := Lib.hid ((OX.out.nil_trans ho).got BA.out (by simp)); have CB := Lib.hid ((OX.out.nil_trans ho).got BB.out (by simp)); have OA := Lib.hid ((O1.out.nil_trans OX.out).nil_trans ho)
                      clear htk ho
                      have p0 := cell_got CA.out 0; have p1 := cell_got CA.out 1; have p2 := cell_got CA.out 2; have p3 := cell_got CA.out 3; have p4 := cell_got CA.out 4; have p5 := cell_got CA.out 5; have p6 := cell_got CA.out 6
                      have q0 := cell_got CB.out 0; have q1 := cell_got CB.out 1; have q2 := cell_got CB.out 2; have q3 := cell_got CB.out 3; have q4 := cell_got CB.out 4; have q5 := cell_got CB.out 5; have q6 := cell_got CB.out 6
                      have la := got_lt CA.out; have lb := got_lt CB.out
                      by_cases hlt : k < sv.length
                      · obtain ⟨bk, off, hp, c0, lk⟩ := WA.out.it OA.out hlt
                        obtain ⟨bk2, off2, hp2, d0, lk2⟩ := WB.out.it OA.out (show k < sv2.length by omega)
                        subst hp; subst hp2
                        have hiff := take_eq 0 HTK.out hlt (show k < sv2.length by omega)
                        have HNE2 : Hid (sv.getD k 0 ≠ sv2.getD k 0 → res = false) := Lib.hid (fun h => by rw [HRES.out]; exact decide_eq_false (fun e => sm_ne 0 h (by rw [show sv = sv2 from (by injection e)])))
                        have hkl : (k : Int) < (sv.length : Int) := by omega
                        have hkl2 : (k : Int) < (sv2.length : Int) := by omega
                        generalize sv.getD k 0 = s at c0 hiff HNE2
                        generalize sv2.getD k 0 = s2 at d0 hiff HNE2
                        have HIF := Lib.hid hiff
                        clear hiff
                        by_cases ha : s = s2
                        · have e1 : (s == s2) = true := by simp [ha]
                          have e1n : (s != s2) = false := by simp [ha]
                          have HS := Lib.hid ha
                          clear ha
                          go_wp2_with fail
                          refine wp_region_grown [0, 1, 2, 3, 4, 5, 6, 7, 8, 9, 10] [] (by kernel_rfl) (by kernel_rfl) ?_
                          simp only [pick, List.map_cons, List.map_nil, List.getD_cons_succ, List.getD_cons_zero]
                          iterate 1 (refine wpQuiet_step (fun K hK => ?_); go_simp; refine hK _ ?_; clear hK K)
                          repeat (go_big_quiet_step (fail))
                          refine wpQuiet_nil ?_
                          intro w4 hw4
                          have o4 := only_of_plus hw4
                          clear hw4
                          go_wp2
                          go_roundw
                          case rel => exact ⟨k + 1, by omega, by go_num, HIF.out.2 HS.out, OO.out.nil_trans o4⟩
                          case measure => simp [intOf]; omega
                        · have e1 : (s == s2) = false := by simp [ha]
                          have e1n : (s != s2) = true := by simp [ha]
                          have HQ : Hid (res = false) := Lib.hid (HNE2.out ha)
                          clear ha
                          go_wp2_with fail
                          refine wp_region_grown [0, 1, 2, 3, 4, 5, 6, 7, 8, 9, 10] [] (by kernel_rfl) (by kernel_rfl) ?_
                          simp only [pick, List.map_cons, List.map_nil, List.getD_cons_succ, List.getD_cons_zero]
                          iterate 1 (refine wpQuiet_step (fun K hK => ?_); go_simp; refine hK _ ?_; clear hK K)
                          repeat (go_big_quiet_step (fail))
                          refine wpQuiet_nil ?_
                          intro w4 hw4
                          have o4 := only_of_plus hw4
                          clear hw4
                          go_wp2
                          go_ret
                          exact ⟨by rw [HQ.out]; rfl, OA.out.nil_trans o4⟩
                      · obtain rfl : k = sv.length := by omega
                        have HEQ := Lib.hid (sm_end HTK.out (Nat.le_refl _) (by omega))
                        have OX2 := Lib.hid (OX.out.nil_trans OO.out)
                        have HQ : Hid (res = true) := Lib.hid (by rw [HRES.out, HSG.out, HEQ.out]; exact decide_eq_true rfl)
                        go_wp2
                        go_ret
                        exact ⟨by rw [HQ.out]; rfl, O1.out.nil_trans OX2.out⟩
              · have HQ : Hid (res = false) := Lib.hid (by rw [HRES.out]; exact decide_eq_false (fun e => hsv (by cases e; rfl)))
                have t : (((sv.length : Nat) : Int) == ((sv2.length : Nat) : Int)) = false := by rw [beq_eq_false_iff_ne]; omega
                have tn : (((sv.length : Nat) : Int) != ((sv2.length : Nat) : Int)) = true := by rw [bne_iff_ne]; omega
                have tm : ((sv.length : Nat) == sv2.length) = false := by rw [beq_eq_false_iff_ne]; omega
                have tq : ((sv.length : Nat) != sv2.length) = true := by rw [bne_iff_ne]; omega
                clear hsv
                go_enter Tryz.func43, Tryz.ntmps43
                go_upto_region 1 with (fail)
                refine alloc_abs (G := fun w0 => Code.wp _ _ _ _ (w0.alloc _)) ?_
                intro w0 hb0 ho0 hs0
                have hlt0 : w.heap.size < w0.heap.size := got_lt hb0
                rw [← hs0]
                refine alloc_abs (G := fun w0 => Code.wp _ _ _ _ w0) ?_
                intro w1 hb1 ho1 hs1
                have BA := Lib.hid (ho1.got hb0 (by simp)); have BB := Lib.hid hb1; have O1 := Lib.hid (ho0.nil_trans ho1)
                have HNE := Lib.hid hlt0
                clear hb0 ho0 hs0 hb1 ho1 hs1 hlt0
                generalize w.heap.size = ba at BA HNE ⊢
                generalize w0.heap.size = bb at BB HNE ⊢
                have p0 := cell_got BA.out 0; have p1 := cell_got BA.out 1; have p2 := cell_got BA.out 2; have p3 := cell_got BA.out 3; have p4 := cell_got BA.out 4; have p5 := cell_got BA.out 5; have p6 := cell_got BA.out 6
                have q0 := cell_got BB.out 0; have q1 := cell_got BB.out 1; have q2 := cell_got BB.out 2; have q3 := cell_got BB.out 3; have q4 := cell_got BB.out 4; have q5 := cell_got BB.out 5; have q6 := cell_got BB.out 6
                have la := got_lt BA.out; have lb := got_lt BB.out
                go_wp2
                go_ret
                exact ⟨by rw [HQ.out]; rfl, O1.out⟩
            · have HQ : Hid (res = false) := Lib.hid (by rw [HRES.out]; exact decide_eq_false (fun e => hst (by cases e; rfl)))
              have t : ((st : Int) == st2) = false := beq_eq_false_iff_ne.2 hst
              have tn : ((st : Int) != st2) = true := bne_iff_ne.2 hst
              clear hst
              go_enter Tryz.func43, Tryz.ntmps43
              go_upto_region 1 with (fail)
              refine alloc_abs (G := fun w0 => Code.wp _ _ _ _ (w0.alloc _)) ?_
              intro w0 hb0 ho0 hs0
              have hlt0 : w.heap.size < w0.heap.size := got_lt hb0
              rw [← hs0]
              refine alloc_abs (G := fun w0 => Code.wp _ _ _ _ w0) ?_
              intro w1 hb1 ho1 hs1
              have BA := Lib.hid (ho1.got hb0 (by simp)); have BB := Lib.hid hb1; have O1 := Lib.hid (ho0.nil_trans ho1)
              have HNE := Lib.hid hlt0
              clear hb0 ho0 hs0 hb1 ho1 hs1 hlt0
              generalize w.heap.size = ba at BA HNE ⊢
              generalize w0.heap.size = bb at BB HNE ⊢
              have p0 := cell_got BA.out 0; have p1 := cell_got BA.out 1; have p2 := cell_got BA.out 2; have p3 := cell_got BA.out 3; have p4 := cell_got BA.out 4; have p5 := cell_got BA.out 5; have p6 := cell_got BA.out 6
              have q0 := cell_got BB.out 0; have q1 := cell_got BB.out 1; have q2 := cell_got BB.out 2; have q3 := cell_got BB.out 3; have q4 := cell_got BB.out 4; have q5 := cell_got BB.out 5; have q6 := cell_got BB.out 6
              have la := got_lt BA.out; have lb := got_lt BB.out
              go_wp2
              go_ret
              exact ⟨by rw [HQ.out]; rfl, O1.out⟩
          · have HQ : Hid (res = false) := Lib.hid (by rw [HRES.out]; exact decide_eq_false (fun e => her (by cases e; rfl)))
            have t : ((er : Int) == er2) = false := beq_eq_false_iff_ne.2 her
            have tn : ((er : Int) != er2) = true := bne_iff_ne.2 her
            clear her
            go_enter Tryz.func43, Tryz.ntmps43
            go_upto_region 1 with (fail)
            refine alloc_abs (G := fun w0 => Code.wp _ _ _ _ (w0.alloc _)) ?_
            intro w0 hb0 ho0 hs0
            have hlt0 : w.heap.size < w0.heap.size := got_lt hb0
            rw [← hs0]
            refine alloc_abs (G := fun w0 => Code.wp _ _ _ _ w0) ?_
            intro w1 hb1 ho1 hs1
            have BA := Lib.hid (ho1.got hb0 (by simp)); have BB := Lib.hid hb1; have O1 := Lib.hid (ho0.nil_trans ho1)
            have HNE := Lib.hid hlt0
            clear hb0 ho0 hs0 hb1 ho1 hs1 hlt0
            generalize w.heap.size = ba at BA HNE ⊢
            generalize w0.heap.size = bb at BB HNE ⊢
            have p0 := cell_got BA.out 0; have p1 := cell_got BA.out 1; have p2 := cell_got BA.out 2; have p3 := cell_got BA.out 3; have p4 := cell_got BA.out 4; have p5 := cell_got BA.out 5; have p6 := cell_got BA.out 6
            have q0 := cell_got BB.out 0; have q1 := cell_got BB.out 1; have q2 := cell_got BB.out 2; have q3 := cell_got BB.out 3; have q4 := cell_got BB.out 4; have q5 := cell_got BB.out 5; have q6 := cell_got BB.out 6
            have la := got_lt BA.out; have lb := got_lt BB.out
            go_wp2
            go_ret
            exact ⟨by rw [HQ.out]; rfl, O1.out⟩
        · have HQ : Hid (res = false) := Lib.hid (by rw [HRES.out]; exact decide_eq_false (fun e => hrf (by cases e; rfl)))
          have t : (rf == rf2) = false := by simp [hrf]
          have tn : (rf != rf2) = true := by simp [hrf]
          clear hrf
          go_enter Tryz.func43, Tryz.ntmps43
          go_upto_region 1 with (fail)
          refine alloc_abs (G := fun w0 => Code.wp _ _ _ _ (w0.alloc _)) ?_
          intro w0 hb0 ho0 hs0
          have hlt0 : w.heap.size < w0.heap.size := got_lt hb0
          rw [← hs0]
          refine alloc_abs (G := fun w0 => Code.wp _ _ _ _ w0) ?_
          intro w1 hb1 ho1 hs1
          have BA := Lib.hid (ho1.got hb0 (by simp)); have BB := Lib.hid hb1; have O1 := Lib.hid (ho0.nil_trans ho1)
          have HNE := Lib.hid hlt0
          clear hb0 ho0 hs0 hb1 ho1 hs1 hlt0
          generalize w.heap.size = ba at BA HNE ⊢
          generalize w0.heap.size = bb at BB HNE ⊢
          have p0 := cell_got BA.out 0; have p1 := cell_got BA.out 1; have p2 := cell_got BA.out 2; have p3 := cell_got BA.out 3; have p4 := cell_got BA.out 4; have p5 := cell_got BA.out 5; have p6 := cell_got BA.out 6
          have q0 := cell_got BB.out 0; have q1 := cell_got BB.out 1; have q2 := cell_got BB.out 2; have q3 := cell_got BB.out 3; have q4 := cell_got BB.out 4; have q5 := cell_got BB.out 5; have q6 := cell_got BB.out 6
          have la := got_lt BA.out; have lb := got_lt BB.out
          go_wp2
          go_ret
          exact ⟨by rw [HQ.out]; rfl, O1.out⟩
      · have HQ : Hid (res = false) := Lib.hid (by rw [HRES.out]; exact decide_eq_false (fun e => htol (by cases e; rfl)))
        have t : ((tol : Int) == tol2) = false := beq_eq_false_iff_ne.2 htol
        have tn : ((tol : Int) != tol2) = true := bne_iff_ne.2 htol
        clear htol
        go_enter Tryz.func43, Tryz.ntmps43
        go_upto_region 1 with (fail)
        refine alloc_abs (G := fun w0 => Code.wp _ _ _ _ (w0.alloc _)) ?_
        intro w0 hb0 ho0 hs0
        have hlt0 : w.heap.size < w0.heap.size := got_lt hb0
        rw [← hs0]
        refine alloc_abs (G := fun w0 => Code.wp _ _ _ _ w0) ?_
        intro w1 hb1 ho1 hs1
        have BA := Lib.hid (ho1.got hb0 (by simp)); have BB := Lib.hid hb1; have O1 := Lib.hid (ho0.nil_trans ho1)
        have HNE := Lib.hid hlt0
        clear hb0 ho0 hs0 hb1 ho1 hs1 hlt0
        generalize w.heap.size = ba at BA HNE ⊢
        generalize w0.heap.size = bb at BB HNE ⊢
        have p0 := cell_got BA.out 0; have p1 := cell_got BA.out 1; have p2 := cell_got BA.out 2; have p3 := cell_got BA.out 3; have p4 := cell_got BA.out 4; have p5 := cell_got BA.out 5; have p6 := cell_got BA.out 6
        have q0 := cell_got BB.out 0; have q1 := cell_got BB.out 1; have q2 := cell_got BB.out 2; have q3 := cell_got BB.out 3; have q4 := cell_got BB.out 4; have q5 := cell_got BB.out 5; have q6 := cell_got BB.out 6
        have la := got_lt BA.out; have lb := got_lt BB.out
        go_wp2
        go_ret
        exact ⟨by rw [HQ.out]; rfl, O1.out⟩
    · have HQ : Hid (res = false) := Lib.hid (by rw [HRES.out]; exact decide_eq_false (fun e => hsg (by cases e; rfl)))
      have t : (((sg.length : Nat) : Int) == ((sg2.length : Nat) : Int)) = false := by rw [beq_eq_false_iff_ne]; omega
      have tn : (((sg.length : Nat) : Int) != ((sg2.length : Nat) : Int)) = true := by rw [bne_iff_ne]; omega
      have tm : ((sg.length : Nat) == sg2.length) = false := by rw [beq_eq_false_iff_ne]; omega
      have tq : ((sg.length : Nat) != sg2.length) = true := by rw [bne_iff_ne]; omega
      clear hsg
      go_enter Tryz.func43, Tryz.ntmps43
      go_upto_region 1 with (fail)
      refine alloc_abs (G := fun w0 => Code.wp _ _ _ _ (w0.alloc _)) ?_
      intro w0 hb0 ho0 hs0
      have hlt0 : w.heap.size < w0.heap.size := got_lt hb0
      rw [← hs0]
      refine alloc_abs (G := fun w0 => Code.wp _ _ _ _ w0) ?_
      intro w1 hb1 ho1 hs1
      have BA := Lib.hid (ho1.got hb0 (by simp)); have BB := Lib.hid hb1; have O1 := Lib.hid (ho0.nil_trans ho1)
      have HNE := Lib.hid hlt0
      clear hb0 ho0 hs0 hb1 ho1 hs1 hlt0
      generalize w.heap.size = ba at BA HNE ⊢
      generalize w0.heap.size = bb at BB HNE ⊢
      have p0 := cell_got BA.out 0; have p1 := cell_got BA.out 1; have p2 := cell_got BA.out 2; have p3 := cell_got BA.out 3; have p4 := cell_got BA.out 4; have p5 := cell_got BA.out 5; have p6 := cell_got BA.out 6
      have q0 := cell_got BB.out 0; have q1 := cell_got BB.out 1; have q2 := cell_got BB.out 2; have q3 := cell_got BB.out 3; have q4 := cell_got BB.out 4; have q5 := cell_got BB.out 5; have q6 := cell_got BB.out 6
      have la := got_lt BA.out; have lb := got_lt BB.out
      go_wp2
      go_ret
      exact ⟨by rw [HQ.out]; rfl, O1.out⟩
  · have HQ : Hid (res = false) := Lib.hid (by rw [HRES.out]; exact decide_eq_false (fun e => hph (by cases e; rfl)))
    have t : ((ph : Int) == ph2) = false := beq_eq_false_iff_ne.2 hph
    have tn : ((ph : Int) != ph2) = true := bne_iff_ne.2 hph
    clear hph
    go_enter Tryz.func43, Tryz.ntmps43
    go_upto_region 1 with (fail)
    refine alloc_abs (G := fun w0 => Code.wp _ _ _ _ (w0.alloc _)) ?_
    intro w0 hb0 ho0 hs0
    have hlt0 : w.heap.size < w0.heap.size := got_lt hb0
    rw [← hs0]
    refine alloc_abs (G := fun w0 => Code.wp _ _ _ _ w0) ?_
    intro w1 hb1 ho1 hs1
    have BA := Lib.hid (ho1.got hb0 (by simp)); have BB := Lib.hid hb1; have O1 := Lib.hid (ho0.nil_trans ho1)
    have HNE := Lib.hid hlt0
    clear hb0 ho0 hs0 hb1 ho1 hs1 hlt0
    generalize w.heap.size = ba at BA HNE ⊢
    generalize w0.heap.size = bb at BB HNE ⊢
    have p0 := cell_got BA.out 0; have p1 := cell_got BA.out 1; have p2 := cell_got BA.out 2; have p3 := cell_got BA.out 3; have p4 := cell_got BA.out 4; have p5 := cell_got BA.out 5; have p6 := cell_got BA.out 6
    have q0 := cell_got BB.out 0; have q1 := cell_got BB.out 1; have q2 := cell_got BB.out 2; have q3 := cell_got BB.out 3; have q4 := cell_got BB.out 4; have q5 := cell_got BB.out 5; have q6 := cell_got BB.out 6
    have la := got_lt BA.out; have lb := got_lt BB.out
    go_wp2
    go_ret
    exact ⟨by rw [HQ.out]; rfl, O1.out⟩
set_option maxRecDepth 100000 in
set_option maxHeartbeats 4000000 in
theorem pSameLink {w : World} {x y : LkW} (hx : x.Ok w) (hy : y.Ok w) :
    Calls Tryz.prog 44 #[slV x, slV y] w fun e w' => e = .returned (.bool (decide (x.l = y.l))) ∧ Only [] w w' := by
  obtain ⟨⟨A, B, d0, d1, v0, v1, lo, sd, ch⟩, ps, cs⟩ := x
  obtain ⟨⟨A2, B2, d02, d12, v02, v12, lo2, sd2, ch2⟩, ps2, cs2⟩ := y
  obtain ⟨h1, h3⟩ := hx
  obtain ⟨k1, k3⟩ := hy
  simp only at h1 h3 k1 k3
  have VA := Lib.hid h1; have VB := Lib.hid k1
  obtain ⟨res, hres⟩ : ∃ res, res = decide ((⟨A, B, d0, d1, v0, v1, lo, sd, ch⟩ : Lk) = ⟨A2, B2, d02, d12, v02, v12, lo2, sd2, ch2⟩) := ⟨_, rfl⟩
  have HRES := Lib.hid hres
  simp only [← hres, slV]
  clear h1 k1 hres
  by_cases hA : A = A2
  · subst hA
    by_cases hB : B = B2
    · subst hB
      by_cases hD : eq2 d0 d1 d02 d12 = true
      · obtain ⟨rfl, rfl⟩ : d0 = d02 ∧ d1 = d12 := by simpa [eq2] using hD
        by_cases hV : eq2 v0 v1 v02 v12 = true
        · obtain ⟨rfl, rfl⟩ : v0 = v02 ∧ v1 = v12 := by simpa [eq2] using hV
          by_cases hlo : lo = lo2
          · subst hlo
            by_cases hsd : sd = sd2
            · subst hsd
              by_cases hch : ch2.length = ch.length
              · rw [hch]
                go_enter Tryz.func44, Tryz.ntmps44
                go_upto_region 1 with (fail)
                refine alloc_abs (G := fun w0 => Code.wp _ _ _ _ (w0.alloc _)) ?_
                intro w0 hb0 ho0 hs0
                have hlt0 : w.heap.size < w0.heap.size := got_lt hb0
                rw [← hs0]
                refine alloc_abs (G := fun w0 => Code.wp _ _ _ _ w0) ?_
                intro w1 hb1 ho1 hs1
                have BA := Lib.hid (ho1.got hb0 (by simp)); have BB := Lib.hid hb1; have O1 := Lib.hid (ho0.nil_trans ho1)
                have HNE := Lib.hid hlt0
                clear hb0 ho0 hs0 hb1 ho1 hs1 hlt0
                generalize w.heap.size = ba at BA HNE ⊢
                generalize w0.heap.size = bb at BB HNE ⊢
                have p0 := cell_got BA.out 0; have p1 := cell_got BA.out 1; have p2 := cell_got BA.out 2; have p3 := cell_got BA.out 3; have p4 := cell_got BA.out 4; have p5 := cell_got BA.out 5; have p6 := cell_got BA.out 6; have p7 := cell_got BA.out 7; have p8 := cell_got BA.out 8
                have q0 := cell_got BB.out 0; have q1 := cell_got BB.out 1; have q2 := cell_got BB.out 2; have q3 := cell_got BB.out 3; have q4 := cell_got BB.out 4; have q5 := cell_got BB.out 5; have q6 := cell_got BB.out 6; have q7 := cell_got BB.out 7; have q8 := cell_got BB.out 8
                have la := got_lt BA.out; have lb := got_lt BB.out
                go_wp2
                clear p0 q0 p1 q1 p2 q2 p3 q3 p4 q4 p5 q5 p6 q6 p7 q7 p8 q8 la lb
                have OX := Lib.hid (Only.refl [] w1)
                go_loopw [5] (fun vi wr => SmI w1 ch ch2 vi wr) (fun vi _ => ch.length - (intOf vi).toNat)
                case atStart => exact ⟨0, Nat.zero_le _, rfl, rfl, Only.refl _ _⟩
                case round =>
                  obtain ⟨k, hk, rfl, htk, ho⟩ := hrel
                  have HTK := Lib.hid htk; have OO := Lib.hid ho
                  have CA := Lib.hid ((OX.out.nil_trans ho).got BA.out (by simp)); have CB := Lib.hid ((OX.out.nil_trans ho).got BB.out (by simp)); have OA := Lib.hid ((O1.out.nil_trans OX.out).nil_trans ho)
                  clear htk ho
                  have p0 := cell_got CA.out 0; have p1 := cell_got CA.out 1; have p2 := cell_got CA.out 2; have p3 := cell_got CA.out 3; have p4 := cell_got CA.out 4; have p5 := cell_got CA.out 5; have p6 := cell_got CA.out 6; have p7 := cell_got CA.out 7; have p8 := cell_got CA.out 8
                  have q0 := cell_got CB.out 0; have q1 := cell_got CB.out 1; have q2 := cell_got CB.out 2; have q3 := cell_got CB.out 3; have q4 := cell_got CB.out 4; have q5 := cell_got CB.out 5; have q6 := cell_got CB.out 6; have q7 := cell_got CB.out 7; have q8 := cell_got CB.out 8
                  have la := got_lt CA.out; have lb := got_lt CB.out
                  by_cases hlt : k < ch.length
                  · obtain ⟨bk, off, hp, c0, c1, c2, lk⟩ := VA.out.ch OA.out hlt
                    obtain ⟨bk2, off2, hp2, d0, d1, d2, lk2⟩ := VB.out.ch OA.out (show k < ch2.length by omega)
                    subst hp; subst hp2
                    have hiff := take_eq ch0 HTK.out hlt (show k < ch2.length by omega)
                    have HNE2 : Hid (ch.getD k ch0 ≠ ch2.getD k ch0 → res = false) := Lib.hid (fun h => by rw [HRES.out]; exact decide_eq_false (fun e => sm_ne ch0 h (by rw [show ch = ch2 from (by injection e)])))
                    have hkl : (k : Int) < (ch.length : Int) := by omega
                    have hkl2 : (k : Int) < (ch2.length : Int) := by omega
                    generalize ch.getD k ch0 = s at c0 c1 c2 hiff HNE2
                    generalize ch2.getD k ch0 = s2 at d0 d1 d2 hiff HNE2
                    have HIF := Lib.hid hiff
                    clear hiff
                    by_cases ha : s.a = s2.a
                    · have ea : (s.a == s2.a) = true := by simp [ha]
                      by_cases hd : s.d = s2.d
                      · have ed : (s.d == s2.d) = true := by simp [hd]
                        by_cases hy : s.y = s2.y
                        · have ey : (s.y == s2.y) = true := by simp [hy]
                          have HS : Hid (s = s2) := Lib.hid (by obtain ⟨a, b, c⟩ := s; obtain ⟨e, f, g⟩ := s2; simp only at ha hd hy; subst ha hd hy; rfl)
                          clear ha hd hy
                          go_wp2_with fail
                          refine wp_region_grown [0, 1, 2, 3, 4, 5, 6, 7, 8, 9, 10, 11, 12] [] (by kernel_rfl) (by kernel_rfl) ?_
                          simp only [pick, List.map_cons, List.map_nil, List.getD_cons_succ, List.getD_cons_zero]
                          iterate 1 (refine wpQuiet_step (fun K hK => ?_); go_simp; refine hK _ ?_; clear hK K)
                          repeat (go_big_quiet_step (fail))
                          refine wpQuiet_nil ?_
                          intro w4 hw4
                          have o4 := only_of_plus hw4
                          clear hw4
                          go_wp2
                          go_roundw
                          case rel => exact ⟨k + 1, by omega, by go_num, HIF.out.2 HS.out, OO.out.nil_trans o4⟩
                          case measure => simp [intOf]; omega
                        · have ey : (s.y == s2.y) = false := by simp [hy]
                          have HQ : Hid (res = false) := Lib.hid (HNE2.out (fun e => hy (by rw [e])))
                          clear ha hd hy
                          go_wp2_with fail
                          refine wp_region_grown [0, 1, 2, 3, 4, 5, 6, 7, 8, 9, 10, 11, 12] [] (by kernel_rfl) (by kernel_rfl) ?_
                          simp only [pick, List.map_cons, List.map_nil, List.getD_cons_succ, List.getD_cons_zero]
                          iterate 1 (refine wpQuiet_step (fun K hK => ?_); go_simp; refine hK _ ?_; clear hK K)
                          repeat (go_big_quiet_step (fail))
                          refine wpQuiet_nil ?_
                          intro w4 hw4
                          have o4 := only_of_plus hw4
                          clear hw4
                          go_wp2
                          go_ret
                          exact ⟨by rw [HQ.out]; rfl, OA.out.nil_trans o4⟩
                      · have ed : (s.d == s2.d) = false := by simp [hd]
                        have HQ : Hid (res = false) := Lib.hid (HNE2.out (fun e => hd (by rw [e])))
                        clear ha hd
                        go_wp2_with fail
                        refine wp_region_grown [0, 1, 2, 3, 4, 5, 6, 7, 8, 9, 10, 11, 12] [] (by kernel_rfl) (by kernel_rfl) ?_
                        simp only [pick, List.map_cons, List.map_nil, List.getD_cons_succ, List.getD_cons_zero]
                        iterate 1 (refine wpQuiet_step (fun K hK => ?_); go_simp; refine hK _ ?_; clear hK K)
                        repeat (go_big_quiet_step (fail))
                        refine wpQuiet_nil ?_
                        intro w4 hw4
                        have o4 := only_of_plus hw4
                        clear hw4
                        go_wp2
                        go_ret
                        exact ⟨by rw [HQ.out]; rfl, OA.out.nil_trans o4⟩
                    · have ea : (s.a == s2.a) = false := by simp [ha]
                      have HQ : Hid (res = false) := Lib.hid (HNE2.out (fun e => ha (by rw [e])))
                      clear ha
                      go_wp2_with fail
                      refine wp_region_grown [0, 1, 2, 3, 4, 5, 6, 7, 8, 9, 10, 11, 12] [] (by kernel_rfl) (by kernel_rfl) ?_
                      simp only [pick, List.map_cons, List.map_nil, List.getD_cons_succ, List.getD_cons_zero]
                      iterate 1 (refine wpQuiet_step (fun K hK => ?_); go_simp; refine hK _ ?_; clear hK K)
                      repeat (go_big_quiet_step (fail))
                      refine wpQuiet_nil ?_
                      intro w4 hw4
                      have o4 := only_of_plus hw4
                      clear hw4
                      go_wp2
                      go_ret
                      exact ⟨by rw [HQ.out]; rfl, OA.out.nil_trans o4⟩
                  · obtain rfl : k = ch.length := by omega
                    have HEQ := Lib.hid (sm_end HTK.out (Nat.le_refl _) (by omega))
                    have OX2 := Lib.hid (OX.out.nil_trans OO.out)
                    have HQ : Hid (res = true) := Lib.hid (by rw [HRES.out, HEQ.out]; exact decide_eq_true rfl)
                    go_wp2
                    go_ret
                    exact ⟨by rw [HQ.out]; rfl, O1.out.nil_trans OX2.out⟩
              · have HQ : Hid (res = false) := Lib.hid (by rw [HRES.out]; exact decide_eq_false (fun e => hch (by cases e; rfl)))
                have t : (((ch.length : Nat) : Int) == ((ch2.length : Nat) : Int)) = false := by rw [beq_eq_false_iff_ne]; omega
                have tn : (((ch.length : Nat) : Int) != ((ch2.length : Nat) : Int)) = true := by rw [bne_iff_ne]; omega
                have tm : ((ch.length : Nat) == ch2.length) = false := by rw [beq_eq_false_iff_ne]; omega
                have tq : ((ch.length : Nat) != ch2.length) = true := by rw [bne_iff_ne]; omega
                clear hch
                go_enter Tryz.func44, Tryz.ntmps44
                go_upto_region 1 with (fail)
                refine alloc_abs (G := fun w0 => Code.wp _ _ _ _ (w0.alloc _)) ?_
                intro w0 hb0 ho0 hs0
                have hlt0 : w.heap.size < w0.heap.size := got_lt hb0
                rw [← hs0]
                refine alloc_abs (G := fun w0 => Code.wp _ _ _ _ w0) ?_
                intro w1 hb1 ho1 hs1
                have BA := Lib.hid (ho1.got hb0 (by simp)); have BB := Lib.hid hb1; have O1 := Lib.hid (ho0.nil_trans ho1)
                have HNE := Lib.hid hlt0
                clear hb0 ho0 hs0 hb1 ho1 hs1 hlt0
                generalize w.heap.size = ba at BA HNE ⊢
                generalize w0.heap.size = bb at BB HNE ⊢
                have p0 := cell_got BA.out 0; have p1 := cell_got BA.out 1; have p2 := cell_got BA.out 2; have p3 := cell_got BA.out 3; have p4 := cell_got BA.out 4; have p5 := cell_got BA.out 5; have p6 := cell_got BA.out 6; have p7 := cell_got BA.out 7; have p8 := cell_got BA.out 8
                have q0 := cell_got BB.out 0; have q1 := cell_got BB.out 1; have q2 := cell_got BB.out 2; have q3 := cell_got BB.out 3; have q4 := cell_got BB.out 4; have q5 := cell_got BB.out 5; have q6 := cell_got BB.out 6; have q7 := cell_got BB.out 7; have q8 := cell_got BB.out 8
                have la := got_lt BA.out; have lb := got_lt BB.out
                go_wp2
                go_ret
                exact ⟨by rw [HQ.out]; rfl, O1.out⟩
            · have HQ : Hid (res = false) := Lib.hid (by rw [HRES.out]; exact decide_eq_false (fun e => hsd (by cases e; rfl)))
              have t : ((sd : Int) == sd2) = false := beq_eq_false_iff_ne.2 hsd
              have tn : ((sd : Int) != sd2) = true := bne_iff_ne.2 hsd
              clear hsd
              go_enter Tryz.func44, Tryz.ntmps44
              go_upto_region 1 with (fail)
              refine alloc_abs (G := fun w0 => Code.wp _ _ _ _ (w0.alloc _)) ?_
              intro w0 hb0 ho0 hs0
              have hlt0 : w.heap.size < w0.heap.size := got_lt hb0
              rw [← hs0]
              refine alloc_abs (G := fun w0 => Code.wp _ _ _ _ w0) ?_
              intro w1 hb1 ho1 hs1
              have BA := Lib.hid (ho1.got hb0 (by simp)); have BB := Lib.hid hb1; have O1 := Lib.hid (ho0.nil_trans ho1)
              have HNE := Lib.hid hlt0
              clear hb0 ho0 hs0 hb1 ho1 hs1 hlt0
              generalize w.heap.size = ba at BA HNE ⊢
              generalize w0.heap.size = bb at BB HNE ⊢
              have p0 := cell_got BA.out 0; have p1 := cell_got BA.out 1; have p2 := cell_got BA.out 2; have p3 := cell_got BA.out 3; have p4 := cell_got BA.out 4; have p5 := cell_got BA.out 5; have p6 := cell_got BA.out 6; have p7 := cell_got BA.out 7; have p8 := cell_got BA.out 8
              have q0 := cell_got BB.out 0; have q1 := cell_got BB.out 1; have q2 := cell_got BB.out 2; have q3 := cell_got BB.out 3; have q4 := cell_got BB.out 4; have q5 := cell_got BB.out 5; have q6 := cell_got BB.out 6; have q7 := cell_got BB.out 7; have q8 := cell_got BB.out 8
              have la := got_lt BA.out; have lb := got_lt BB.out
              go_wp2
              go_ret
              exact ⟨by rw [HQ.out]; rfl, O1.out⟩
          · have HQ : Hid (res = false) := Lib.hid (by rw [HRES.out]; exact decide_eq_false (fun e => hlo (by cases e; rfl)))
            have t : ((lo : Int) == lo2) = false := beq_eq_false_iff_ne.2 hlo
            have tn : ((lo : Int) != lo2) = true := bne_iff_ne.2 hlo
            clear hlo
            go_enter Tryz.func44, Tryz.ntmps44
            go_upto_region 1 with (fail)
            refine alloc_abs (G := fun w0 => Code.wp _ _ _ _ (w0.alloc _)) ?_
            intro w0 hb0 ho0 hs0
            have hlt0 : w.heap.size < w0.heap.size := got_lt hb0
            rw [← hs0]
            refine alloc_abs (G := fun w0 => Code.wp _ _ _ _ w0) ?_
            intro w1 hb1 ho1 hs1
            have BA := Lib.hid (ho1.got hb0 (by simp)); have BB := Lib.hid hb1; have O1 := Lib.hid (ho0.nil_trans ho1)
            have HNE := Lib.hid hlt0
            clear hb0 ho0 hs0 hb1 ho1 hs1 hlt0
            generalize w.heap.size = ba at BA HNE ⊢
            generalize w0.heap.size = bb at BB HNE ⊢
            have p0 := cell_got BA.out 0; have p1 := cell_got BA.out 1; have p2 := cell_got BA.out 2; have p3 := cell_got BA.out 3; have p4 := cell_got BA.out 4; have p5 := cell_got BA.out 5; have p6 := cell_got BA.out 6; have p7 := cell_got BA.out 7; have p8 := cell_got BA.out 8
            have q0 := cell_got BB.out 0; have q1 := cell_got BB.out 1; have q2 := cell_got BB.out 2; have q3 := cell_got BB.out 3; have q4 := cell_got BB.out 4; have q5 := cell_got BB.out 5; have q6 := cell_got BB.out 6; have q7 := cell_got BB.out 7; have q8 := cell_got BB.out 8
            have la := got_lt BA.out; have lb := got_lt BB.out
            go_wp2
            go_ret
            exact ⟨by rw [HQ.out]; rfl, O1.out⟩
        · have HQ : Hid (res = false) := Lib.hid (by rw [HRES.out]; exact decide_eq_false (fun e => hV (by cases e; simp [eq2])))
          have t : eq2 v0 v1 v02 v12 = false := by simpa using hV
          clear hV
          go_enter Tryz.func44, Tryz.ntmps44
          go_upto_region 1 with (fail)
          refine alloc_abs (G := fun w0 => Code.wp _ _ _ _ (w0.alloc _)) ?_
          intro w0 hb0 ho0 hs0
          have hlt0 : w.heap.size < w0.heap.size := got_lt hb0
          rw [← hs0]
          refine alloc_abs (G := fun w0 => Code.wp _ _ _ _ w0) ?_
          intro w1 hb1 ho1 hs1
          have BA := Lib.hid (ho1.got hb0 (by simp)); have BB := Lib.hid hb1; have O1 := Lib.hid (ho0.nil_trans ho1)
          have HNE := Lib.hid hlt0
          clear hb0 ho0 hs0 hb1 ho1 hs1 hlt0
          generalize w.heap.size = ba at BA HNE ⊢
          generalize w0.heap.size = bb at BB HNE ⊢
          have p0 := cell_got BA.out 0; have p1 := cell_got BA.out 1; have p2 := cell_got BA.out 2; have p3 := cell_got BA.out 3; have p4 := cell_got BA.out 4; have p5 := cell_got BA.out 5; have p6 := cell_got BA.out 6; have p7 := cell_got BA.out 7; have p8 := cell_got BA.out 8
          have q0 := cell_got BB.out 0; have q1 := cell_got BB.out 1; have q2 := cell_got BB.out 2; have q3 := cell_got BB.out 3; have q4 := cell_got BB.out 4; have q5 := cell_got BB.out 5; have q6 := cell_got BB.out 6; have q7 := cell_got BB.out 7; have q8 := cell_got BB.out 8
          have la := got_lt BA.out; have lb := got_lt BB.out
          go_wp2
          go_ret
          exact ⟨by rw [HQ.out]; rfl, O1.out⟩
      · have HQ : Hid (res = false) := Lib.hid (by rw [HRES.out]; exact decide_eq_false (fun e => hD (by cases e; simp [eq2])))
        have t : eq2 d0 d1 d02 d12 = false := by simpa using hD
        clear hD
        go_enter Tryz.func44, Tryz.ntmps44
        go_upto_region 1 with (fail)
        refine alloc_abs (G := fun w0 => Code.wp _ _ _ _ (w0.alloc _)) ?_
        intro w0 hb0 ho0 hs0
        have hlt0 : w.heap.size < w0.heap.size := got_lt hb0
        rw [← hs0]
        refine alloc_abs (G := fun w0 => Code.wp _ _ _ _ w0) ?_
        intro w1 hb1 ho1 hs1
        have BA := Lib.hid (ho1.got hb0 (by simp)); have BB := Lib.hid hb1; have O1 := Lib.hid (ho0.nil_trans ho1)
        have HNE := Lib.hid hlt0
        clear hb0 ho0 hs0 hb1 ho1 hs1 hlt0
        generalize w.heap.size = ba at BA HNE ⊢
        generalize w0.heap.size = bb at BB HNE ⊢
        have p0 := cell_got BA.out 0; have p1 := cell_got BA.out 1; have p2 := cell_got BA.out 2; have p3 := cell_got BA.out 3; have p4 := cell_got BA.out 4; have p5 := cell_got BA.out 5; have p6 := cell_got BA.out 6; have p7 := cell_got BA.out 7; have p8 := cell_got BA.out 8
        have q0 := cell_got BB.out 0; have q1 := cell_got BB.out 1; have q2 := cell_got BB.out 2; have q3 := cell_got BB.out 3; have q4 := cell_got BB.out 4; have q5 := cell_got BB.out 5; have q6 := cell_got BB.out 6; have q7 := cell_got BB.out 7; have q8 := cell_got BB.out 8
        have la := got_lt BA.out; have lb := got_lt BB.out
        go_wp2
        go_ret
        exact ⟨by rw [HQ.out]; rfl, O1.out⟩
    · have HQ : Hid (res = false) := Lib.hid (by rw [HRES.out]; exact decide_eq_false (fun e => hB (by cases e; rfl)))
      have t : ((B : Int) == B2) = false := beq_eq_false_iff_ne.2 hB
      have tn : ((B : Int) != B2) = true := bne_iff_ne.2 hB
      clear hB
      go_enter Tryz.func44, Tryz.ntmps44
      go_upto_region 1 with (fail)
      refine alloc_abs (G := fun w0 => Code.wp _ _ _ _ (w0.alloc _)) ?_
      intro w0 hb0 ho0 hs0
      have hlt0 : w.heap.size < w0.heap.size := got_lt hb0
      rw [← hs0]
      refine alloc_abs (G := fun w0 => Code.wp _ _ _ _ w0) ?_
      intro w1 hb1 ho1 hs1
      have BA := Lib.hid (ho1.got hb0 (by simp)); have BB := Lib.hid hb1; have O1 := Lib.hid (ho0.nil_trans ho1)
      have HNE := Lib.hid hlt0
      clear hb0 ho0 hs0 hb1 ho1 hs1 hlt0
      generalize w.heap.size = ba at BA HNE ⊢
      generalize w0.heap.size = bb at BB HNE ⊢
      have p0 := cell_got BA.out 0; have p1 := cell_got BA.out 1; have p2 := cell_got BA.out 2; have p3 := cell_got BA.out 3; have p4 := cell_got BA.out 4; have p5 := cell_got BA.out 5; have p6 := cell_got BA.out 6; have p7 := cell_got BA.out 7; have p8 := cell_got BA.out 8
      have q0 := cell_got BB.out 0; have q1 := cell_got BB.out 1; have q2 := cell_got BB.out 2; have q3 := cell_got BB.out 3; have q4 := cell_got BB.out 4; have q5 := cell_got BB.out 5; have q6 := cell_got BB.out 6; have q7 := cell_got BB.out 7; have q8 := cell_got BB.out 8
      have la := got_lt BA.out; have lb := got_lt BB.out
      go_wp2
      go_ret
      exact ⟨by rw [HQ.out]; rfl, O1.out⟩
  · have HQ : Hid (res = false) := Lib.hid (by rw [HRES.out]; exact decide_eq_false (fun e => hA (by cases e; rfl)))
    have t : ((A : Int) == A2) = false := beq_eq_false_iff_ne.2 hA
    have tn : ((A : Int) != A2) = true := bne_iff_ne.2 hA
    clear hA
    go_enter Tryz.func44, Tryz.ntmps44
    go_upto_region 1 with (fail)
    refine alloc_abs (G := fun w0 => Code.wp _ _ _ _ (w0.alloc _)) ?_
    intro w0 hb0 ho0 hs0
    have hlt0 : w.heap.size < w0.heap.size := got_lt hb0
    rw [← hs0]
    refine alloc_abs (G := fun w0 => Code.wp _ _ _ _ w0) ?_
    intro w1 hb1 ho1 hs1
    have BA := Lib.hid (ho1.got hb0 (by simp)); have BB := Lib.hid hb1; have O1 := Lib.hid (ho0.nil_trans ho1)
    have HNE := Lib.hid hlt0
    clear hb0 ho0 hs0 hb1 ho1 hs1 hlt0
    generalize w.heap.size = ba at BA HNE ⊢
    generalize w0.heap.size = bb at BB HNE ⊢
    have p0 := cell_got BA.out 0; have p1 := cell_got BA.out 1; have p2 := cell_got BA.out 2; have p3 := cell_got BA.out 3; have p4 := cell_got BA.out 4; have p5 := cell_got BA.out 5; have p6 := cell_got BA.out 6; have p7 := cell_got BA.out 7; have p8 := cell_got BA.out 8
    have q0 := cell_got BB.out 0; have q1 := cell_got BB.out 1; have q2 := cell_got BB.out 2; have q3 := cell_got BB.out 3; have q4 := cell_got BB.out 4; have q5 := cell_got BB.out 5; have q6 := cell_got BB.out 6; have q7 := cell_got BB.out 7; have q8 := cell_got BB.out 8
    have la := got_lt BA.out; have lb := got_lt BB.out
    go_wp2
    go_ret
    exact ⟨by rw [HQ.out]; rfl, O1.out⟩
end Go.Proofs.YthmeifdgkodjlaaGreatDoor

/- same of the law. Condition: the lengths. -/
namespace Go.Proofs.YthmeifdgkodjlaaGreatDoor
open Go.RowKit

set_option maxRecDepth 100000 in
set_option maxHeartbeats 4000000 in
theorem pSame {w : World} {a b : ScW} (hx : a.Ok w) (hy : b.Ok w) :
    Calls Tryz.prog 16 #[scV a, scV b] w fun e w' => e = .returned (.bool (decide (a.sc = b.sc))) ∧ Only [] w w' := by
  obtain ⟨res, hres⟩ : ∃ res, res = decide (a.sc = b.sc) := ⟨_, rfl⟩
  rw [← hres]
  obtain ⟨nd, lk, ft, un, sd, pn, cn, pl, cl, pf, cf⟩ := a
  obtain ⟨nd2, lk2, ft2, un2, sd2, pn2, cn2, pl2, cl2, pf2, cf2⟩ := b
  obtain ⟨h1, h2, h3, h4, h5, h6, h7, h8⟩ := hx
  obtain ⟨k1, k2, k3, k4, k5, k6, k7, k8⟩ := hy
  simp only at h1 h2 h3 h4 h5 h6 h7 h8 k1 k2 k3 k4 k5 k6 k7 k8
  have NA := Lib.hid h1; have NB := Lib.hid k1; have LA := Lib.hid h2; have LB := Lib.hid k2; have FA := Lib.hid h3; have FB := Lib.hid k3
  have NOA := Lib.hid h4; have NOB := Lib.hid k4; have LOA := Lib.hid h5; have LOB := Lib.hid k5
  have HRES : Hid (res = decide ((⟨nd.map NdW.n, lk.map LkW.l, ft, un, sd⟩ : Sc) = ⟨nd2.map NdW.n, lk2.map LkW.l, ft2, un2, sd2⟩)) := Lib.hid hres
  simp only [scV]
  clear h1 h2 h3 h4 h5 k1 k2 k3 k4 k5 hres
  by_cases hnd : nd2.length = nd.length
  · rw [hnd]
    by_cases hlk : lk2.length = lk.length
    · rw [hlk]
      by_cases hft : ft2.length = ft.length
      · rw [hft]
        by_cases hun : un = un2
        · subst hun
          by_cases hsd : sd = sd2
          · subst hsd
            go_enter Tryz.func16, Tryz.ntmps16
            go_upto_region 1 with (fail)
            refine alloc_abs (G := fun w0 => Code.wp _ _ _ _ (w0.alloc _)) ?_
            intro w0 hb0 ho0 hs0
            have hlt0 : w.heap.size < w0.heap.size := got_lt hb0
            rw [← hs0]
            refine alloc_abs (G := fun w0 => Code.wp _ _ _ _ w0) ?_
            intro w1 hb1 ho1 hs1
            have BA := Lib.hid (ho1.got hb0 (by simp)); have BB := Lib.hid hb1; have O1 := Lib.hid (ho0.nil_trans ho1)
            have HNE := Lib.hid hlt0
            clear hb0 ho0 hs0 hb1 ho1 hs1 hlt0
            generalize w.heap.size = ba at BA HNE ⊢
            generalize w0.heap.size = bb at BB HNE ⊢
            have p0 := cell_got BA.out 0; have p1 := cell_got BA.out 1; have p2 := cell_got BA.out 2; have p3 := cell_got BA.out 3; have p4 := cell_got BA.out 4
            have q0 := cell_got BB.out 0; have q1 := cell_got BB.out 1; have q2 := cell_got BB.out 2; have q3 := cell_got BB.out 3; have q4 := cell_got BB.out 4
            have la := got_lt BA.out; have lb := got_lt BB.out
            go_wp2
            clear p0 q0 p1 q1 p2 q2 p3 q3 p4 q4 la lb
            have OX := Lib.hid (Only.refl [] w1)
            go_loopw [5] (fun vi wr => SmI w1 (nd.map NdW.n) (nd2.map NdW.n) vi wr) (fun vi _ => nd.length - (intOf vi).toNat)
            case atStart => exact ⟨0, Nat.zero_le _, rfl, rfl, Only.refl _ _⟩
            case round =>
              obtain ⟨k, hk, rfl, htk, ho⟩ := hrel
              rw [List.length_map] at hk
              have HTK := Lib.hid htk; have OO := Lib.hid ho
              have CA := Lib.hid ((OX.out.nil_trans ho).got BA.out (by simp)); have CB := Lib.hid ((OX.out.nil_trans ho).got BB.out (by simp)); have OA := Lib.hid ((O1.out.nil_trans OX.out).nil_trans ho)
              clear htk ho
              have p0 := cell_got CA.out 0; have p1 := cell_got CA.out 1; have p2 := cell_got CA.out 2; have p3 := cell_got CA.out 3; have p4 := cell_got CA.out 4
              have q0 := cell_got CB.out 0; have q1 := cell_got CB.out 1; have q2 := cell_got CB.out 2; have q3 := cell_got CB.out 3; have q4 := cell_got CB.out 4
              have la := got_lt CA.out; have lb := got_lt CB.out
              by_cases hlt : k < nd.length
              · obtain ⟨bk, off, hp, lk1, c0, c1, c2, c3, c4, c5, c6⟩ := NA.out.nd OA.out hlt
                obtain ⟨bk2, off2, hp2, lk2', d0, d1, d2, d3, d4, d5, d6⟩ := NB.out.nd OA.out (show k < nd2.length by omega)
                subst hp; subst hp2
                have hiff := take_eq (l := nd.map NdW.n) (l' := nd2.map NdW.n) nd0 HTK.out (by rw [List.length_map]; exact hlt) (by rw [List.length_map]; omega)
                rw [nd_at hlt, nd_at (show k < nd2.length by omega)] at hiff
                have HNE2 : Hid ((nd.getD k nw0).n ≠ (nd2.getD k nw0).n → res = false) := Lib.hid (fun h => by
                  rw [HRES.out]
                  refine decide_eq_false (fun e => sm_ne (l := nd.map NdW.n) (l' := nd2.map NdW.n) (k := k) nd0 ?_ (by injection e))
                  rw [nd_at hlt, nd_at (show k < nd2.length by omega)]
                  exact h)
                have hoa := NOA.out _ (getD_mem nw0 hlt)
                have hob := NOB.out _ (getD_mem nw0 (show k < nd2.length by omega))
                have hkl : (k : Int) < (nd.length : Int) := by omega
                have hkl2 : (k : Int) < (nd2.length : Int) := by omega
                generalize nd.getD k nw0 = s at c0 c1 c2 c3 c4 c5 c6 hiff HNE2 hoa
                generalize nd2.getD k nw0 = s2 at d0 d1 d2 d3 d4 d5 d6 hiff HNE2 hob
                have HIF := Lib.hid hiff; have HOA := Lib.hid hoa; have HOB := Lib.hid hob
                clear hiff hoa hob
                by_cases hs : s.n = s2.n
                · have HC : Hid (∀ w', Only [] wr w' → Calls Tryz.prog 43 #[ndV s.n s.ps s.cs s.pv s.cv, ndV s2.n s2.ps s2.cs s2.pv s2.cv] w' fun e w'' => e = .returned (.bool true) ∧ Only [] w' w'') := Lib.hid (fun w' ho => (pSameNode (HOA.out.kept (OA.out.nil_trans ho)) (HOB.out.kept (OA.out.nil_trans ho))).mono (fun e w'' ⟨h1, h2⟩ => ⟨by rw [h1, decide_eq_true hs], h2⟩))
                  have HS := Lib.hid hs
                  clear hs
                  go_wp2_with fail
                  refine wp_region_grown [0, 1, 2, 3, 4, 5, 6, 7, 8, 9, 10, 11] [] (by kernel_rfl) (by kernel_rfl) ?_
                  simp only [pick, List.map_cons, List.map_nil, List.getD_cons_succ, List.getD_cons_zero]
                  iterate 1 (refine wpQuiet_step (fun K hK => ?_); go_simp; refine hK _ ?_; clear hK K)
                  repeat (go_big_quiet_step (fail))
                  refine wpQuiet_enter rfl 43 #[ndV s.n s.ps s.cs s.pv s.cv, ndV s2.n s2.ps s2.cs s2.pv s2.cv] (fun _ => by kernel_rfl) (.bool true) (grown_only2 HC.out) ?_
                  iterate 1 (refine wpQuiet_step (fun K hK => ?_); go_simp; refine hK _ ?_; clear hK K)
                  refine wpQuiet_nil ?_
                  intro w4 hw4
                  have o4 := only_of_plus hw4
                  clear hw4
                  go_wp2
                  go_roundw
                  case rel => exact ⟨k + 1, by rw [List.length_map]; omega, by go_num, HIF.out.2 HS.out, OO.out.nil_trans o4⟩
                  case measure => simp [intOf]; omega
                · have HC : Hid (∀ w', Only [] wr w' → Calls Tryz.prog 43 #[ndV s.n s.ps s.cs s.pv s.cv, ndV s2.n s2.ps s2.cs s2.pv s2.cv] w' fun e w'' => e = .returned (.bool false) ∧ Only [] w' w'') := Lib.hid (fun w' ho => (pSameNode (HOA.out.kept (OA.out.nil_trans ho)) (HOB.out.kept (OA.out.nil_trans ho))).mono (fun e w'' ⟨h1, h2⟩ => ⟨by rw [h1, decide_eq_false hs], h2⟩))
                  have HQ : Hid (res = false) := Lib.hid (HNE2.out hs)
                  clear hs
                  go_wp2_with fail
                  refine wp_region_grown [0, 1, 2, 3, 4, 5, 6, 7, 8, 9, 10, 11] [] (by kernel_rfl) (by kernel_rfl) ?_
                  simp only [pick, List.map_cons, List.map_nil, List.getD_cons_succ, List.getD_cons_zero]
                  iterate 1 (refine wpQuiet_step (fun K hK => ?_); go_simp; refine hK _ ?_; clear hK K)
                  repeat (go_big_quiet_step (fail))
                  refine wpQuiet_enter rfl 43 #[ndV s.n s.ps s.cs s.pv s.cv, ndV s2.n s2.ps s2.cs s2.pv s2.cv] (fun _ => by kernel_rfl) (.bool false) (grown_only2 HC.out) ?_
                  iterate 1 (refine wpQuiet_step (fun K hK => ?_); go_simp; refine hK _ ?_; clear hK K)
                  refine wpQuiet_nil ?_
                  intro w4 hw4
                  have o4 := only_of_plus hw4
                  clear hw4
                  go_wp2
                  go_ret
                  exact ⟨by rw [HQ.out]; rfl, OA.out.nil_trans o4⟩
              · obtain rfl : k = nd.length := by omega
                have HEQ := Lib.hid (sm_end HTK.out (by rw [List.length_map]; exact Nat.le_refl _) (by rw [List.length_map, List.length_map]; omega))
                have OX2 := Lib.hid (OX.out.nil_trans OO.out)
                have HN := HEQ
                obtain ⟨wr1, hwr1⟩ : ∃ wr1 : World, wr1 = wr := ⟨_, rfl⟩
                subst hwr1
                clear HEQ
                go_wp2
                clear p0 q0 p1 q1 p2 q2 p3 q3 p4 q4 la lb
                clear OA CA CB OO HTK
                have OX := OX2
                go_loopw [6] (fun vi wr => SmI wr1 (lk.map LkW.l) (lk2.map LkW.l) vi wr) (fun vi _ => lk.length - (intOf vi).toNat)
                case atStart => exact ⟨0, Nat.zero_le _, rfl, rfl, Only.refl _ _⟩
                case round =>
                  obtain ⟨k, hk, rfl, htk, ho⟩ := hrel
                  rw [List.length_map] at hk
                  have HTK := Lib.hid htk; have OO := Lib.hid ho
                  have CA := Lib.hid ((OX.out.nil_trans ho).got BA.out (by simp)); have CB := Lib.hid ((OX.out.nil_trans ho).got BB.out (by simp)); have OA := Lib.hid ((O1.out.nil_trans OX.out).nil_trans ho)
                  clear htk ho
                  have p0 := cell_got CA.out 0; have p1 := cell_got CA.out 1; have p2 := cell_got CA.out 2; have p3 := cell_got CA.out 3; have p4 := cell_got CA.out 4
                  have q0 := cell_got CB.out 0; have q1 := cell_got CB.out 1; have q2 := cell_got CB.out 2; have q3 := cell_got CB.out 3; have q4 := cell_got CB.out 4
                  have la := got_lt CA.out; have lb := got_lt CB.out
                  by_cases hlt : k < lk.length
                  · obtain ⟨bk, off, hp, lk1, c0, c1, c2, c3, c4, c5, c6, c7, c8⟩ := LA.out.lk OA.out hlt
                    obtain ⟨bk2, off2, hp2, lk2', d0, d1, d2, d3, d4, d5, d6, d7, d8⟩ := LB.out.lk OA.out (show k < lk2.length by omega)
                    subst hp; subst hp2
                    have hiff := take_eq (l := lk.map LkW.l) (l' := lk2.map LkW.l) lk0 HTK.out (by rw [List.length_map]; exact hlt) (by rw [List.length_map]; omega)
                    rw [lk_at hlt, lk_at (show k < lk2.length by omega)] at hiff
                    have HNE2 : Hid ((lk.getD k lw0).l ≠ (lk2.getD k lw0).l → res = false) := Lib.hid (fun h => by
                      rw [HRES.out]
                      refine decide_eq_false (fun e => sm_ne (l := lk.map LkW.l) (l' := lk2.map LkW.l) (k := k) lk0 ?_ (by injection e))
                      rw [lk_at hlt, lk_at (show k < lk2.length by omega)]
                      exact h)
                    have hoa := LOA.out _ (getD_mem lw0 hlt)
                    have hob := LOB.out _ (getD_mem lw0 (show k < lk2.length by omega))
                    have hkl : (k : Int) < (lk.length : Int) := by omega
                    have hkl2 : (k : Int) < (lk2.length : Int) := by omega
                    generalize lk.getD k lw0 = s at c0 c1 c2 c3 c4 c5 c6 c7 c8 hiff HNE2 hoa
                    generalize lk2.getD k lw0 = s2 at d0 d1 d2 d3 d4 d5 d6 d7 d8 hiff HNE2 hob
                    have HIF := Lib.hid hiff; have HOA := Lib.hid hoa; have HOB := Lib.hid hob
                    clear hiff hoa hob
                    by_cases hs : s.l = s2.l
                    · have HC : Hid (∀ w', Only [] wr w' → Calls Tryz.prog 44 #[slV s, slV s2] w' fun e w'' => e = .returned (.bool true) ∧ Only [] w' w'') := Lib.hid (fun w' ho => (pSameLink (HOA.out.kept (OA.out.nil_trans ho)) (HOB.out.kept (OA.out.nil_trans ho))).mono (fun e w'' ⟨h1, h2⟩ => ⟨by rw [h1, decide_eq_true hs], h2⟩))
                      have HS := Lib.hid hs
                      clear hs
                      go_wp2_with fail
                      refine wp_region_grown [0, 1, 2, 3, 4, 5, 6, 7, 8, 9, 10, 11] [] (by kernel_rfl) (by kernel_rfl) ?_
                      simp only [pick, List.map_cons, List.map_nil, List.getD_cons_succ, List.getD_cons_zero]
                      iterate 1 (refine wpQuiet_step (fun K hK => ?_); go_simp; refine hK _ ?_; clear hK K)
                      repeat (go_big_quiet_step (fail))
                      refine wpQuiet_enter rfl 44 #[slV s, slV s2] (fun _ => by kernel_rfl) (.bool true) (grown_only2 HC.out) ?_
                      iterate 1 (refine wpQuiet_step (fun K hK => ?_); go_simp; refine hK _ ?_; clear hK K)
                      refine wpQuiet_nil ?_
                      intro w4 hw4
                      have o4 := only_of_plus hw4
                      clear hw4
                      go_wp2
                      go_roundw
                      case rel => exact ⟨k + 1, by rw [List.length_map]; omega, by go_num, HIF.out.2 HS.out, OO.out.nil_trans o4⟩
                      case measure => simp [intOf]; omega
                    · have HC : Hid (∀ w', Only [] wr w' → Calls Tryz.prog 44 #[slV s, slV s2] w' fun e w'' => e = .returned (.bool false) ∧ Only [] w' w'') := Lib.hid (fun w' ho => (pSameLink (HOA.out.kept (OA.out.nil_trans ho)) (HOB.out.kept (OA.out.nil_trans ho))).mono (fun e w'' ⟨h1, h2⟩ => ⟨by rw [h1, decide_eq_false hs], h2⟩))
                      have HQ : Hid (res = false) := Lib.hid (HNE2.out hs)
                      clear hs
                      go_wp2_with fail
                      refine wp_region_grown [0, 1, 2, 3, 4, 5, 6, 7, 8, 9, 10, 11] [] (by kernel_rfl) (by kernel_rfl) ?_
                      simp only [pick, List.map_cons, List.map_nil, List.getD_cons_succ, List.getD_cons_zero]
                      iterate 1 (refine wpQuiet_step (fun K hK => ?_); go_simp; refine hK _ ?_; clear hK K)
                      repeat (go_big_quiet_step (fail))
                      refine wpQuiet_enter rfl 44 #[slV s, slV s2] (fun _ => by kernel_rfl) (.bool false) (grown_only2 HC.out) ?_
                      iterate 1 (refine wpQuiet_step (fun K hK => ?_); go_simp; refine hK _ ?_; clear hK K)
                      refine wpQuiet_nil ?_
                      intro w4 hw4
                      have o4 := only_of_plus hw4
                      clear hw4
                      go_wp2
                      go_ret
                      exact ⟨by rw [HQ.out]; rfl, OA.out.nil_trans o4⟩
                  · obtain rfl : k = lk.length := by omega
                    have HEQ := Lib.hid (sm_end HTK.out (by rw [List.length_map]; exact Nat.le_refl _) (by rw [List.length_map, List.length_map]; omega))
                    have OX2 := Lib.hid (OX.out.nil_trans OO.out)
                    have HL := HEQ
                    obtain ⟨wr2, hwr2⟩ : ∃ wr2 : World, wr2 = wr := ⟨_, rfl⟩
                    subst hwr2
                    clear HEQ
                    go_wp2
                    clear p0 q0 p1 q1 p2 q2 p3 q3 p4 q4 la lb
                    clear OA CA CB OO HTK
                    have OX := OX2
                    go_loopw [7] (fun vi wr => SmI wr2 ft ft2 vi wr) (fun vi _ => ft.length - (intOf vi).toNat)
                    case atStart => exact ⟨0, Nat.zero_le _, rfl, rfl, Only.refl _ _⟩
                    case round =>
                      obtain ⟨k, hk, rfl, htk, ho⟩ := hrel
                      have HTK := Lib.hid htk; have OO := Lib.hid ho
                      have CA := Lib.hid ((OX.out.nil_trans ho).got BA.out (by simp)); have CB := Lib.hid ((OX.out.nil_trans ho).got BB.out (by simp)); have OA := Lib.hid ((O1.out.nil_trans OX.out).nil_trans ho)
                      clear htk ho
                      have p0 := cell_got CA.out 0; have p1 := cell_got CA.out 1; have p2 := cell_got CA.out 2; have p3 := cell_got CA.out 3; have p4 := cell_got CA.out 4
                      have q0 := cell_got CB.out 0; have q1 := cell_got CB.out 1; have q2 := cell_got CB.out 2; have q3 := cell_got CB.out 3; have q4 := cell_got CB.out 4
                      have la := got_lt CA.out; have lb := got_lt CB.out
                      by_cases hlt : k < ft.length
                      · obtain ⟨bk, off, hp, c0, c1, c2, c3, c4, lk⟩ := FA.out.ft OA.out hlt
                        obtain ⟨bk2, off2, hp2, d0, d1, d2, d3, d4, lk2⟩ := FB.out.ft OA.out (show k < ft2.length by omega)
                        subst hp; subst hp2
                        have hiff := take_eq ft0 HTK.out hlt (show k < ft2.length by omega)
                        have HNE2 : Hid (ft.getD k ft0 ≠ ft2.getD k ft0 → res = false) := Lib.hid (fun h => by rw [HRES.out]; exact decide_eq_false (fun e => sm_ne ft0 h (by rw [show ft = ft2 from (by injection e)])))
                        have hkl : (k : Int) < (ft.length : Int) := by omega
                        have hkl2 : (k : Int) < (ft2.length : Int) := by omega
                        generalize ft.getD k ft0 = s at c0 c1 c2 c3 c4 hiff HNE2
                        generalize ft2.getD k ft0 = s2 at d0 d1 d2 d3 d4 hiff HNE2
                        have HIF := Lib.hid hiff
                        clear hiff
                        by_cases hn : s.n = s2.n
                        · have en : (s.n == s2.n) = true := by simp [hn]
                          by_cases hf : s.f = s2.f
                          · have ef : (s.f == s2.f) = true := by simp [hf]
                            by_cases ht : s.t = s2.t
                            · have et : (s.t == s2.t) = true := by simp [ht]
                              by_cases hk' : s.k = s2.k
                              · have ek : (s.k == s2.k) = true := by simp [hk']
                                by_cases hv : s.v = s2.v
                                · have ev : (s.v == s2.v) = true := by simp [hv]
                                  have HS : Hid (s = s2) := Lib.hid (by obtain ⟨a, b, c, d, e⟩ := s; obtain ⟨f, g, h, i, j⟩ := s2; simp only at hn hf ht hk' hv; subst hn hf ht hk' hv; rfl)
                                  clear hn hf ht hk' hv
                                  go_wp2_with fail
                                  refine wp_region_grown [0, 1, 2, 3, 4, 5, 6, 7, 8, 9, 10] [] (by kernel_rfl) (by kernel_rfl) ?_
                                  simp only [pick, List.map_cons, List.map_nil, List.getD_cons_succ, List.getD_cons_zero]
                                  iterate 1 (refine wpQuiet_step (fun K hK => ?_); go_simp; refine hK _ ?_; clear hK K)
                                  repeat (go_big_quiet_step (fail))
                                  refine wpQuiet_nil ?_
                                  intro w4 hw4
                                  have o4 := only_of_plus hw4
                                  clear hw4
                                  go_wp2
                                  go_roundw
                                  case rel => exact ⟨k + 1, by omega, by go_num, HIF.out.2 HS.out, OO.out.nil_trans o4⟩
                                  case measure => simp [intOf]; omega
                                · have ev : (s.v == s2.v) = false := by simp [hv]
                                  have HQ : Hid (res = false) := Lib.hid (HNE2.out (fun e => hv (by rw [e])))
                                  clear hn hf ht hk' hv
                                  go_wp2_with fail
                                  refine wp_region_grown [0, 1, 2, 3, 4, 5, 6, 7, 8, 9, 10] [] (by kernel_rfl) (by kernel_rfl) ?_
                                  simp only [pick, List.map_cons, List.map_nil, List.getD_cons_succ, List.getD_cons_zero]
                                  iterate 1 (refine wpQuiet_step (fun K hK => ?_); go_simp; refine hK _ ?_; clear hK K)
                                  repeat (go_big_quiet_step (fail))
                                  refine wpQuiet_nil ?_
                                  intro w4 hw4
                                  have o4 := only_of_plus hw4
                                  clear hw4
                                  go_wp2
                                  go_ret
                                  exact ⟨by rw [HQ.out]; rfl, OA.out.nil_trans o4⟩
                              · have ek : (s.k == s2.k) = false := by simp [hk']
                                have HQ : Hid (res = false) := Lib.hid (HNE2.out (fun e => hk' (by rw [e])))
                                clear hn hf ht hk'
                                go_wp2_with fail
                                refine wp_region_grown [0, 1, 2, 3, 4, 5, 6, 7, 8, 9, 10] [] (by kernel_rfl) (by kernel_rfl) ?_
                                simp only [pick, List.map_cons, List.map_nil, List.getD_cons_succ, List.getD_cons_zero]
                                iterate 1 (refine wpQuiet_step (fun K hK => ?_); go_simp; refine hK _ ?_; clear hK K)
                                repeat (go_big_quiet_step (fail))
                                refine wpQuiet_nil ?_
                                intro w4 hw4
                                have o4 := only_of_plus hw4
                                clear hw4
                                go_wp2
                                go_ret
                                exact ⟨by rw [HQ.out]; rfl, OA.out.nil_trans o4⟩
                            · have et : (s.t == s2.t) = false := by simp [ht]
                              have HQ : Hid (res = false) := Lib.hid (HNE2.out (fun e => ht (by rw [e])))
                              clear hn hf ht
                              go_wp2_with fail
                              refine wp_region_grown [0, 1, 2, 3, 4, 5, 6, 7, 8, 9, 10] [] (by kernel_rfl) (by kernel_rfl) ?_
                              simp only [pick, List.map_cons, List.map_nil, List.getD_cons_succ, List.getD_cons_zero]
                              iterate 1 (refine wpQuiet_step (fun K hK => ?_); go_simp; refine hK _ ?_; clear hK K)
                              repeat (go_big_quiet_step (fail))
                              refine wpQuiet_nil ?_
                              intro w4 hw4
                              have o4 := only_of_plus hw4
                              clear hw4
                              go_wp2
                              go_ret
                              exact ⟨by rw [HQ.out]; rfl, OA.out.nil_trans o4⟩
                          · have ef : (s.f == s2.f) = false := by simp [hf]
                            have HQ : Hid (res = false) := Lib.hid (HNE2.out (fun e => hf (by rw [e])))
                            clear hn hf
                            go_wp2_with fail
                            refine wp_region_grown [0, 1, 2, 3, 4, 5, 6, 7, 8, 9, 10] [] (by kernel_rfl) (by kernel_rfl) ?_
                            simp only [pick, List.map_cons, List.map_nil, List.getD_cons_succ, List.getD_cons_zero]
                            iterate 1 (refine wpQuiet_step (fun K hK => ?_); go_simp; refine hK _ ?_; clear hK K)
                            repeat (go_big_quiet_step (fail))
                            refine wpQuiet_nil ?_
                            intro w4 hw4
                            have o4 := only_of_plus hw4
                            clear hw4
                            go_wp2
                            go_ret
                            exact ⟨by rw [HQ.out]; rfl, OA.out.nil_trans o4⟩
                        · have en : (s.n == s2.n) = false := by simp [hn]
                          have HQ : Hid (res = false) := Lib.hid (HNE2.out (fun e => hn (by rw [e])))
                          clear hn
                          go_wp2_with fail
                          refine wp_region_grown [0, 1, 2, 3, 4, 5, 6, 7, 8, 9, 10] [] (by kernel_rfl) (by kernel_rfl) ?_
                          simp only [pick, List.map_cons, List.map_nil, List.getD_cons_succ, List.getD_cons_zero]
                          iterate 1 (refine wpQuiet_step (fun K hK => ?_); go_simp; refine hK _ ?_; clear hK K)
                          repeat (go_big_quiet_step (fail))
                          refine wpQuiet_nil ?_
                          intro w4 hw4
                          have o4 := only_of_plus hw4
                          clear hw4
                          go_wp2
                          go_ret
                          exact ⟨by rw [HQ.out]; rfl, OA.out.nil_trans o4⟩
                      · obtain rfl : k = ft.length := by omega
                        have HEQ := Lib.hid (sm_end HTK.out (Nat.le_refl _) (by omega))
                        have OX2 := Lib.hid (OX.out.nil_trans OO.out)
                        have HQ : Hid (res = true) := Lib.hid (by rw [HRES.out, HN.out, HL.out, HEQ.out]; exact decide_eq_true rfl)
                        go_wp2
                        go_ret
                        exact ⟨by rw [HQ.out]; rfl, O1.out.nil_trans OX2.out⟩
          · have HQ : Hid (res = false) := Lib.hid (by rw [HRES.out]; exact decide_eq_false (fun e => hsd (by injection e)))
            have t : ((sd : Int) == sd2) = false := beq_eq_false_iff_ne.2 hsd
            have tn : ((sd : Int) != sd2) = true := bne_iff_ne.2 hsd
            clear hsd
            go_enter Tryz.func16, Tryz.ntmps16
            go_upto_region 1 with (fail)
            refine alloc_abs (G := fun w0 => Code.wp _ _ _ _ (w0.alloc _)) ?_
            intro w0 hb0 ho0 hs0
            have hlt0 : w.heap.size < w0.heap.size := got_lt hb0
            rw [← hs0]
            refine alloc_abs (G := fun w0 => Code.wp _ _ _ _ w0) ?_
            intro w1 hb1 ho1 hs1
            have BA := Lib.hid (ho1.got hb0 (by simp)); have BB := Lib.hid hb1; have O1 := Lib.hid (ho0.nil_trans ho1)
            have HNE := Lib.hid hlt0
            clear hb0 ho0 hs0 hb1 ho1 hs1 hlt0
            generalize w.heap.size = ba at BA HNE ⊢
            generalize w0.heap.size = bb at BB HNE ⊢
            have p0 := cell_got BA.out 0; have p1 := cell_got BA.out 1; have p2 := cell_got BA.out 2; have p3 := cell_got BA.out 3; have p4 := cell_got BA.out 4
            have q0 := cell_got BB.out 0; have q1 := cell_got BB.out 1; have q2 := cell_got BB.out 2; have q3 := cell_got BB.out 3; have q4 := cell_got BB.out 4
            have la := got_lt BA.out; have lb := got_lt BB.out
            go_wp2
            go_ret
            exact ⟨by rw [HQ.out]; rfl, O1.out⟩
        · have HQ : Hid (res = false) := Lib.hid (by rw [HRES.out]; exact decide_eq_false (fun e => hun (by injection e)))
          have t : ((un : Int) == un2) = false := beq_eq_false_iff_ne.2 hun
          have tn : ((un : Int) != un2) = true := bne_iff_ne.2 hun
          clear hun
          go_enter Tryz.func16, Tryz.ntmps16
          go_upto_region 1 with (fail)
          refine alloc_abs (G := fun w0 => Code.wp _ _ _ _ (w0.alloc _)) ?_
          intro w0 hb0 ho0 hs0
          have hlt0 : w.heap.size < w0.heap.size := got_lt hb0
          rw [← hs0]
          refine alloc_abs (G := fun w0 => Code.wp _ _ _ _ w0) ?_
          intro w1 hb1 ho1 hs1
          have BA := Lib.hid (ho1.got hb0 (by simp)); have BB := Lib.hid hb1; have O1 := Lib.hid (ho0.nil_trans ho1)
          have HNE := Lib.hid hlt0
          clear hb0 ho0 hs0 hb1 ho1 hs1 hlt0
          generalize w.heap.size = ba at BA HNE ⊢
          generalize w0.heap.size = bb at BB HNE ⊢
          have p0 := cell_got BA.out 0; have p1 := cell_got BA.out 1; have p2 := cell_got BA.out 2; have p3 := cell_got BA.out 3; have p4 := cell_got BA.out 4
          have q0 := cell_got BB.out 0; have q1 := cell_got BB.out 1; have q2 := cell_got BB.out 2; have q3 := cell_got BB.out 3; have q4 := cell_got BB.out 4
          have la := got_lt BA.out; have lb := got_lt BB.out
          go_wp2
          go_ret
          exact ⟨by rw [HQ.out]; rfl, O1.out⟩
      · have HQ : Hid (res = false) := Lib.hid (by rw [HRES.out]; exact decide_eq_false (fun e => hft (by injection e with e1 e2 e3; rw [e3])))
        have t : (((ft.length : Nat) : Int) == ((ft2.length : Nat) : Int)) = false := by rw [beq_eq_false_iff_ne]; omega
        have tn : (((ft.length : Nat) : Int) != ((ft2.length : Nat) : Int)) = true := by rw [bne_iff_ne]; omega
        have tm : ((ft.length : Nat) == ft2.length) = false := by rw [beq_eq_false_iff_ne]; omega
        have tq : ((ft.length : Nat) != ft2.length) = true := by rw [bne_iff_ne]; omega
        clear hft
        go_enter Tryz.func16, Tryz.ntmps16
        go_upto_region 1 with (fail)
        refine alloc_abs (G := fun w0 => Code.wp _ _ _ _ (w0.alloc _)) ?_
        intro w0 hb0 ho0 hs0
        have hlt0 : w.heap.size < w0.heap.size := got_lt hb0
        rw [← hs0]
        refine alloc_abs (G := fun w0 => Code.wp _ _ _ _ w0) ?_
        intro w1 hb1 ho1 hs1
        have BA := Lib.hid (ho1.got hb0 (by simp)); have BB := Lib.hid hb1; have O1 := Lib.hid (ho0.nil_trans ho1)
        have HNE := Lib.hid hlt0
        clear hb0 ho0 hs0 hb1 ho1 hs1 hlt0
        generalize w.heap.size = ba at BA HNE ⊢
        generalize w0.heap.size = bb at BB HNE ⊢
        have p0 := cell_got BA.out 0; have p1 := cell_got BA.out 1; have p2 := cell_got BA.out 2; have p3 := cell_got BA.out 3; have p4 := cell_got BA.out 4
        have q0 := cell_got BB.out 0; have q1 := cell_got BB.out 1; have q2 := cell_got BB.out 2; have q3 := cell_got BB.out 3; have q4 := cell_got BB.out 4
        have la := got_lt BA.out; have lb := got_lt BB.out
        go_wp2
        go_ret
        exact ⟨by rw [HQ.out]; rfl, O1.out⟩
    · have HQ : Hid (res = false) := Lib.hid (by rw [HRES.out]; exact decide_eq_false (fun e => hlk (by injection e with e1 e2 e3; have := congrArg List.length e2; simp at this; omega)))
      have t : (((lk.length : Nat) : Int) == ((lk2.length : Nat) : Int)) = false := by rw [beq_eq_false_iff_ne]; omega
      have tn : (((lk.length : Nat) : Int) != ((lk2.length : Nat) : Int)) = true := by rw [bne_iff_ne]; omega
      have tm : ((lk.length : Nat) == lk2.length) = false := by rw [beq_eq_false_iff_ne]; omega
      have tq : ((lk.length : Nat) != lk2.length) = true := by rw [bne_iff_ne]; omega
      clear hlk
      go_enter Tryz.func16, Tryz.ntmps16
      go_upto_region 1 with (fail)
      refine alloc_abs (G := fun w0 => Code.wp _ _ _ _ (w0.alloc _)) ?_
      intro w0 hb0 ho0 hs0
      have hlt0 : w.heap.size < w0.heap.size := got_lt hb0
      rw [← hs0]
      refine alloc_abs (G := fun w0 => Code.wp _ _ _ _ w0) ?_
      intro w1 hb1 ho1 hs1
      have BA := Lib.hid (ho1.got hb0 (by simp)); have BB := Lib.hid hb1; have O1 := Lib.hid (ho0.nil_trans ho1)
      have HNE := Lib.hid hlt0
      clear hb0 ho0 hs0 hb1 ho1 hs1 hlt0
      generalize w.heap.size = ba at BA HNE ⊢
      generalize w0.heap.size = bb at BB HNE ⊢
      have p0 := cell_got BA.out 0; have p1 := cell_got BA.out 1; have p2 := cell_got BA.out 2; have p3 := cell_got BA.out 3; have p4 := cell_got BA.out 4
      have q0 := cell_got BB.out 0; have q1 := cell_got BB.out 1; have q2 := cell_got BB.out 2; have q3 := cell_got BB.out 3; have q4 := cell_got BB.out 4
      have la := got_lt BA.out; have lb := got_lt BB.out
      go_wp2
      go_ret
      exact ⟨by rw [HQ.out]; rfl, O1.out⟩
  · have HQ : Hid (res = false) := Lib.hid (by rw [HRES.out]; exact decide_eq_false (fun e => hnd (by injection e with e1 e2 e3; have := congrArg List.length e1; simp at this; omega)))
    have t : (((nd.length : Nat) : Int) == ((nd2.length : Nat) : Int)) = false := by rw [beq_eq_false_iff_ne]; omega
    have tn : (((nd.length : Nat) : Int) != ((nd2.length : Nat) : Int)) = true := by rw [bne_iff_ne]; omega
    have tm : ((nd.length : Nat) == nd2.length) = false := by rw [beq_eq_false_iff_ne]; omega
    have tq : ((nd.length : Nat) != nd2.length) = true := by rw [bne_iff_ne]; omega
    clear hnd
    go_enter Tryz.func16, Tryz.ntmps16
    go_upto_region 1 with (fail)
    refine alloc_abs (G := fun w0 => Code.wp _ _ _ _ (w0.alloc _)) ?_
    intro w0 hb0 ho0 hs0
    have hlt0 : w.heap.size < w0.heap.size := got_lt hb0
    rw [← hs0]
    refine alloc_abs (G := fun w0 => Code.wp _ _ _ _ w0) ?_
    intro w1 hb1 ho1 hs1
    have BA := Lib.hid (ho1.got hb0 (by simp)); have BB := Lib.hid hb1; have O1 := Lib.hid (ho0.nil_trans ho1)
    have HNE := Lib.hid hlt0
    clear hb0 ho0 hs0 hb1 ho1 hs1 hlt0
    generalize w.heap.size = ba at BA HNE ⊢
    generalize w0.heap.size = bb at BB HNE ⊢
    have p0 := cell_got BA.out 0; have p1 := cell_got BA.out 1; have p2 := cell_got BA.out 2; have p3 := cell_got BA.out 3; have p4 := cell_got BA.out 4
    have q0 := cell_got BB.out 0; have q1 := cell_got BB.out 1; have q2 := cell_got BB.out 2; have q3 := cell_got BB.out 3; have q4 := cell_got BB.out 4
    have la := got_lt BA.out; have lb := got_lt BB.out
    go_wp2
    go_ret
    exact ⟨by rw [HQ.out]; rfl, O1.out⟩
end Go.Proofs.YthmeifdgkodjlaaGreatDoor

/- small and feeds of the law. No condition; the length of the string. -/
namespace Go.Proofs.YthmeifdgkodjlaaGreatDoor
open Go.RowKit

/-- has a scene few parts? -/
def ndF (x : NdW) : Bool := decide (x.n.sg.length ≤ 20) && decide (x.n.sv.length ≤ 30)
def lkF (x : LkW) : Bool := decide (x.l.ch.length ≤ 20)
def smW (s : ScW) : Bool := (decide (s.nd.length ≤ 30) && (decide (s.lk.length ≤ 70) && decide (s.ft.length ≤ 40))) && (s.nd.all ndF && s.lk.all lkF)
set_option maxRecDepth 100000 in
set_option maxHeartbeats 2000000 in
theorem pSmall {w : World} (s : ScW) (h1 : VRow ndC 7 w s.pn s.nd.length s.cn s.nd) (h2 : VRow lkC 9 w s.pl s.lk.length s.cl s.lk) :
    Calls Tryz.prog 8 #[scV s] w fun e w' => e = .returned (.bool (smW s)) ∧ Only [] w w' := by
  obtain ⟨nd, lk, ft, un, sd, pn, cn, pl, cl, pf, cf⟩ := s
  simp only at h1 h2
  have VN := Lib.hid h1; have VL := Lib.hid h2
  obtain ⟨res, hres⟩ : ∃ res, res = smW ⟨nd, lk, ft, un, sd, pn, cn, pl, cl, pf, cf⟩ := ⟨_, rfl⟩
  have HRES : Hid (res = ((decide (nd.length ≤ 30) && (decide (lk.length ≤ 70) && decide (ft.length ≤ 40))) && (nd.all ndF && lk.all lkF))) := Lib.hid hres
  simp only [← hres, scV]
  clear h1 h2 hres
  by_cases a1 : nd.length ≤ 30
  · have d1 : decide ((nd.length : Int) > 30) = false := by simp; omega
    have d1' : decide (30 < (nd.length : Int)) = false := by simp; omega
    by_cases a2 : lk.length ≤ 70
    · have d2 : decide ((lk.length : Int) > 70) = false := by simp; omega
      have d2' : decide (70 < (lk.length : Int)) = false := by simp; omega
      by_cases a3 : ft.length ≤ 40
      · have d3 : decide ((ft.length : Int) > 40) = false := by simp; omega
        have d3' : decide (40 < (ft.length : Int)) = false := by simp; omega
        have g1 := Lib.hid a1; have g2 := Lib.hid a2; have g3 := Lib.hid a3
        go_enter Tryz.func8, Tryz.ntmps8
        go_upto_region 1 with (fail)
        refine alloc_abs (G := fun w0 => Code.wp _ _ _ _ w0) ?_
        intro w1 hb1 ho1 hs1
        have BA := Lib.hid hb1; have O1 := Lib.hid ho1
        clear hb1 ho1 hs1
        have p0 := cell_got BA.out 0; have p1 := cell_got BA.out 1; have p2 := cell_got BA.out 2; have p3 := cell_got BA.out 3; have p4 := cell_got BA.out 4
        have la := got_lt BA.out
        go_wp2
        clear p0 p1 p2 p3 p4 la
        have OX := Lib.hid (Only.refl [] w1)
        go_loopw [3] (fun vi wr => AlI w1 ndF nd vi wr) (fun vi _ => nd.length - (intOf vi).toNat)
        case atStart => exact ⟨0, Nat.zero_le _, rfl, rfl, Only.refl _ _⟩
        case round =>
          obtain ⟨k, hk, rfl, hal, ho⟩ := hrel
          have HAL := Lib.hid hal; have OO := Lib.hid ho
          have CA := Lib.hid ((OX.out.nil_trans ho).got BA.out (by simp)); have OA := Lib.hid ((O1.out.nil_trans OX.out).nil_trans ho)
          clear hal ho
          have p0 := cell_got CA.out 0; have p1 := cell_got CA.out 1; have p2 := cell_got CA.out 2; have p3 := cell_got CA.out 3; have p4 := cell_got CA.out 4
          have la := got_lt CA.out
          by_cases hlt : k < nd.length
          · obtain ⟨bk, off, hp, lb, c0, c1, c2, c3, c4, c5, c6⟩ := VN.out.nd OA.out hlt
            subst hp
            have HTK := Lib.hid (all_take nw0 hlt HAL.out); have HNO := Lib.hid (fun h => all_no (P := ndF) nw0 hlt h)
            have hkl : (k : Int) < (nd.length : Int) := by omega
            generalize nd.getD k nw0 = s at HTK HNO c0 c1 c2 c3 c4 c5 c6
            by_cases ha : s.n.sg.length ≤ 20
            · have e1 : decide ((s.n.sg.length : Int) > 20) = false := by simp; omega
              have e1' : decide (20 < (s.n.sg.length : Int)) = false := by simp; omega
              by_cases hb : s.n.sv.length ≤ 30
              · have e2 : decide ((s.n.sv.length : Int) > 30) = false := by simp; omega
                have e2' : decide (30 < (s.n.sv.length : Int)) = false := by simp; omega
                have HP : Hid (ndF s = true) := Lib.hid (by simp only [ndF]; simp [ha, hb])
                clear ha hb
                go_wp2
                go_roundw
                case rel => exact ⟨k + 1, by omega, by go_num, HTK.out.trans HP.out, OO.out⟩
                case measure => simp [intOf]; omega
              · have e2 : decide ((s.n.sv.length : Int) > 30) = true := by simp; omega
                have e2' : decide (30 < (s.n.sv.length : Int)) = true := by simp; omega
                have HQ : Hid (res = false) := Lib.hid (by
                  have h := HNO.out (by simp only [ndF]; simp [hb])
                  rw [HRES.out]
                  simp [h])
                clear ha hb
                go_wp2
                go_ret
                exact ⟨by rw [HQ.out]; rfl, OA.out⟩
            · have e1 : decide ((s.n.sg.length : Int) > 20) = true := by simp; omega
              have e1' : decide (20 < (s.n.sg.length : Int)) = true := by simp; omega
              have HQ : Hid (res = false) := Lib.hid (by
                have h := HNO.out (by simp only [ndF]; simp [ha])
                rw [HRES.out]
                simp [h])
              clear ha
              go_wp2
              go_ret
              exact ⟨by rw [HQ.out]; rfl, OA.out⟩
          · obtain rfl : k = nd.length := by omega
            have HEQ : Hid (nd.all ndF = true) := Lib.hid (by have := HAL.out; rwa [List.take_of_length_le (Nat.le_refl _)] at this)
            have OX2 := Lib.hid (OX.out.nil_trans OO.out)
            go_wp2
            clear p0 p1 p2 p3 p4 la
            clear OA CA OO HAL
            have OX := OX2
            have HEN := HEQ
            clear HEQ
            obtain ⟨wr1, hwr1⟩ : ∃ wr1 : World, wr1 = wr := ⟨_, rfl⟩
            subst hwr1
            go_loopw [4] (fun vi wr => AlI wr1 lkF lk vi wr) (fun vi _ => lk.length - (intOf vi).toNat)
            case atStart => exact ⟨0, Nat.zero_le _, rfl, rfl, Only.refl _ _⟩
            case round =>
              obtain ⟨k, hk, rfl, hal, ho⟩ := hrel
              have HAL := Lib.hid hal; have OO := Lib.hid ho
              have CA := Lib.hid ((OX.out.nil_trans ho).got BA.out (by simp)); have OA := Lib.hid ((O1.out.nil_trans OX.out).nil_trans ho)
              clear hal ho
              have p0 := cell_got CA.out 0; have p1 := cell_got CA.out 1; have p2 := cell_got CA.out 2; have p3 := cell_got CA.out 3; have p4 := cell_got CA.out 4
              have la := got_lt CA.out
              by_cases hlt : k < lk.length
              · obtain ⟨bk, off, hp, lb, c0, c1, c2, c3, c4, c5, c6, c7, c8⟩ := VL.out.lk OA.out hlt
                subst hp
                have HTK := Lib.hid (all_take lw0 hlt HAL.out); have HNO := Lib.hid (fun h => all_no (P := lkF) lw0 hlt h)
                have hkl : (k : Int) < (lk.length : Int) := by omega
                generalize lk.getD k lw0 = s at HTK HNO c0 c1 c2 c3 c4 c5 c6 c7 c8
                by_cases ha : s.l.ch.length ≤ 20
                · have e1 : decide ((s.l.ch.length : Int) > 20) = false := by simp; omega
                  have e1' : decide (20 < (s.l.ch.length : Int)) = false := by simp; omega
                  have HP : Hid (lkF s = true) := Lib.hid (by simp only [lkF]; simp [ha])
                  clear ha
                  go_wp2
                  go_roundw
                  case rel => exact ⟨k + 1, by omega, by go_num, HTK.out.trans HP.out, OO.out⟩
                  case measure => simp [intOf]; omega
                · have e1 : decide ((s.l.ch.length : Int) > 20) = true := by simp; omega
                  have e1' : decide (20 < (s.l.ch.length : Int)) = true := by simp; omega
                  have HQ : Hid (res = false) := Lib.hid (by
                    have h := HNO.out (by simp only [lkF]; simp [ha])
                    rw [HRES.out]
                    simp [h])
                  clear ha
                  go_wp2
                  go_ret
                  exact ⟨by rw [HQ.out]; rfl, OA.out⟩
              · obtain rfl : k = lk.length := by omega
                have HEQ : Hid (lk.all lkF = true) := Lib.hid (by have := HAL.out; rwa [List.take_of_length_le (Nat.le_refl _)] at this)
                have OX2 := Lib.hid (OX.out.nil_trans OO.out)
                have HQ : Hid (res = true) := Lib.hid (by rw [HRES.out, HEN.out, HEQ.out]; simp [g1.out, g2.out, g3.out])
                go_wp2
                go_ret
                exact ⟨by rw [HQ.out]; rfl, O1.out.nil_trans OX2.out⟩
      · have d3 : decide ((ft.length : Int) > 40) = true := by simp; omega
        have d3' : decide (40 < (ft.length : Int)) = true := by simp; omega
        have HQ : Hid (res = false) := Lib.hid (by rw [HRES.out]; simp [a3])
        clear a3
        go_enter Tryz.func8, Tryz.ntmps8
        go_upto_region 1 with (fail)
        refine alloc_abs (G := fun w0 => Code.wp _ _ _ _ w0) ?_
        intro w1 hb1 ho1 hs1
        have BA := Lib.hid hb1; have O1 := Lib.hid ho1
        clear hb1 ho1 hs1
        have p0 := cell_got BA.out 0; have p1 := cell_got BA.out 1; have p2 := cell_got BA.out 2; have p3 := cell_got BA.out 3; have p4 := cell_got BA.out 4
        have la := got_lt BA.out
        go_wp2
        go_ret
        exact ⟨by rw [HQ.out]; rfl, O1.out⟩
    · have d2 : decide ((lk.length : Int) > 70) = true := by simp; omega
      have d2' : decide (70 < (lk.length : Int)) = true := by simp; omega
      have HQ : Hid (res = false) := Lib.hid (by rw [HRES.out]; simp [a2])
      clear a2
      go_enter Tryz.func8, Tryz.ntmps8
      go_upto_region 1 with (fail)
      refine alloc_abs (G := fun w0 => Code.wp _ _ _ _ w0) ?_
      intro w1 hb1 ho1 hs1
      have BA := Lib.hid hb1; have O1 := Lib.hid ho1
      clear hb1 ho1 hs1
      have p0 := cell_got BA.out 0; have p1 := cell_got BA.out 1; have p2 := cell_got BA.out 2; have p3 := cell_got BA.out 3; have p4 := cell_got BA.out 4
      have la := got_lt BA.out
      go_wp2
      go_ret
      exact ⟨by rw [HQ.out]; rfl, O1.out⟩
  · have d1 : decide ((nd.length : Int) > 30) = true := by simp; omega
    have d1' : decide (30 < (nd.length : Int)) = true := by simp; omega
    have HQ : Hid (res = false) := Lib.hid (by rw [HRES.out]; simp [a1])
    clear a1
    go_enter Tryz.func8, Tryz.ntmps8
    go_upto_region 1 with (fail)
    refine alloc_abs (G := fun w0 => Code.wp _ _ _ _ w0) ?_
    intro w1 hb1 ho1 hs1
    have BA := Lib.hid hb1; have O1 := Lib.hid ho1
    clear hb1 ho1 hs1
    have p0 := cell_got BA.out 0; have p1 := cell_got BA.out 1; have p2 := cell_got BA.out 2; have p3 := cell_got BA.out 3; have p4 := cell_got BA.out 4
    have la := got_lt BA.out
    go_wp2
    go_ret
    exact ⟨by rw [HQ.out]; rfl, O1.out⟩
def FdI (L : List UInt8) (v vi : Value) (w wr : World) : Prop := ∃ k : Nat, k ≤ L.length ∧ vi = .int .i64 k ∧ v = .int .i64 ((L.take k).count 10) ∧ w = wr
set_option maxRecDepth 100000 in
set_option maxHeartbeats 2000000 in
theorem pFeeds (X : ByteArray) (hs : X.size ≤ 1000000) (w : World) :
    Calls Tryz.prog 17 #[.string X] w fun e w' => e = .returned (.int .i64 (X.data.toList.count 10)) ∧ w = w' := by
  obtain ⟨L, hL⟩ : ∃ L, X.data.toList = L := ⟨_, rfl⟩
  have hsz : X.size = L.length := by rw [← hL, Array.length_toList]; rfl
  rw [hL]
  have hget : ∀ k (h1 : k < X.size) (h2 : k < L.length), X[k] = L[k] := fun k h1 h2 => by subst hL; rfl
  have HG := Lib.hid hget
  obtain ⟨res, hres⟩ : ∃ res : Nat, res = L.count 10 := ⟨_, rfl⟩
  rw [← hres]
  have HRES := Lib.hid hres
  clear hL hget hres
  go_enter Tryz.func17, Tryz.ntmps17
  go_wp2
  go_loopw [3, 4] (fun v vi wr => FdI L v vi w wr) (fun _ vi _ => L.length - (intOf vi).toNat)
  case atStart => exact ⟨0, Nat.zero_le _, rfl, rfl, rfl⟩
  case round =>
    obtain ⟨k, hk, rfl, rfl, rfl⟩ := hrel
    have hcl : (L.take k).count 10 ≤ k := by have := List.count_le_length (a := (10 : UInt8)) (l := L.take k); rw [List.length_take] at this; omega
    by_cases hlt : k < L.length
    · have hki : (k : Int) < (X.size : Int) := by omega
      have hki2 : (k : Int) < (L.length : Int) := by omega
      have hxk : X[k]'(by omega) = L[k]'hlt := HG.out k (by omega) hlt
      have htk : (L.take (k + 1)).count 10 = (L.take k).count 10 + if L[k]'hlt = 10 then 1 else 0 := by
        rw [List.take_succ_eq_append_getElem hlt, List.count_append, List.count_singleton]
        simp only [beq_iff_eq]
      rw [← hxk] at htk
      generalize hxc : X[k]'(by omega) = c at htk
      have HT := Lib.hid htk
      generalize (L.take k).count 10 = cn at hcl HT
      clear htk hxk
      by_cases hc : c = 10
      · have e1 : ((c.toNat : Int) == 10) = true := by rw [hc]; rfl
        have HC : Hid ((L.take (k + 1)).count 10 = cn + 1) := Lib.hid (by rw [HT.out, if_pos hc])
        clear hc
        go_wp2
        go_roundw
        case rel => exact ⟨k + 1, by omega, by go_num, by rw [HC.out]; go_num, rfl⟩
        case measure => simp [intOf]; omega
      · have e1 : ((c.toNat : Int) == 10) = false := by
          rw [beq_eq_false_iff_ne]
          intro h
          exact hc (UInt8.toNat.inj (by have e : (10 : UInt8).toNat = 10 := rfl; omega))
        have HC : Hid ((L.take (k + 1)).count 10 = cn) := Lib.hid (by rw [HT.out, if_neg hc, Nat.add_zero])
        clear hc
        go_wp2
        go_roundw
        case rel => exact ⟨k + 1, by omega, by go_num, by rw [HC.out], rfl⟩
        case measure => simp [intOf]; omega
    · obtain rfl : k = L.length := by omega
      rw [List.take_of_length_le (Nat.le_refl _)] at hcl ⊢
      rw [← HRES.out] at hcl ⊢
      go_wp2
      go_ret
      exact ⟨rfl, rfl⟩
end Go.Proofs.YthmeifdgkodjlaaGreatDoor

/- example of the law: the scene of the chapter. No condition. -/
namespace Go.Proofs.YthmeifdgkodjlaaGreatDoor
open Go.RowKit

/-- the scene of the chapter -/
def exS : Sc := ⟨[⟨0, [⟨0, 0⟩], 0, true, 5, 0, []⟩, ⟨-3, [⟨0, 100⟩, ⟨7, -50⟩], 100, false, 0, 9, [0]⟩], [⟨0, 1, 10, 20, 0, 1, 0, 18446744073709551615, [⟨5, 1, 30⟩]⟩], [⟨0, 1, 2, 2, -4⟩], 100, 7⟩
def exW (n : Nat) : ScW := ⟨[⟨⟨0, [⟨0, 0⟩], 0, true, 5, 0, []⟩, some ⟨n + 1, 0, none⟩, 1, none, 0⟩, ⟨⟨-3, [⟨0, 100⟩, ⟨7, -50⟩], 100, false, 0, 9, [0]⟩, some ⟨n + 1 + 1, 0, none⟩, 2, some ⟨n + 1 + 1 + 1, 0, none⟩, 1⟩], [⟨⟨0, 1, 10, 20, 0, 1, 0, 18446744073709551615, [⟨5, 1, 30⟩]⟩, some ⟨n + 1 + 1 + 1 + 1 + 1, 0, none⟩, 1⟩], [⟨0, 1, 2, 2, -4⟩], 100, 7, some ⟨n + 1 + 1 + 1 + 1, 0, none⟩, 2, some ⟨n + 1 + 1 + 1 + 1 + 1 + 1, 0, none⟩, 1, some ⟨n + 1 + 1 + 1 + 1 + 1 + 1 + 1, 0, none⟩, 1⟩
theorem exW_sc (n : Nat) : (exW n).sc = exS := rfl
set_option maxRecDepth 100000 in
set_option maxHeartbeats 2000000 in
theorem pExample (w : World) :
    Calls Tryz.prog 20 #[] w fun e w' => e = .returned (scV (exW w.heap.size)) ∧ (exW w.heap.size).Ok w' ∧ Only [] w w' := by
  go_enter Tryz.func20, Tryz.ntmps20
  go_wp2
  refine wabs (G := fun W => bodyPost _ _ _ _ _ W) (R := fun W => W.heap[w.heap.size]? = some (.cells #[.slice (some ⟨w.heap.size + 1 + 1 + 1 + 1, 0, none⟩) 2 2, .slice (some ⟨w.heap.size + 1 + 1 + 1 + 1 + 1 + 1, 0, none⟩) 1 1, .slice (some ⟨w.heap.size + 1 + 1 + 1 + 1 + 1 + 1 + 1, 0, none⟩) 1 1, .int .i64 100, .int .u64 7] 27 (0, 0)) ∧ W.heap[w.heap.size + 1]? = some (.cells #[.int .i64 0, .int .i64 0] 96 (0, 0)) ∧ W.heap[w.heap.size + 1 + 1]? = some (.cells #[.int .i64 0, .int .i64 100, .int .i64 7, .int .i64 (-50)] 96 (0, 0)) ∧ W.heap[w.heap.size + 1 + 1 + 1]? = some (.cells #[.int .i64 0] 3 (0, 0)) ∧ W.heap[w.heap.size + 1 + 1 + 1 + 1]? = some (.cells #[.int .i64 0, .slice (some ⟨w.heap.size + 1, 0, none⟩) 1 1, .int .i64 0, .bool true, .int .i64 5, .int .i64 0, .slice none 0 0, .int .i64 (-3), .slice (some ⟨w.heap.size + 1 + 1, 0, none⟩) 2 2, .int .i64 100, .bool false, .int .i64 0, .int .i64 9, .slice (some ⟨w.heap.size + 1 + 1 + 1, 0, none⟩) 1 1] 48 (0, 0)) ∧ W.heap[w.heap.size + 1 + 1 + 1 + 1 + 1]? = some (.cells #[.int .i64 5, .int .i64 1, .int .i64 30] 98 (0, 0)) ∧ W.heap[w.heap.size + 1 + 1 + 1 + 1 + 1 + 1]? = some (.cells #[.int .i64 0, .int .i64 1, .int .i64 10, .int .i64 20, .int .i64 0, .int .i64 1, .int .i64 0, .int .u64 18446744073709551615, .slice (some ⟨w.heap.size + 1 + 1 + 1 + 1 + 1, 0, none⟩) 1 1] 54 (0, 0)) ∧ W.heap[w.heap.size + 1 + 1 + 1 + 1 + 1 + 1 + 1]? = some (.cells #[.int .i64 0, .int .i64 1, .int .i64 2, .int .i64 2, .int .i64 (-4)] 60 (0, 0)) ∧ Only [] w W) ?_ ?_
  · have k0 := alloc_new w (.cells #[.slice (some ⟨w.heap.size + 1 + 1 + 1 + 1, 0, none⟩) 2 2, .slice (some ⟨w.heap.size + 1 + 1 + 1 + 1 + 1 + 1, 0, none⟩) 1 1, .slice (some ⟨w.heap.size + 1 + 1 + 1 + 1 + 1 + 1 + 1, 0, none⟩) 1 1, .int .i64 100, .int .u64 7] 27 (0, 0))
    have k1 := alloc_new (w.alloc (.cells #[.slice (some ⟨w.heap.size + 1 + 1 + 1 + 1, 0, none⟩) 2 2, .slice (some ⟨w.heap.size + 1 + 1 + 1 + 1 + 1 + 1, 0, none⟩) 1 1, .slice (some ⟨w.heap.size + 1 + 1 + 1 + 1 + 1 + 1 + 1, 0, none⟩) 1 1, .int .i64 100, .int .u64 7] 27 (0, 0))) (.cells #[.int .i64 0, .int .i64 0] 96 (0, 0))
    have k2 := alloc_new ((w.alloc (.cells #[.slice (some ⟨w.heap.size + 1 + 1 + 1 + 1, 0, none⟩) 2 2, .slice (some ⟨w.heap.size + 1 + 1 + 1 + 1 + 1 + 1, 0, none⟩) 1 1, .slice (some ⟨w.heap.size + 1 + 1 + 1 + 1 + 1 + 1 + 1, 0, none⟩) 1 1, .int .i64 100, .int .u64 7] 27 (0, 0))).alloc (.cells #[.int .i64 0, .int .i64 0] 96 (0, 0))) (.cells #[.int .i64 0, .int .i64 100, .int .i64 7, .int .i64 (-50)] 96 (0, 0))
    have k3 := alloc_new (((w.alloc (.cells #[.slice (some ⟨w.heap.size + 1 + 1 + 1 + 1, 0, none⟩) 2 2, .slice (some ⟨w.heap.size + 1 + 1 + 1 + 1 + 1 + 1, 0, none⟩) 1 1, .slice (some ⟨w.heap.size + 1 + 1 + 1 + 1 + 1 + 1 + 1, 0, none⟩) 1 1, .int .i64 100, .int .u64 7] 27 (0, 0))).alloc (.cells #[.int .i64 0, .int .i64 0] 96 (0, 0))).alloc (.cells #[.int .i64 0, .int .i64 100, .int .i64 7, .int .i64 (-50)] 96 (0, 0))) (.cells #[.int .i64 0] 3 (0, 0))
    have k4 := alloc_new ((((w.alloc (.cells #[.slice (some ⟨w.heap.size + 1 + 1 + 1 + 1, 0, none⟩) 2 2, .slice (some ⟨w.heap.size + 1 + 1 + 1 + 1 + 1 + 1, 0, none⟩) 1 1, .slice (some ⟨w.heap.size + 1 + 1 + 1 + 1 + 1 + 1 + 1, 0, none⟩) 1 1, .int .i64 100, .int .u64 7] 27 (0, 0))).alloc (.cells #[.int .i64 0, .int .i64 0] 96 (0, 0))).alloc (.cells #[.int .i64 0, .int .i64 100, .int .i64 7, .int .i64 (-50)] 96 (0, 0))).alloc (.cells #[.int .i64 0] 3 (0, 0))) (.cells #[.int .i64 0, .slice (some ⟨w.heap.size + 1, 0, none⟩) 1 1, .int .i64 0, .bool true, .int .i64 5, .int .i64 0, .slice none 0 0, .int .i64 (-3), .slice (some ⟨w.heap.size + 1 + 1, 0, none⟩) 2 2, .int .i64 100, .bool false, .int .i64 0, .int .i64 9, .slice (some ⟨w.heap.size + 1 + 1 + 1, 0, none⟩) 1 1] 48 (0, 0))
    have k5 := alloc_new (((((w.alloc (.cells #[.slice (some ⟨w.heap.size + 1 + 1 + 1 + 1, 0, none⟩) 2 2, .slice (some ⟨w.heap.size + 1 + 1 + 1 + 1 + 1 + 1, 0, none⟩) 1 1, .slice (some ⟨w.heap.size + 1 + 1 + 1 + 1 + 1 + 1 + 1, 0, none⟩) 1 1, .int .i64 100, .int .u64 7] 27 (0, 0))).alloc (.cells #[.int .i64 0, .int .i64 0] 96 (0, 0))).alloc (.cells #[.int .i64 0, .int .i64 100, .int .i64 7, .int .i64 (-50)] 96 (0, 0))).alloc (.cells #[.int .i64 0] 3 (0, 0))).alloc (.cells #[.int .i64 0, .slice (some ⟨w.heap.size + 1, 0, none⟩) 1 1, .int .i64 0, .bool true, .int .i64 5, .int .i64 0, .slice none 0 0, .int .i64 (-3), .slice (some ⟨w.heap.size + 1 + 1, 0, none⟩) 2 2, .int .i64 100, .bool false, .int .i64 0, .int .i64 9, .slice (some ⟨w.heap.size + 1 + 1 + 1, 0, none⟩) 1 1] 48 (0, 0))) (.cells #[.int .i64 5, .int .i64 1, .int .i64 30] 98 (0, 0))
    have k6 := alloc_new ((((((w.alloc (.cells #[.slice (some ⟨w.heap.size + 1 + 1 + 1 + 1, 0, none⟩) 2 2, .slice (some ⟨w.heap.size + 1 + 1 + 1 + 1 + 1 + 1, 0, none⟩) 1 1, .slice (some ⟨w.heap.size + 1 + 1 + 1 + 1 + 1 + 1 + 1, 0, none⟩) 1 1, .int .i64 100, .int .u64 7] 27 (0, 0))).alloc (.cells #[.int .i64 0, .int .i64 0] 96 (0, 0))).alloc (.cells #[.int .i64 0, .int .i64 100, .int .i64 7, .int .i64 (-50)] 96 (0, 0))).alloc (.cells #[.int .i64 0] 3 (0, 0))).alloc (.cells #[.int .i64 0, .slice (some ⟨w.heap.size + 1, 0, none⟩) 1 1, .int .i64 0, .bool true, .int .i64 5, .int .i64 0, .slice none 0 0, .int .i64 (-3), .slice (some ⟨w.heap.size + 1 + 1, 0, none⟩) 2 2, .int .i64 100, .bool false, .int .i64 0, .int .i64 9, .slice (some ⟨w.heap.size + 1 + 1 + 1, 0, none⟩) 1 1] 48 (0, 0))).alloc (.cells #[.int .i64 5, .int .i64 1, .int .i64 30] 98 (0, 0))) (.cells #[.int .i64 0, .int .i64 1, .int .i64 10, .int .i64 20, .int .i64 0, .int .i64 1, .int .i64 0, .int .u64 18446744073709551615, .slice (some ⟨w.heap.size + 1 + 1 + 1 + 1 + 1, 0, none⟩) 1 1] 54 (0, 0))
    have k7 := alloc_new (((((((w.alloc (.cells #[.slice (some ⟨w.heap.size + 1 + 1 + 1 + 1, 0, none⟩) 2 2, .slice (some ⟨w.heap.size + 1 + 1 + 1 + 1 + 1 + 1, 0, none⟩) 1 1, .slice (some ⟨w.heap.size + 1 + 1 + 1 + 1 + 1 + 1 + 1, 0, none⟩) 1 1, .int .i64 100, .int .u64 7] 27 (0, 0))).alloc (.cells #[.int .i64 0, .int .i64 0] 96 (0, 0))).alloc (.cells #[.int .i64 0, .int .i64 100, .int .i64 7, .int .i64 (-50)] 96 (0, 0))).alloc (.cells #[.int .i64 0] 3 (0, 0))).alloc (.cells #[.int .i64 0, .slice (some ⟨w.heap.size + 1, 0, none⟩) 1 1, .int .i64 0, .bool true, .int .i64 5, .int .i64 0, .slice none 0 0, .int .i64 (-3), .slice (some ⟨w.heap.size + 1 + 1, 0, none⟩) 2 2, .int .i64 100, .bool false, .int .i64 0, .int .i64 9, .slice (some ⟨w.heap.size + 1 + 1 + 1, 0, none⟩) 1 1] 48 (0, 0))).alloc (.cells #[.int .i64 5, .int .i64 1, .int .i64 30] 98 (0, 0))).alloc (.cells #[.int .i64 0, .int .i64 1, .int .i64 10, .int .i64 20, .int .i64 0, .int .i64 1, .int .i64 0, .int .u64 18446744073709551615, .slice (some ⟨w.heap.size + 1 + 1 + 1 + 1 + 1, 0, none⟩) 1 1] 54 (0, 0))) (.cells #[.int .i64 0, .int .i64 1, .int .i64 2, .int .i64 2, .int .i64 (-4)] 60 (0, 0))
    simp only [World.size_alloc] at k0 k1 k2 k3 k4 k5 k6 k7
    exact ⟨(alloc_old (alloc_old (alloc_old (alloc_old (alloc_old (alloc_old (alloc_old k0))))))), (alloc_old (alloc_old (alloc_old (alloc_old (alloc_old (alloc_old k1)))))), (alloc_old (alloc_old (alloc_old (alloc_old (alloc_old k2))))), (alloc_old (alloc_old (alloc_old (alloc_old k3)))), (alloc_old (alloc_old (alloc_old k4))), (alloc_old (alloc_old k5)), (alloc_old k6), k7, (((((((((Only.refl [] w).alloc _).alloc _).alloc _).alloc _).alloc _).alloc _).alloc _).alloc _)⟩
  rintro W ⟨k0, k1, k2, k3, k4, k5, k6, k7, ho⟩
  have r1 : RowAt sgC 96 2 W _ 1 [⟨0, 0⟩] := ⟨_, k1, rfl, by decide, by decide, rfl⟩
  have r2 : RowAt sgC 96 2 W _ 2 [⟨0, 100⟩, ⟨7, -50⟩] := ⟨_, k2, rfl, by decide, by decide, rfl⟩
  have r3 : RowAt itC 3 1 W _ 1 [0] := ⟨_, k3, rfl, by decide, by decide, rfl⟩
  have r4 : RowAt ndC 48 7 W _ 2 (exW w.heap.size).nd := ⟨_, k4, rfl, Nat.le_refl 2, by decide, rfl⟩
  have r5 : RowAt chC 98 3 W _ 1 [⟨5, 1, 30⟩] := ⟨_, k5, rfl, by decide, by decide, rfl⟩
  have r6 : RowAt lkC 54 9 W _ 1 (exW w.heap.size).lk := ⟨_, k6, rfl, Nat.le_refl 1, by decide, rfl⟩
  have r7 : RowAt ftC 60 5 W _ 1 [⟨0, 1, 2, 2, -4⟩] := ⟨_, k7, rfl, by decide, by decide, rfl⟩
  have c0 := cell_got k0 0; have c1 := cell_got k0 1; have c2 := cell_got k0 2; have c3 := cell_got k0 3; have c4 := cell_got k0 4
  refine bodyPost_ret (v := scV (exW w.heap.size)) (by simp [results, Tryz.results20, go_sem, c0, c1, c2, c3, c4, scV, exW]) rfl ⟨rfl, ⟨r4.vrow ndC_len rfl, r6.vrow lkC_len rfl, r7.vrow ftC_len rfl, ?_, ?_, by simp [exW], by simp [exW], by simp [exW]⟩, ho⟩
  · intro x hx
    simp only [exW, List.mem_cons, List.not_mem_nil, or_false] at hx
    rcases hx with rfl | rfl
    · exact ⟨r1.vrow sgC_len rfl, vrow_nil _, by simp, by simp⟩
    · exact ⟨r2.vrow sgC_len rfl, r3.vrow itC_len rfl, by simp, by simp⟩
  · intro x hx
    simp only [exW, List.mem_cons, List.not_mem_nil, or_false] at hx
    subst hx
    exact ⟨r5.vrow chC_len rfl, by simp⟩
end Go.Proofs.YthmeifdgkodjlaaGreatDoor

/- What the chapter's example comes to, in plain Lean. No condition. -/
namespace Go.Proofs.YthmeifdgkodjlaaGreatDoor
open Go.RowKit

set_option maxRecDepth 100000

/-- the decimal digits, by a bound on their number -/
def digs : Nat → Nat → List UInt8
  | 0, n => [UInt8.ofNat (48 + n)]
  | f + 1, n => if n < 10 then [UInt8.ofNat (48 + n)] else digs f (n / 10) ++ [UInt8.ofNat (48 + n % 10)]
theorem digs_ok : ∀ (f n : Nat), n < 10 ^ (f + 1) → Lib.decDigits n = digs f n
  | 0, n, h => by rw [Lib.decDigits, dif_pos (by simpa using h)]; rfl
  | f + 1, n, h => by
    rw [Lib.decDigits, digs]
    split
    · rename_i h1; rfl
    · rename_i h1
      rw [digs_ok f (n / 10) (by rw [Nat.pow_succ] at h; omega)]
theorem it_pos (f n : Nat) (h : n < 10 ^ (f + 1)) : it (n : Int) = digs f n := by unfold it; rw [Lib.itoa_nonneg, digs_ok f n h]
theorem it_neg (f : Nat) (n : Int) (hn : n < 0) (h : n.natAbs < 10 ^ (f + 1)) : it n = 45 :: digs f n.natAbs := by
  unfold it Lib.itoa
  rw [if_pos hn, digs_ok f _ h]
theorem it_100 : it 100 = [49, 48, 48] := (it_pos 20 100 (by decide)).trans (by decide)
theorem it_0 : it 0 = [48] := (it_pos 20 0 (by decide)).trans (by decide)
theorem it_5 : it 5 = [53] := (it_pos 20 5 (by decide)).trans (by decide)
theorem it_m3 : it (-3) = [45, 51] := (it_neg 20 (-3) (by decide) (by decide)).trans (by decide)
theorem it_1 : it 1 = [49] := (it_pos 20 1 (by decide)).trans (by decide)
theorem it_9 : it 9 = [57] := (it_pos 20 9 (by decide)).trans (by decide)
theorem it_7 : it 7 = [55] := (it_pos 20 7 (by decide)).trans (by decide)
theorem it_m50 : it (-50) = [45, 53, 48] := (it_neg 20 (-50) (by decide) (by decide)).trans (by decide)
theorem it_10 : it 10 = [49, 48] := (it_pos 20 10 (by decide)).trans (by decide)
theorem it_20 : it 20 = [50, 48] := (it_pos 20 20 (by decide)).trans (by decide)
theorem it_30 : it 30 = [51, 48] := (it_pos 20 30 (by decide)).trans (by decide)
theorem it_2 : it 2 = [50] := (it_pos 20 2 (by decide)).trans (by decide)
theorem it_m4 : it (-4) = [45, 52] := (it_neg 20 (-4) (by decide) (by decide)).trans (by decide)
theorem dd_7 : Lib.decDigits 7 = [55] := (digs_ok 20 7 (by decide)).trans (by decide)
theorem dd_max : Lib.decDigits 18446744073709551615 = [49, 56, 52, 52, 54, 55, 52, 52, 48, 55, 51, 55, 48, 57, 53, 53, 49, 54, 49, 53] := (digs_ok 20 18446744073709551615 (by decide)).trans (by decide)
/-- the text of the example -/
def exT : List UInt8 := [117, 110, 116, 105, 108, 32, 49, 48, 48, 10, 115, 101, 101, 100, 32, 55, 10, 110, 111, 100, 101, 32, 48, 32, 116, 111, 108, 32, 48, 32, 115, 116, 97, 114, 116, 32, 48, 32, 114, 101, 102, 32, 53, 10, 111, 115, 99, 32, 48, 32, 48, 10, 115, 101, 103, 32, 48, 32, 48, 32, 48, 10, 110, 111, 100, 101, 32, 49, 32, 116, 111, 108, 32, 49, 48, 48, 32, 115, 116, 97, 114, 116, 32, 57, 10, 111, 115, 99, 32, 49, 32, 45, 51, 10, 115, 101, 103, 32, 49, 32, 48, 32, 49, 48, 48, 10, 115, 101, 103, 32, 49, 32, 55, 32, 45, 53, 48, 10, 117, 115, 101, 32, 49, 32, 48, 10, 108, 105, 110, 107, 32, 48, 32, 49, 32, 49, 48, 32, 50, 48, 32, 48, 32, 49, 32, 48, 32, 49, 56, 52, 52, 54, 55, 52, 52, 48, 55, 51, 55, 48, 57, 53, 53, 49, 54, 49, 53, 10, 99, 104, 97, 110, 103, 101, 32, 48, 32, 49, 32, 53, 32, 49, 32, 51, 48, 10, 102, 97, 117, 108, 116, 32, 48, 32, 49, 32, 50, 32, 115, 104, 105, 102, 116, 32, 45, 52, 10]
def exT2 : List UInt8 := [117, 110, 116, 105, 108, 32, 49, 48, 48, 10]
theorem ex_chk : chkS exS = 0 := by decide
theorem ex_sd : SdOk exS := ⟨⟨by decide, by decide⟩, by decide⟩
theorem ex_lines : scW exS = [[[117, 110, 116, 105, 108], [49, 48, 48]], [[115, 101, 101, 100], [55]], [[110, 111, 100, 101], [48], [116, 111, 108], [48], [115, 116, 97, 114, 116], [48], [114, 101, 102], [53]], [[111, 115, 99], [48], [48]], [[115, 101, 103], [48], [48], [48]], [[110, 111, 100, 101], [49], [116, 111, 108], [49, 48, 48], [115, 116, 97, 114, 116], [57]], [[111, 115, 99], [49], [45, 51]], [[115, 101, 103], [49], [48], [49, 48, 48]], [[115, 101, 103], [49], [55], [45, 53, 48]], [[117, 115, 101], [49], [48]], [[108, 105, 110, 107], [48], [49], [49, 48], [50, 48], [48], [49], [48], [49, 56, 52, 52, 54, 55, 52, 52, 48, 55, 51, 55, 48, 57, 53, 53, 49, 54, 49, 53]], [[99, 104, 97, 110, 103, 101], [48], [49], [53], [49], [51, 48]], [[102, 97, 117, 108, 116], [48], [49], [50], [115, 104, 105, 102, 116], [45, 52]]] := by
  simp only [exS, scW, ndsW, ndW, ndH, sgW, svW, lkW, lkH, chW, ftW, List.map_cons, List.map_nil, List.flatMap_cons, List.flatMap_nil, List.append_nil, List.nil_append, List.cons_append, Int.zero_add, if_true, Bool.false_eq_true, if_false, Int.reduceSub, Int.reduceToNat, it_100, it_0, it_5, it_m3, it_1, it_9, it_7, it_m50, it_10, it_20, it_30, it_2, it_m4, dd_7, dd_max]
  rfl
theorem ex_text : scT exS = exT := by
  unfold scT
  rw [ex_lines]
  decide
theorem ex_txt : txtS exS = (exT, 0) := by unfold txtS; rw [if_pos ex_chk, ex_text]
theorem ex_prs : prsS exT = (exS, 0, 0) := by rw [← ex_text]; exact back_sc ex_chk ex_sd
theorem ex_no : prsS exT2 = (sc0, 2, 19) := by
  have h : pcs 10 exT2 = [[117, 110, 116, 105, 108, 32, 49, 48, 48], []] := by decide
  have h2 : pcs 32 ([117, 110, 116, 105, 108, 32, 49, 48, 48] : List UInt8) = [wUntil, [49, 48, 48]] := by decide
  have h3 : numO [49, 48, 48] = some 100 := by rw [← it_100]; exact numO_itoa ⟨by decide, by decide⟩
  have h4 : rdW ss0 [wUntil, [49, 48, 48]] = some ⟨{ sc0 with un := 100 }, 1⟩ := by
    rw [rdW, if_pos rfl]
    simp only [rdUntil, h3]
    rfl
  unfold prsS
  rw [h, rdA, h2, h4]
  · rfl
  · intro e; cases e
theorem ex_l1 : lnk exS.lk 1 0 = some (0, true) := by decide
theorem ex_l2 : lnk exS.lk 0 2 = none := by decide
theorem ex_pc : ∀ p ∈ pcs 10 exT, p.length ≤ 99999 := by decide
theorem ex_ln : (lnsO 1 (pcs 10 exT)).length ≤ 99999 := by decide
theorem ex_pc2 : ∀ p ∈ pcs 10 exT2, p.length ≤ 99999 := by decide
theorem ex_ln2 : (lnsO 1 (pcs 10 exT2)).length ≤ 99999 := by decide
end Go.Proofs.YthmeifdgkodjlaaGreatDoor

/- awake of the law. Conditions: the library's variables are laid. -/
namespace Go.Proofs.YthmeifdgkodjlaaGreatDoor
open Go.RowKit

set_option maxRecDepth 100000 in
set_option maxHeartbeats 4000000 in
theorem pAwake (w : World) (he : Env w) :
    Calls Tryz.prog 9 #[] w fun e w' => e = .returned (.bool true) ∧ Only [] w w' := by
  have HE := Lib.hid he
  clear he
  go_enter Tryz.func9, Tryz.ntmps9
  go_wp2_with fail
  refine (pExample w).mono ?_
  rintro e w1 ⟨rfl, hok, ho1⟩
  have hsc := exW_sc w.heap.size
  generalize exW w.heap.size = sE at hok hsc ⊢
  obtain ⟨nd, lk, ft, un, sd, pn, cn, pl, cl, pf, cf⟩ := sE
  simp only [scV]
  have HOK := Lib.hid hok; have O1 := Lib.hid ho1; have HSC := Lib.hid hsc
  clear hok ho1 hsc
  go_upto_region 2 with (fail)
  refine alloc_abs (G := fun w0 => Code.wp _ _ _ _ w0) ?_
  intro w2 hb2 ho2 hs2
  have B2 := Lib.hid hb2; have O2 := Lib.hid (O1.out.nil_trans ho2)
  have HOK2 := Lib.hid (HOK.out.kept ho2)
  clear hb2 ho2 hs2 HOK O1
  have c0 := cell_got B2.out 0; have c1 := cell_got B2.out 1; have c2 := cell_got B2.out 2; have c3 := cell_got B2.out 3; have c4 := cell_got B2.out 4; have lc := got_lt B2.out
  have ht := pText _ HOK2.out (by rw [HSC.out]; exact ex_sd) (HE.out.kept O2.out).tab
  rw [HSC.out, ex_txt] at ht
  have HT := Lib.hid ht
  clear ht
  go_wp2_with fail
  refine HT.out.mono ?_
  rintro e w3 ⟨rfl, ho3⟩
  have O3 := Lib.hid (O2.out.nil_trans ho3); have B3 := Lib.hid (ho3.got B2.out (by simp)); have HOK3 := Lib.hid (HOK2.out.kept ho3)
  clear ho3 O2 B2 HOK2 HT c0 c1 c2 c3 c4 lc
  have HP := Lib.hid (fun X hX => pParse X exT hX (by rw [show X.size = exT.length by rw [← hX, Array.length_toList]; rfl]; decide) ex_pc ex_ln w3 (HE.out.kept O3.out))
  go_wp2_with fail
  refine (HP.out _ rfl).mono ?_
  rintro e w4 ⟨hr, ho4⟩
  rw [ex_prs] at hr
  obtain ⟨s2, hs2, hok4, rfl⟩ := hr
  obtain ⟨nd2, lk2, ft2, un2, sd2, pn2, cn2, pl2, cl2, pf2, cf2⟩ := s2
  simp only [scV]
  have O4 := Lib.hid (O3.out.nil_trans ho4); have B4 := Lib.hid (ho4.got B3.out (by simp)); have HOK4 := Lib.hid (HOK3.out.kept ho4); have HX4 := Lib.hid hok4; have HS2 := Lib.hid hs2
  clear ho4 O3 B3 HOK3 HP hok4 hs2
  go_upto_region 4 with (fail)
  refine alloc_abs (G := fun w0 => Code.wp _ _ _ _ w0) ?_
  intro w5 hb5 ho5 hs5
  have D5 := Lib.hid hb5; have O5 := Lib.hid (O4.out.nil_trans ho5); have B5 := Lib.hid (ho5.got B4.out (by simp)); have HOK5 := Lib.hid (HOK4.out.kept ho5); have HX5 := Lib.hid (HX4.out.kept ho5)
  clear hb5 ho5 hs5 O4 B4 HOK4 HX4
  have c0 := cell_got B5.out 0; have c1 := cell_got B5.out 1; have c2 := cell_got B5.out 2; have c3 := cell_got B5.out 3; have c4 := cell_got B5.out 4; have lc := got_lt B5.out
  have hl1 := pLnk _ 1 0 HOK5.out
  rw [HSC.out, ex_l1] at hl1
  have HL1 := Lib.hid hl1
  clear hl1
  go_wp2_with fail
  refine HL1.out.mono ?_
  rintro e w6 ⟨rfl, ho6⟩
  have D6 := Lib.hid (ho6.got D5.out (by simp)); have O6 := Lib.hid (O5.out.nil_trans ho6); have B6 := Lib.hid (ho6.got B5.out (by simp)); have HOK6 := Lib.hid (HOK5.out.kept ho6); have HX6 := Lib.hid (HX5.out.kept ho6)
  clear ho6 D5 O5 B5 HOK5 HX5 HL1 c0 c1 c2 c3 c4 lc
  have c0 := cell_got B6.out 0; have c1 := cell_got B6.out 1; have c2 := cell_got B6.out 2; have c3 := cell_got B6.out 3; have c4 := cell_got B6.out 4; have lc := got_lt B6.out
  have hl1 := pLnk _ 0 2 HOK6.out
  rw [HSC.out, ex_l2] at hl1
  have HL1 := Lib.hid hl1
  clear hl1
  simp only [lnkV]
  go_wp2_with fail
  refine HL1.out.mono ?_
  rintro e w7 ⟨rfl, ho7⟩
  have D7 := Lib.hid (ho7.got D6.out (by simp)); have O7 := Lib.hid (O6.out.nil_trans ho7); have B7 := Lib.hid (ho7.got B6.out (by simp)); have HOK7 := Lib.hid (HOK6.out.kept ho7); have HX7 := Lib.hid (HX6.out.kept ho7)
  clear ho7 D6 O6 B6 HOK6 HX6 HL1 c0 c1 c2 c3 c4 lc
  have HP := Lib.hid (fun X hX => pParse X exT2 hX (by rw [show X.size = exT2.length by rw [← hX, Array.length_toList]; rfl]; decide) ex_pc2 ex_ln2 w7 (HE.out.kept O7.out))
  simp only [lnkV]
  go_wp2_with fail
  refine (HP.out _ rfl).mono ?_
  rintro e w8 ⟨hr, ho8⟩
  rw [ex_no] at hr
  obtain ⟨s3, hs3, hok8, rfl⟩ := hr
  obtain ⟨nd3, lk3, ft3, un3, sd3, pn3, cn3, pl3, cl3, pf3, cf3⟩ := s3
  simp only [scV]
  have D8 := Lib.hid (ho8.got D7.out (by simp)); have O8 := Lib.hid (O7.out.nil_trans ho8); have B8 := Lib.hid (ho8.got B7.out (by simp)); have HOK8 := Lib.hid (HOK7.out.kept ho8); have HX8 := Lib.hid (HX7.out.kept ho8)
  clear ho8 D7 O7 B7 HOK7 HX7 HP hok8 hs3
  go_upto_region 7 with (fail)
  refine alloc_abs (G := fun w0 => Code.wp _ _ _ _ w0) ?_
  intro w9 hb9 ho9 hs9
  have D9 := Lib.hid (ho9.got D8.out (by simp)); have O9 := Lib.hid (O8.out.nil_trans ho9); have B9 := Lib.hid (ho9.got B8.out (by simp)); have HOK9 := Lib.hid (HOK8.out.kept ho9); have HX9 := Lib.hid (HX8.out.kept ho9)
  clear hb9 ho9 hs9 D8 O8 B8 HOK8 HX8
  have c0 := cell_got B9.out 0; have c1 := cell_got B9.out 1; have c2 := cell_got B9.out 2; have c3 := cell_got B9.out 3; have c4 := cell_got B9.out 4; have lc := got_lt B9.out
  have hck := pCheck _ HOK9.out
  rw [HSC.out, ex_chk] at hck
  have HCK := Lib.hid hck
  clear hck
  go_wp2_with fail
  refine HCK.out.mono ?_
  rintro e w10 ⟨rfl, ho10⟩
  have D10 := Lib.hid (ho10.got D9.out (by simp)); have O10 := Lib.hid (O9.out.nil_trans ho10); have B10 := Lib.hid (ho10.got B9.out (by simp)); have HOK10 := Lib.hid (HOK9.out.kept ho10); have HX10 := Lib.hid (HX9.out.kept ho10)
  clear ho10 D9 O9 B9 HOK9 HX9 HCK c0 c1 c2 c3 c4 lc
  have c0 := cell_got B10.out 0; have c1 := cell_got B10.out 1; have c2 := cell_got B10.out 2; have c3 := cell_got B10.out 3; have c4 := cell_got B10.out 4; have lc := got_lt B10.out
  have d0 := cell_got D10.out 0; have d1 := cell_got D10.out 1; have d2 := cell_got D10.out 2; have d3 := cell_got D10.out 3; have d4 := cell_got D10.out 4; have ld := got_lt D10.out
  have hsm := pSame HX10.out HOK10.out
  rw [HS2.out, HSC.out, decide_eq_true rfl] at hsm
  have HSM := Lib.hid hsm
  clear hsm
  have tT : (bstr exT).toList = [117, 110, 116, 105, 108, 32, 49, 48, 48, 10, 115, 101, 101, 100, 32, 55, 10, 110, 111, 100, 101, 32, 48, 32, 116, 111, 108, 32, 48, 32, 115, 116, 97, 114, 116, 32, 48, 32, 114, 101, 102, 32, 53, 10, 111, 115, 99, 32, 48, 32, 48, 10, 115, 101, 103, 32, 48, 32, 48, 32, 48, 10, 110, 111, 100, 101, 32, 49, 32, 116, 111, 108, 32, 49, 48, 48, 32, 115, 116, 97, 114, 116, 32, 57, 10, 111, 115, 99, 32, 49, 32, 45, 51, 10, 115, 101, 103, 32, 49, 32, 48, 32, 49, 48, 48, 10, 115, 101, 103, 32, 49, 32, 55, 32, 45, 53, 48, 10, 117, 115, 101, 32, 49, 32, 48, 10, 108, 105, 110, 107, 32, 48, 32, 49, 32, 49, 48, 32, 50, 48, 32, 48, 32, 49, 32, 48, 32, 49, 56, 52, 52, 54, 55, 52, 52, 48, 55, 51, 55, 48, 57, 53, 53, 49, 54, 49, 53, 10, 99, 104, 97, 110, 103, 101, 32, 48, 32, 49, 32, 53, 32, 49, 32, 51, 48, 10, 102, 97, 117, 108, 116, 32, 48, 32, 49, 32, 50, 32, 115, 104, 105, 102, 116, 32, 45, 52, 10] := by rw [Lib.toList_data]; rfl
  go_wp2_with fail
  refine HSM.out.mono ?_
  rintro e w11 ⟨rfl, ho11⟩
  have O11 := Lib.hid (O10.out.nil_trans ho11)
  clear ho11
  go_wp2
  go_ret
  exact ⟨rfl, O11.out⟩
end Go.Proofs.YthmeifdgkodjlaaGreatDoor

/- A scene that is given, as records in memory. No condition. -/
namespace Go.Proofs.YthmeifdgkodjlaaGreatDoor
open Go.ChangeShapes Go.WideShapes Go.ChangeAt Go.RowKit Go.Deep

/-- what a given scene's records point to -/
structure ScW.Ok0 (w : World) (s : ScW) : Prop where
  nd : VRow ndC 7 w s.pn s.nd.length s.cn s.nd
  lk : VRow lkC 9 w s.pl s.lk.length s.cl s.lk
  ft : VRow ftC 5 w s.pf s.ft.length s.cf s.ft
  ns : ∀ x ∈ s.nd, VRow sgC 2 w x.ps x.n.sg.length x.cs x.n.sg ∧ VRow itC 1 w x.pv x.n.sv.length x.cv x.n.sv
  ls : ∀ x ∈ s.lk, VRow chC 3 w x.p x.l.ch.length x.c x.l.ch ∧ 0 ≤ x.l.sd ∧ x.l.sd ≤ 18446744073709551615
  s0 : 0 ≤ s.sd
  s1 : s.sd ≤ 18446744073709551615
theorem ScW.Ok0.ok {w : World} {s : ScW} (h : s.Ok0 w) (hs : smW s = true) : s.Ok w := by
  unfold smW at hs
  simp only [Bool.and_eq_true, decide_eq_true_eq, List.all_eq_true, ndF, lkF] at hs
  obtain ⟨⟨a1, a2, a3⟩, a4, a5⟩ := hs
  exact ⟨h.nd, h.lk, h.ft, fun x hx => ⟨(h.ns x hx).1, (h.ns x hx).2, by have := (a4 x hx).1; omega, by have := (a4 x hx).2; omega⟩, fun x hx => ⟨(h.ls x hx).1, by have := a5 x hx; omega⟩, by omega, by omega, by omega⟩
theorem ScW.Ok0.sdOk {w : World} {s : ScW} (h : s.Ok0 w) : SdOk s.sc :=
  ⟨⟨h.s0, h.s1⟩, fun l hl => by obtain ⟨x, hx, rfl⟩ := List.mem_map.1 hl; exact (h.ls x hx).2⟩
section
variable {H : Type} {enc : TypeId × Value → H} {w : World}
/-- a field of a struct -/
theorem fld_at {P : Program} {e : TypeId} {fs : Array Field} {fuel : Nat} {cs : List Value} {x : DataW H × List MemPlace} (hs : P.underlying e = some (.struct fs)) (h : DataW.trod enc P w 0 (fun _ => true) true fuel e cs = some x)
    (j : Nat) (T : TypeId) (o k : Nat) (hf : (fs[j]?).map (fun f => (f.type, f.offset, P.cellsOf f.type)) = some (T, o, k)) : ∃ n y, DataW.trod enc P w 0 (fun _ => true) true n T ((cs.drop o).take k) = some y := by
  obtain ⟨ys, n, _, _, _, hyl, hfl⟩ := DataW.trod_struct hs h
  cases hj : fs[j]? with
  | none => rw [hj] at hf; cases hf
  | some f =>
    rw [hj] at hf
    simp only [Option.map_some, Option.some.injEq, Prod.mk.injEq] at hf
    obtain ⟨rfl, rfl, rfl⟩ := hf
    have hlt : j < fs.size := (Array.getElem?_eq_some_iff.1 hj).1
    exact ⟨n, ys[j]'(by omega), by rw [hfl j f hj]; exact List.getElem?_eq_getElem _⟩
theorem cs_len {P : Program} {e : TypeId} {fs : Array Field} {fuel : Nat} {cs : List Value} {x : DataW H × List MemPlace} (hs : P.underlying e = some (.struct fs)) (h : DataW.trod enc P w 0 (fun _ => true) true fuel e cs = some x) : cs.length = P.cellsOf e := by
  obtain ⟨ys, n, _, _, hl, _⟩ := DataW.trod_struct hs h
  exact hl
theorem list7 {α : Type} {l : List α} (h : l.length = 7) : ∃ a b c d e f g, l = [a, b, c, d, e, f, g] := by
  match l, h with
  | [a, b, c, d, e, f, g], _ => exact ⟨a, b, c, d, e, f, g, rfl⟩
theorem list9 {α : Type} {l : List α} (h : l.length = 9) : ∃ a b c d e f g i j, l = [a, b, c, d, e, f, g, i, j] := by
  match l, h with
  | [a, b, c, d, e, f, g, i, j], _ => exact ⟨a, b, c, d, e, f, g, i, j, rfl⟩
theorem list5 {α : Type} {l : List α} (h : l.length = 5) : ∃ a b c d e, l = [a, b, c, d, e] := by
  match l, h with
  | [a, b, c, d, e], _ => exact ⟨a, b, c, d, e, rfl⟩
theorem int_at {P : Program} {e : TypeId} {k : IntKind} {fuel : Nat} {v : Value} {x : DataW H × List MemPlace} (he : P.underlying e = some (.int k)) (h : DataW.trod enc P w 0 (fun _ => true) true fuel e [v] = some x) : ∃ z, v = .int k z ∧ (Lit.int k z).wf = true := by
  obtain ⟨z, h1, _, h2⟩ := DataW.trod_int he h
  exact ⟨z, by simpa using h1, h2⟩
theorem bool_at {P : Program} {e : TypeId} {fuel : Nat} {v : Value} {x : DataW H × List MemPlace} (he : P.underlying e = some .bool) (h : DataW.trod enc P w 0 (fun _ => true) true fuel e [v] = some x) : ∃ z, v = .bool z := by
  obtain ⟨z, h1, _⟩ := DataW.trod_bool he h
  exact ⟨z, by simpa using h1⟩
theorem slice_at {P : Program} {t e : TypeId} {fuel : Nat} {v : Value} {y : DataW H × List MemPlace} (ht : P.underlying t = some (.slice e)) (hf : DataW.trod enc P w 0 (fun _ => true) true fuel t [v] = some y) :
    ∃ a l c, v = .slice a l c ∧ DataW.Trod enc P w 0 (fun _ => true) true t (.slice a l c) y.1 y.2 := by
  obtain ⟨a, l, c, h⟩ := Joins.slice_form ht hf
  have hv : v = .slice a l c := by simpa using h
  subst hv
  exact ⟨a, l, c, rfl, fuel, by simpa [Value.cells] using hf⟩
set_option maxRecDepth 100000 in
theorem u64_of_wf {z : Int} (h : (Lit.int .u64 z).wf = true) : 0 ≤ z ∧ z ≤ 18446744073709551615 := by
  simp only [Lit.wf, IntKind.min, IntKind.max, IntKind.signed, IntKind.bits, Bool.and_eq_true, decide_eq_true_eq, Bool.false_eq_true, if_false] at h
  omega
set_option maxRecDepth 100000 in
theorem arr2_at {fuel : Nat} {a b : Value} {x : DataW H × List MemPlace} (h : DataW.trod enc Tryz.prog w 0 (fun _ => true) true fuel 49 [a, b] = some x) : ∃ c d, a = .int .i64 c ∧ b = .int .i64 d := by
  obtain ⟨ys, m, _, _, _, hl, hf⟩ := DataW.trod_array Tryz.underlying49 h
  have hc : Tryz.prog.cellsOf 3 = 1 := by kernel_rfl
  have f0 := hf 0 (by decide); have f1 := hf 1 (by decide)
  rw [hc] at f0 f1
  have g0 : ys[0]? = some (ys[0]'(by omega)) := List.getElem?_eq_getElem (by omega)
  have g1 : ys[1]? = some (ys[1]'(by omega)) := List.getElem?_eq_getElem (by omega)
  obtain ⟨c, hc0, _⟩ := int_at Tryz.underlying3 (f0.trans g0)
  obtain ⟨d, hd0, _⟩ := int_at Tryz.underlying3 (f1.trans g1)
  exact ⟨c, d, hc0, hd0⟩
theorem vrow_sgs {p : Option Addr} {n cap : Nat} {d : DataW H} {ps : List MemPlace} (h : DataW.Trod enc Tryz.prog w 0 (fun _ => true) true 43 (.slice p n cap) d ps) : ∃ l : List Sg, VRow sgC 2 w p n cap l := by
  obtain ⟨l, hl, _⟩ := vrow_of sgC 2 (fun _ => rfl) (by decide) (fun _ => True) Tryz.underlying43 (by kernel_rfl) h (fun fuel cs x hx => by
    obtain ⟨zs, h1, rfl, _⟩ := ints_of_struct Tryz.underlying96 (by kernel_rfl) (by kernel_rfl) (by kernel_rfl) hx
    match zs, h1 with
    | [a, b], _ => exact ⟨⟨a, b⟩, rfl, trivial⟩)
  exact ⟨l, hl⟩
theorem vrow_chs {p : Option Addr} {n cap : Nat} {d : DataW H} {ps : List MemPlace} (h : DataW.Trod enc Tryz.prog w 0 (fun _ => true) true 50 (.slice p n cap) d ps) : ∃ l : List Ch, VRow chC 3 w p n cap l := by
  obtain ⟨l, hl, _⟩ := vrow_of chC 3 (fun _ => rfl) (by decide) (fun _ => True) Tryz.underlying50 (by kernel_rfl) h (fun fuel cs x hx => by
    obtain ⟨zs, h1, rfl, _⟩ := ints_of_struct Tryz.underlying98 (by kernel_rfl) (by kernel_rfl) (by kernel_rfl) hx
    match zs, h1 with
    | [a, b, c], _ => exact ⟨⟨a, b, c⟩, rfl, trivial⟩)
  exact ⟨l, hl⟩
theorem vrow_fts {p : Option Addr} {n cap : Nat} {d : DataW H} {ps : List MemPlace} (h : DataW.Trod enc Tryz.prog w 0 (fun _ => true) true 24 (.slice p n cap) d ps) : ∃ l : List Ft, VRow ftC 5 w p n cap l := by
  obtain ⟨l, hl, _⟩ := vrow_of ftC 5 (fun _ => rfl) (by decide) (fun _ => True) Tryz.underlying24 (by kernel_rfl) h (fun fuel cs x hx => by
    obtain ⟨zs, h1, rfl, _⟩ := ints_of_struct Tryz.underlying60 (by kernel_rfl) (by kernel_rfl) (by kernel_rfl) hx
    match zs, h1 with
    | [a, b, c, d, e], _ => exact ⟨⟨a, b, c, d, e⟩, rfl, trivial⟩)
  exact ⟨l, hl⟩
theorem vrow_its {p : Option Addr} {n cap : Nat} {d : DataW H} {ps : List MemPlace} (h : DataW.Trod enc Tryz.prog w 0 (fun _ => true) true 46 (.slice p n cap) d ps) : ∃ l : List Int, VRow itC 1 w p n cap l := by
  obtain ⟨l, hl, _⟩ := vrow_ints (k := .i64) Tryz.underlying46 Tryz.underlying3 (by kernel_rfl) h
  exact ⟨l, hl⟩
theorem vrow_nds {p : Option Addr} {n cap : Nat} {d : DataW H} {ps : List MemPlace} (h : DataW.Trod enc Tryz.prog w 0 (fun _ => true) true 22 (.slice p n cap) d ps) :
    ∃ l : List NdW, VRow ndC 7 w p n cap l ∧ ∀ x ∈ l, VRow sgC 2 w x.ps x.n.sg.length x.cs x.n.sg ∧ VRow itC 1 w x.pv x.n.sv.length x.cv x.n.sv :=
  vrow_of ndC 7 ndC_len (by decide) _ Tryz.underlying22 (by kernel_rfl) h (fun fuel cs x hx => by
    have hs := Tryz.underlying48
    obtain ⟨v0, v1, v2, v3, v4, v5, v6, rfl⟩ := list7 ((cs_len hs hx).trans (by kernel_rfl))
    obtain ⟨n1, y1, g1⟩ := fld_at hs hx 0 45 0 2 (by kernel_rfl)
    obtain ⟨n2, y2, g2⟩ := fld_at hs hx 1 3 2 1 (by kernel_rfl)
    obtain ⟨n3, y3, g3⟩ := fld_at hs hx 2 4 3 1 (by kernel_rfl)
    obtain ⟨n4, y4, g4⟩ := fld_at hs hx 3 3 4 1 (by kernel_rfl)
    obtain ⟨n5, y5, g5⟩ := fld_at hs hx 4 3 5 1 (by kernel_rfl)
    obtain ⟨n6, y6, g6⟩ := fld_at hs hx 5 46 6 1 (by kernel_rfl)
    have ho := Tryz.underlying45
    obtain ⟨n7, y7, g7⟩ := fld_at ho g1 0 3 0 1 (by kernel_rfl)
    obtain ⟨n8, y8, g8⟩ := fld_at ho g1 1 43 1 1 (by kernel_rfl)
    obtain ⟨ph, rfl, _⟩ := int_at Tryz.underlying3 g7
    obtain ⟨ps, ns, cs', rfl, t1⟩ := slice_at Tryz.underlying43 g8
    obtain ⟨tol, rfl, _⟩ := int_at Tryz.underlying3 g2
    obtain ⟨rf, rfl⟩ := bool_at Tryz.underlying4 g3
    obtain ⟨er, rfl, _⟩ := int_at Tryz.underlying3 g4
    obtain ⟨st, rfl, _⟩ := int_at Tryz.underlying3 g5
    obtain ⟨pv, nv, cv, rfl, t2⟩ := slice_at Tryz.underlying46 g6
    obtain ⟨sg, r1⟩ := vrow_sgs t1
    obtain ⟨sv, r2⟩ := vrow_its t2
    have e1 := r1.len; have e2 := r2.len
    subst e1; subst e2
    exact ⟨⟨⟨ph, sg, tol, rf, er, st, sv⟩, ps, cs', pv, cv⟩, rfl, r1, r2⟩)
theorem vrow_lks {p : Option Addr} {n cap : Nat} {d : DataW H} {ps : List MemPlace} (h : DataW.Trod enc Tryz.prog w 0 (fun _ => true) true 23 (.slice p n cap) d ps) :
    ∃ l : List LkW, VRow lkC 9 w p n cap l ∧ ∀ x ∈ l, VRow chC 3 w x.p x.l.ch.length x.c x.l.ch ∧ 0 ≤ x.l.sd ∧ x.l.sd ≤ 18446744073709551615 :=
  vrow_of lkC 9 lkC_len (by decide) _ Tryz.underlying23 (by kernel_rfl) h (fun fuel cs x hx => by
    have hs := Tryz.underlying54
    obtain ⟨v0, v1, v2, v3, v4, v5, v6, v7, v8, rfl⟩ := list9 ((cs_len hs hx).trans (by kernel_rfl))
    obtain ⟨n0, y0, g0⟩ := fld_at hs hx 0 3 0 1 (by kernel_rfl)
    obtain ⟨n1, y1, g1⟩ := fld_at hs hx 1 3 1 1 (by kernel_rfl)
    obtain ⟨n2, y2, g2⟩ := fld_at hs hx 2 52 2 7 (by kernel_rfl)
    have ho := Tryz.underlying52
    obtain ⟨n3, y3, g3⟩ := fld_at ho g2 0 49 0 2 (by kernel_rfl)
    obtain ⟨n4, y4, g4⟩ := fld_at ho g2 1 49 2 2 (by kernel_rfl)
    obtain ⟨n5, y5, g5⟩ := fld_at ho g2 2 3 4 1 (by kernel_rfl)
    obtain ⟨n6, y6, g6⟩ := fld_at ho g2 3 25 5 1 (by kernel_rfl)
    obtain ⟨n7, y7, g7⟩ := fld_at ho g2 4 50 6 1 (by kernel_rfl)
    obtain ⟨A, rfl, _⟩ := int_at Tryz.underlying3 g0
    obtain ⟨B, rfl, _⟩ := int_at Tryz.underlying3 g1
    obtain ⟨d0, d1, q0, q1⟩ := arr2_at g3
    obtain ⟨e0, e1, q2, q3⟩ := arr2_at g4
    subst q0; subst q1; subst q2; subst q3
    obtain ⟨lo, rfl, _⟩ := int_at Tryz.underlying3 g5
    obtain ⟨sd, rfl, ws⟩ := int_at Tryz.underlying25 g6
    obtain ⟨pc, nc, cc, rfl, t1⟩ := slice_at Tryz.underlying50 g7
    obtain ⟨ch, r1⟩ := vrow_chs t1
    have e2 := r1.len
    subst e2
    exact ⟨⟨⟨A, B, d0, d1, e0, e1, lo, sd, ch⟩, pc, cc⟩, rfl, r1, u64_of_wf ws⟩)
set_option maxRecDepth 100000 in
theorem scene_of {r : Reach} {b0 : Nat} {v : Value} {d : DataW H} {p : List MemPlace} (hv : Value.okWide Tryz.prog w r b0 27 v) (h : DataW.Trod enc Tryz.prog w 0 (fun _ => true) true 27 v d p) : ∃ s : ScW, v = scV s ∧ s.Ok0 w := by
  have hs := Tryz.underlying27
  obtain ⟨cs, rfl, hsz⟩ := okWide_struct hs hv
  obtain ⟨fuel, hx⟩ := h
  have hx : DataW.trod enc Tryz.prog w 0 (fun _ => true) true fuel 27 cs.toList = some (d, p) := hx
  obtain ⟨v0, v1, v2, v3, v4, hcs⟩ := list5 ((cs_len hs hx).trans (by kernel_rfl))
  rw [hcs] at hx
  obtain ⟨n0, y0, g0⟩ := fld_at hs hx 0 22 0 1 (by kernel_rfl)
  obtain ⟨n1, y1, g1⟩ := fld_at hs hx 1 23 1 1 (by kernel_rfl)
  obtain ⟨n2, y2, g2⟩ := fld_at hs hx 2 24 2 1 (by kernel_rfl)
  obtain ⟨n3, y3, g3⟩ := fld_at hs hx 3 3 3 1 (by kernel_rfl)
  obtain ⟨n4, y4, g4⟩ := fld_at hs hx 4 25 4 1 (by kernel_rfl)
  obtain ⟨pn, ln, cn, rfl, t0⟩ := slice_at Tryz.underlying22 g0
  obtain ⟨pl, ll, cl, rfl, t1⟩ := slice_at Tryz.underlying23 g1
  obtain ⟨pf, lf, cf, rfl, t2⟩ := slice_at Tryz.underlying24 g2
  obtain ⟨un, rfl, _⟩ := int_at Tryz.underlying3 g3
  obtain ⟨sd, rfl, ws⟩ := int_at Tryz.underlying25 g4
  obtain ⟨nd, r0, q0⟩ := vrow_nds t0
  obtain ⟨lk, r1, q1⟩ := vrow_lks t1
  obtain ⟨ft, r2⟩ := vrow_fts t2
  have e0 := r0.len; have e1 := r1.len; have e2 := r2.len
  subst e0; subst e1; subst e2
  refine ⟨⟨nd, lk, ft, un, sd, pn, cn, pl, cl, pf, cf⟩, ?_, ⟨r0, r1, r2, q0, q1, (u64_of_wf ws).1, (u64_of_wf ws).2⟩⟩
  unfold scV
  congr 1
  exact Array.ext' hcs
end
end Go.Proofs.YthmeifdgkodjlaaGreatDoor

/- The text of a valid scene is not too long. Plain Lean, no condition. -/
namespace Go.Proofs.YthmeifdgkodjlaaGreatDoor
open Go.RowKit

theorem ln_le {ws : List (List UInt8)} : ∀ {L : List (List (List UInt8))}, ws ∈ L → (lnT ws).length ≤ (L.flatMap lnT).length
  | [], h => by cases h
  | x :: L, h => by
    rw [List.flatMap_cons, List.length_append]
    rcases List.mem_cons.1 h with rfl | h
    · omega
    · have := ln_le h; omega
theorem nds_mem {ws : List (List UInt8)} : ∀ (l : List Nd) (i : Int), ws ∈ ndsW l i → ∃ k, k < l.length ∧ ws ∈ ndW (l.getD k nd0) (i + (k : Int))
  | [], _, h => by simp [ndsW] at h
  | n :: l, i, h => by
    rw [ndsW] at h
    rcases List.mem_append.1 h with h | h
    · exact ⟨0, by simp, by simpa using h⟩
    · obtain ⟨k, hk, hm⟩ := nds_mem l (i + 1) h
      refine ⟨k + 1, by simpa using hk, ?_⟩
      rw [List.getD_cons_succ, show i + ((k + 1 : Nat) : Int) = i + 1 + (k : Int) by omega]
      exact hm
theorem ndsW_len : ∀ (l : List Nd) (i : Int), (∀ n ∈ l, n.sg.length ≤ 16 ∧ n.sv.length ≤ 12) → (ndsW l i).length ≤ 30 * l.length
  | [], _, _ => by simp [ndsW]
  | n :: l, i, h => by
    have h1 := ndsW_len l (i + 1) (fun x hx => h x (by simp [hx]))
    have h2 := h n (by simp)
    rw [ndsW, List.length_append]
    simp only [ndW, List.length_append, List.length_map, List.length_cons, List.length_nil]
    omega
theorem lksW_len : ∀ (l : List Lk), (∀ n ∈ l, n.ch.length ≤ 16) → (l.flatMap lkW).length ≤ 17 * l.length
  | [], _ => by simp
  | n :: l, h => by
    have h1 := lksW_len l (fun x hx => h x (by simp [hx]))
    have h2 := h n (by simp)
    rw [List.flatMap_cons, List.length_append]
    simp only [lkW, List.length_map, List.length_cons]
    omega
theorem joinC_le (ws : List (List UInt8)) : (joinC 32 ws).length ≤ (lnT ws).length := by simp [lnT]
theorem sc_bounds {s : Sc} (h : chkS s = 0) (hs : SdOk s) : (scT s).length ≤ 400000 ∧ (∀ p ∈ pcs 10 (scT s), p.length ≤ 99999) ∧ (lnsO 1 (pcs 10 (scT s))).length ≤ 99999 := by
  have ho := chkS_ok h
  have hi := scI_of h hs
  have hn1 := ho.n1; have hl1 := ho.l1; have hfl := ho.fl
  have hNL : ∀ i, i < s.nd.length → (s.nd.getD i nd0).sg.length ≤ 16 ∧ (s.nd.getD i nd0).sv.length ≤ 12 := fun i hi => ⟨(oscE_ok (ho.nd i hi).osc).2.2.1, (ho.nd i hi).len⟩
  have hLL : ∀ i, i < s.lk.length → (s.lk.getD i lk0).ch.length ≤ 16 := fun i hi => linkE_len (ho.lk i hi).lk
  have hNI : ∀ i, i < s.nd.length → NdI (s.nd.getD i nd0) := fun i h' => hi.nd _ (getD_mem nd0 h')
  have hNT : ∀ i, i < s.nd.length → ((ndW (s.nd.getD i nd0) i).flatMap lnT).length ≤ 3400 := fun i h' => ndT_len (by constructor <;> omega) (hNI i h') (hNL i h').1 (hNL i h').2
  have hLT : ∀ i, i < s.lk.length → ((lkW (s.lk.getD i lk0)).flatMap lnT).length ≤ 3700 := fun i h' => lkT_len (hi.lk _ (getD_mem lk0 h')) (hLL i h')
  have hFT : ∀ i, i < s.ft.length → (ftT (s.ft.getD i ft0)).length ≤ 200 := fun i h' => ftT_len (hi.ft _ (getD_mem ft0 h'))
  have a1 := ndsT_len hn1 hNT (Nat.le_refl _)
  have a2 := lksT_len hLT (Nat.le_refl _)
  have a3 := ftsT_len hFT (Nat.le_refl _)
  rw [show ndsT s.nd s.nd.length = (ndsW s.nd 0).flatMap lnT by unfold ndsT; rw [List.take_length]] at a1
  rw [show lksT s.lk s.lk.length = (s.lk.flatMap lkW).flatMap lnT by unfold lksT; rw [List.take_length]] at a2
  rw [show ftsT s.ft s.ft.length = (s.ft.map ftW).flatMap lnT by unfold ftsT; rw [List.take_length]] at a3
  have b1 := it_len hi.un
  have hd1 : (lnT [wUntil, it s.un]).length ≤ 100 := by simp [lnT, joinC, wUntil]; omega
  have hd2 : (lnT [wSeed, Lib.decDigits s.sd.toNat]).length ≤ 100 := by
    have := dec_len_le 20 s.sd.toNat (by decide) (by have h1 := hi.sd; have : (10 : Nat) ^ 20 = 100000000000000000000 := by decide
                                                     omega)
    simp [lnT, joinC, wSeed]; omega
  refine ⟨?_, ?_, ?_⟩
  · unfold scT scW
    rw [List.flatMap_append, List.flatMap_append, List.flatMap_append, List.length_append, List.length_append, List.length_append, List.flatMap_cons, List.flatMap_cons, List.flatMap_nil, List.append_nil, List.length_append]
    omega
  · intro p hp
    rw [pcs_scT] at hp
    rcases List.mem_append.1 hp with hp | hp
    · obtain ⟨ws, hw, rfl⟩ := List.mem_map.1 hp
      refine Nat.le_trans (joinC_le ws) ?_
      unfold scW at hw
      rcases List.mem_append.1 hw with hw | hw
      · rcases List.mem_append.1 hw with hw | hw
        · rcases List.mem_append.1 hw with hw | hw
          · simp only [List.mem_cons, List.not_mem_nil, or_false] at hw
            rcases hw with rfl | rfl <;> omega
          · have := ln_le hw; omega
        · obtain ⟨l, hl, hm⟩ := List.mem_flatMap.1 hw
          obtain ⟨i, hi', rfl⟩ := mem_getD (z := lk0) hl
          have := ln_le hm; have := hLT i hi'; omega
      · have := ln_le hw; omega
    · simp only [List.mem_singleton] at hp
      subst hp; simp
  · have hc := lnsO_length (pcs 10 (scT s)) 1
    rw [pcs_scT, List.length_append, List.length_map] at hc
    have c1 := ndsW_len s.nd 0 (fun n hn => by obtain ⟨i, h', rfl⟩ := mem_getD (z := nd0) hn; exact hNL i h')
    have c2 := lksW_len s.lk (fun n hn => by obtain ⟨i, h', rfl⟩ := mem_getD (z := lk0) hn; exact hLL i h')
    have c3 : (scW s).length ≤ 2 + 30 * 24 + 17 * 64 + 32 := by
      unfold scW
      simp only [List.length_append, List.length_cons, List.length_nil, List.length_map]
      omega
    rw [pcs_scT]
    simp only [List.length_cons, List.length_nil] at hc
    omega
end Go.Proofs.YthmeifdgkodjlaaGreatDoor
