/- sameNode and sameLink of the law. Condition: the lengths. -/
import Derived.Test.YthmeifdgkodjlaaDoorP2
namespace Go.Proofs.YthmeifdgkodjlaaDoor
open Go.RowKit

theorem take_eq {α : Type} {k : Nat} {l l' : List α} (z : α) (h : l.take k = l'.take k) (h1 : k < l.length) (h2 : k < l'.length) : l.take (k + 1) = l'.take (k + 1) ↔ l.getD k z = l'.getD k z := by
  rw [List.take_succ_eq_append_getElem h1, List.take_succ_eq_append_getElem h2, h]
  rw [List.getD_eq_getElem?_getD, List.getD_eq_getElem?_getD, List.getElem?_eq_getElem h1, List.getElem?_eq_getElem h2]
  simp only [Option.getD_some]
  exact ⟨fun e => by simpa using List.append_cancel_left e, fun e => by rw [e]⟩
def SmI {α : Type} (w : World) (l l' : List α) (vi : Value) (wr : World) : Prop := ∃ k : Nat, k ≤ l.length ∧ vi = .int .i64 k ∧ l.take k = l'.take k ∧ Only [] w wr
theorem sm_ne {α : Type} {k : Nat} {l l' : List α} (z : α) (h : l.getD k z ≠ l'.getD k z) : l ≠ l' := fun e => h (by rw [e])
theorem sm_end {α : Type} {k : Nat} {l l' : List α} (h : l.take k = l'.take k) (h1 : l.length ≤ k) (h2 : l'.length = l.length) : l = l' := by
  rw [List.take_of_length_le h1, List.take_of_length_le (by omega)] at h; exact h
set_option maxRecDepth 100000 in
set_option maxHeartbeats 4000000 in
theorem pSameNode {w : World} {x y : NdW} (hx : x.Ok w) (hy : y.Ok w) :
    Calls Tryd.prog 34 #[ndV x.n x.ps x.cs x.pv x.cv, ndV y.n y.ps y.cs y.pv y.cv] w fun e w' => e = .returned (.bool (decide (x.n = y.n))) ∧ Only [] w w' := by
  obtain ⟨⟨ph, sg, tol, rf, er, st, sv⟩, ps, cs, pv, cv⟩ := x
  obtain ⟨⟨ph2, sg2, tol2, rf2, er2, st2, sv2⟩, ps2, cs2, pv2, cv2⟩ := y
  obtain ⟨h1, h2, h3, h4⟩ := hx
  obtain ⟨k1, k2, k3, k4⟩ := hy
  simp only at h1 h2 h3 h4 k1 k2 k3 k4
  have VA := Lib.hid h1; have VB := Lib.hid k1; have WA := Lib.hid h2; have WB := Lib.hid k2
  obtain ⟨res, hres⟩ : ∃ res, res = decide ((⟨ph, sg, tol, rf, er, st, sv⟩ : Nd) = ⟨ph2, sg2, tol2, rf2, er2, st2, sv2⟩) := ⟨_, rfl⟩
  have HRES := Lib.hid hres
  simp only [← hres, ndV]
  clear h1 h2 k1 k2 hres
  by_cases hph : ph = ph2
  · subst hph
    by_cases hsg : sg2.length = sg.length
    · rw [hsg]
      by_cases htol : tol = tol2
      · subst htol
        by_cases hrf : rf = rf2
        · subst hrf
          by_cases her : er = er2
          · subst her
            by_cases hst : st = st2
            · subst hst
              by_cases hsv : sv2.length = sv.length
              · rw [hsv]
                go_enter Tryd.func34, Tryd.ntmps34
                go_upto_region 1 with (fail)
                refine alloc_abs (G := fun w0 => Code.wp _ _ _ _ (w0.alloc _)) ?_
                intro w0 hb0 ho0 hs0
                have hlt0 : w.heap.size < w0.heap.size := got_lt hb0
                rw [← hs0]
                refine alloc_abs (G := fun w0 => Code.wp _ _ _ _ w0) ?_
                intro w1 hb1 ho1 hs1
                have BA := Lib.hid (ho1.got hb0 (by simp)); have BB := Lib.hid hb1; have O1 := Lib.hid (ho0.nil_trans ho1)
                have HNE := Lib.hid hlt0
                clear hb0 ho0 hs0 hb1 ho1 hs1 hlt0
                generalize w.heap.size = ba at BA HNE ⊢
                generalize w0.heap.size = bb at BB HNE ⊢
                have p0 := cell_got BA.out 0; have p1 := cell_got BA.out 1; have p2 := cell_got BA.out 2; have p3 := cell_got BA.out 3; have p4 := cell_got BA.out 4; have p5 := cell_got BA.out 5; have p6 := cell_got BA.out 6
                have q0 := cell_got BB.out 0; have q1 := cell_got BB.out 1; have q2 := cell_got BB.out 2; have q3 := cell_got BB.out 3; have q4 := cell_got BB.out 4; have q5 := cell_got BB.out 5; have q6 := cell_got BB.out 6
                have la := got_lt BA.out; have lb := got_lt BB.out
                go_wp2
                clear p0 p1 p2 p3 p4 p5 p6 q0 q1 q2 q3 q4 q5 q6 la lb
                have OX := Lib.hid (Only.refl [] w1)
                go_loopw [5] (fun vi wr => SmI w1 sg sg2 vi wr) (fun vi _ => sg.length - (intOf vi).toNat)
                case atStart => exact ⟨0, Nat.zero_le _, rfl, rfl, Only.refl _ _⟩
                case round =>
                  obtain ⟨k, hk, rfl, htk, ho⟩ := hrel
                  have HTK := Lib.hid htk; have OO := Lib.hid ho
                  have CA := Lib.hid ((OX.out.nil_trans ho).got BA.out (by simp)); have CB := Lib.hid ((OX.out.nil_trans ho).got BB.out (by simp)); have OA := Lib.hid ((O1.out.nil_trans OX.out).nil_trans ho)
                  clear htk ho
                  have p0 := cell_got CA.out 0; have p1 := cell_got CA.out 1; have p2 := cell_got CA.out 2; have p3 := cell_got CA.out 3; have p4 := cell_got CA.out 4; have p5 := cell_got CA.out 5; have p6 := cell_got CA.out 6
                  have q0 := cell_got CB.out 0; have q1 := cell_got CB.out 1; have q2 := cell_got CB.out 2; have q3 := cell_got CB.out 3; have q4 := cell_got CB.out 4; have q5 := cell_got CB.out 5; have q6 := cell_got CB.out 6
                  have la := got_lt CA.out; have lb := got_lt CB.out
                  by_cases hlt : k < sg.length
                  · obtain ⟨bk, off, hp, c0, c1, lk⟩ := VA.out.sg OA.out hlt
                    obtain ⟨bk2, off2, hp2, d0, d1, lk2⟩ := VB.out.sg OA.out (show k < sg2.length by omega)
                    subst hp; subst hp2
                    have hiff := take_eq sg0 HTK.out hlt (show k < sg2.length by omega)
                    have HNE2 : Hid (sg.getD k sg0 ≠ sg2.getD k sg0 → res = false) := Lib.hid (fun h => by rw [HRES.out]; exact decide_eq_false (fun e => sm_ne sg0 h (by rw [show sg = sg2 from (by injection e)])))
                    have hkl : (k : Int) < (sg.length : Int) := by omega
                    have hkl2 : (k : Int) < (sg2.length : Int) := by omega
                    generalize sg.getD k sg0 = s at c0 c1 hiff HNE2
                    generalize sg2.getD k sg0 = s2 at d0 d1 hiff HNE2
                    have HIF := Lib.hid hiff
                    clear hiff
                    by_cases ha : s.a = s2.a
                    · by_cases hp : s.p = s2.p
                      · have e1 : (s.a == s2.a) = true := by simp [ha]
                        have e2 : (s.p == s2.p) = true := by simp [hp]
                        have HS : Hid (s = s2) := Lib.hid (by obtain ⟨a, b⟩ := s; obtain ⟨c, d⟩ := s2; simp only at ha hp; subst ha hp; rfl)
                        clear ha hp
                        go_wp2_with fail
                        refine wp_region_grown [0, 1, 2, 3, 4, 5, 6, 7, 8, 9, 10, 11, 12] [] (by kernel_rfl) (by kernel_rfl) ?_
                        simp only [pick, List.map_cons, List.map_nil, List.getD_cons_succ, List.getD_cons_zero]
                        iterate 1 (refine wpQuiet_step (fun K hK => ?_); go_simp; refine hK _ ?_; clear hK K)
                        repeat (go_big_quiet_step (fail))
                        refine wpQuiet_nil ?_
                        intro w4 hw4
                        have o4 := only_of_plus hw4
                        clear hw4
                        go_wp2
                        go_roundw
                        case rel => exact ⟨k + 1, by omega, by go_num, HIF.out.2 HS.out, OO.out.nil_trans o4⟩
                        case measure => simp [intOf]; omega
                      · have e1 : (s.a == s2.a) = true := by simp [ha]
                        have e2 : (s.p == s2.p) = false := by simp [hp]
                        have HQ : Hid (res = false) := Lib.hid (HNE2.out (fun e => hp (by rw [e])))
                        clear ha hp
                        go_wp2_with fail
                        refine wp_region_grown [0, 1, 2, 3, 4, 5, 6, 7, 8, 9, 10, 11, 12] [] (by kernel_rfl) (by kernel_rfl) ?_
                        simp only [pick, List.map_cons, List.map_nil, List.getD_cons_succ, List.getD_cons_zero]
                        iterate 1 (refine wpQuiet_step (fun K hK => ?_); go_simp; refine hK _ ?_; clear hK K)
                        repeat (go_big_quiet_step (fail))
                        refine wpQuiet_nil ?_
                        intro w4 hw4
                        have o4 := only_of_plus hw4
                        clear hw4
                        go_wp2
                        go_ret
                        exact ⟨by rw [HQ.out]; rfl, OA.out.nil_trans o4⟩
                    · have e1 : (s.a == s2.a) = false := by simp [ha]
                      have HQ : Hid (res = false) := Lib.hid (HNE2.out (fun e => ha (by rw [e])))
                      clear ha
                      go_wp2_with fail
                      refine wp_region_grown [0, 1, 2, 3, 4, 5, 6, 7, 8, 9, 10, 11, 12] [] (by kernel_rfl) (by kernel_rfl) ?_
                      simp only [pick, List.map_cons, List.map_nil, List.getD_cons_succ, List.getD_cons_zero]
                      iterate 1 (refine wpQuiet_step (fun K hK => ?_); go_simp; refine hK _ ?_; clear hK K)
                      repeat (go_big_quiet_step (fail))
                      refine wpQuiet_nil ?_
                      intro w4 hw4
                      have o4 := only_of_plus hw4
                      clear hw4
                      go_wp2
                      go_ret
                      exact ⟨by rw [HQ.out]; rfl, OA.out.nil_trans o4⟩
                  · obtain rfl : k = sg.length := by omega
                    have HEQ := Lib.hid (sm_end HTK.out (Nat.le_refl _) (by omega))
                    have OX2 := Lib.hid (OX.out.nil_trans OO.out)
                    have HSG := HEQ
                    obtain ⟨wr1, hwr1⟩ : ∃ wr1 : World, wr1 = wr := ⟨_, rfl⟩
                    subst hwr1
                    clear HEQ
                    go_wp2
                    clear p0 p1 p2 p3 p4 p5 p6 q0 q1 q2 q3 q4 q5 q6 la lb
                    clear OA CA CB OO HTK
                    have OX := OX2
                    go_loopw [6] (fun vi wr => SmI wr1 sv sv2 vi wr) (fun vi _ => sv.length - (intOf vi).toNat)
                    case atStart => exact ⟨0, Nat.zero_le _, rfl, rfl, Only.refl _ _⟩
                    case round =>
                      obtain ⟨k, hk, rfl, htk, ho⟩ := hrel
                      have HTK := Lib.hid htk; have OO := Lib.hid ho
                      have CA := Lib.hid ((OX.out.nil_trans ho).got BA.out (by simp)); have CB := Lib.hid ((OX.out.nil_trans ho).got BB.out (by simp)); have OA := Lib.hid ((O1.out.nil_trans OX.out).nil_trans ho)
                      clear htk ho
                      have p0 := cell_got CA.out 0; have p1 := cell_got CA.out 1; have p2 := cell_got CA.out 2; have p3 := cell_got CA.out 3; have p4 := cell_got CA.out 4; have p5 := cell_got CA.out 5; have p6 := cell_got CA.out 6
                      have q0 := cell_got CB.out 0; have q1 := cell_got CB.out 1; have q2 := cell_got CB.out 2; have q3 := cell_got CB.out 3; have q4 := cell_got CB.out 4; have q5 := cell_got CB.out 5; have q6 := cell_got CB.out 6
                      have la := got_lt CA.out; have lb := got_lt CB.out
                      by_cases hlt : k < sv.length
                      · obtain ⟨bk, off, hp, c0, lk⟩ := WA.out.it OA.out hlt
                        obtain ⟨bk2, off2, hp2, d0, lk2⟩ := WB.out.it OA.out (show k < sv2.length by omega)
                        subst hp; subst hp2
                        have hiff := take_eq 0 HTK.out hlt (show k < sv2.length by omega)
                        have HNE2 : Hid (sv.getD k 0 ≠ sv2.getD k 0 → res = false) := Lib.hid (fun h => by rw [HRES.out]; exact decide_eq_false (fun e => sm_ne 0 h (by rw [show sv = sv2 from (by injection e)])))
                        have hkl : (k : Int) < (sv.length : Int) := by omega
                        have hkl2 : (k : Int) < (sv2.length : Int) := by omega
                        generalize sv.getD k 0 = s at c0 hiff HNE2
                        generalize sv2.getD k 0 = s2 at d0 hiff HNE2
                        have HIF := Lib.hid hiff
                        clear hiff
                        by_cases ha : s = s2
                        · have e1 : (s == s2) = true := by simp [ha]
                          have e1n : (s != s2) = false := by simp [ha]
                          have HS := Lib.hid ha
                          clear ha
                          go_wp2_with fail
                          refine wp_region_grown [0, 1, 2, 3, 4, 5, 6, 7, 8, 9, 10] [] (by kernel_rfl) (by kernel_rfl) ?_
                          simp only [pick, List.map_cons, List.map_nil, List.getD_cons_succ, List.getD_cons_zero]
                          iterate 1 (refine wpQuiet_step (fun K hK => ?_); go_simp; refine hK _ ?_; clear hK K)
                          repeat (go_big_quiet_step (fail))
                          refine wpQuiet_nil ?_
                          intro w4 hw4
                          have o4 := only_of_plus hw4
                          clear hw4
                          go_wp2
                          go_roundw
                          case rel => exact ⟨k + 1, by omega, by go_num, HIF.out.2 HS.out, OO.out.nil_trans o4⟩
                          case measure => simp [intOf]; omega
                        · have e1 : (s == s2) = false := by simp [ha]
                          have e1n : (s != s2) = true := by simp [ha]
                          have HQ : Hid (res = false) := Lib.hid (HNE2.out ha)
                          clear ha
                          go_wp2_with fail
                          refine wp_region_grown [0, 1, 2, 3, 4, 5, 6, 7, 8, 9, 10] [] (by kernel_rfl) (by kernel_rfl) ?_
                          simp only [pick, List.map_cons, List.map_nil, List.getD_cons_succ, List.getD_cons_zero]
                          iterate 1 (refine wpQuiet_step (fun K hK => ?_); go_simp; refine hK _ ?_; clear hK K)
                          repeat (go_big_quiet_step (fail))
                          refine wpQuiet_nil ?_
                          intro w4 hw4
                          have o4 := only_of_plus hw4
                          clear hw4
                          go_wp2
                          go_ret
                          exact ⟨by rw [HQ.out]; rfl, OA.out.nil_trans o4⟩
                      · obtain rfl : k = sv.length := by omega
                        have HEQ := Lib.hid (sm_end HTK.out (Nat.le_refl _) (by omega))
                        have OX2 := Lib.hid (OX.out.nil_trans OO.out)
                        have HQ : Hid (res = true) := Lib.hid (by rw [HRES.out, HSG.out, HEQ.out]; exact decide_eq_true rfl)
                        go_wp2
                        go_ret
                        exact ⟨by rw [HQ.out]; rfl, O1.out.nil_trans OX2.out⟩
              · have HQ : Hid (res = false) := Lib.hid (by rw [HRES.out]; exact decide_eq_false (fun e => hsv (by cases e; rfl)))
                have t : (((sv.length : Nat) : Int) == ((sv2.length : Nat) : Int)) = false := by rw [beq_eq_false_iff_ne]; omega
                have tn : (((sv.length : Nat) : Int) != ((sv2.length : Nat) : Int)) = true := by rw [bne_iff_ne]; omega
                have tm : ((sv.length : Nat) == sv2.length) = false := by rw [beq_eq_false_iff_ne]; omega
                have tq : ((sv.length : Nat) != sv2.length) = true := by rw [bne_iff_ne]; omega
                clear hsv
                go_enter Tryd.func34, Tryd.ntmps34
                go_upto_region 1 with (fail)
                refine alloc_abs (G := fun w0 => Code.wp _ _ _ _ (w0.alloc _)) ?_
                intro w0 hb0 ho0 hs0
                have hlt0 : w.heap.size < w0.heap.size := got_lt hb0
                rw [← hs0]
                refine alloc_abs (G := fun w0 => Code.wp _ _ _ _ w0) ?_
                intro w1 hb1 ho1 hs1
                have BA := Lib.hid (ho1.got hb0 (by simp)); have BB := Lib.hid hb1; have O1 := Lib.hid (ho0.nil_trans ho1)
                have HNE := Lib.hid hlt0
                clear hb0 ho0 hs0 hb1 ho1 hs1 hlt0
                generalize w.heap.size = ba at BA HNE ⊢
                generalize w0.heap.size = bb at BB HNE ⊢
                have p0 := cell_got BA.out 0; have p1 := cell_got BA.out 1; have p2 := cell_got BA.out 2; have p3 := cell_got BA.out 3; have p4 := cell_got BA.out 4; have p5 := cell_got BA.out 5; have p6 := cell_got BA.out 6
                have q0 := cell_got BB.out 0; have q1 := cell_got BB.out 1; have q2 := cell_got BB.out 2; have q3 := cell_got BB.out 3; have q4 := cell_got BB.out 4; have q5 := cell_got BB.out 5; have q6 := cell_got BB.out 6
                have la := got_lt BA.out; have lb := got_lt BB.out
                go_wp2
                go_ret
                exact ⟨by rw [HQ.out]; rfl, O1.out⟩
            · have HQ : Hid (res = false) := Lib.hid (by rw [HRES.out]; exact decide_eq_false (fun e => hst (by cases e; rfl)))
              have t : ((st : Int) == st2) = false := beq_eq_false_iff_ne.2 hst
              have tn : ((st : Int) != st2) = true := bne_iff_ne.2 hst
              clear hst
              go_enter Tryd.func34, Tryd.ntmps34
              go_upto_region 1 with (fail)
              refine alloc_abs (G := fun w0 => Code.wp _ _ _ _ (w0.alloc _)) ?_
              intro w0 hb0 ho0 hs0
              have hlt0 : w.heap.size < w0.heap.size := got_lt hb0
              rw [← hs0]
              refine alloc_abs (G := fun w0 => Code.wp _ _ _ _ w0) ?_
              intro w1 hb1 ho1 hs1
              have BA := Lib.hid (ho1.got hb0 (by simp)); have BB := Lib.hid hb1; have O1 := Lib.hid (ho0.nil_trans ho1)
              have HNE := Lib.hid hlt0
              clear hb0 ho0 hs0 hb1 ho1 hs1 hlt0
              generalize w.heap.size = ba at BA HNE ⊢
              generalize w0.heap.size = bb at BB HNE ⊢
              have p0 := cell_got BA.out 0; have p1 := cell_got BA.out 1; have p2 := cell_got BA.out 2; have p3 := cell_got BA.out 3; have p4 := cell_got BA.out 4; have p5 := cell_got BA.out 5; have p6 := cell_got BA.out 6
              have q0 := cell_got BB.out 0; have q1 := cell_got BB.out 1; have q2 := cell_got BB.out 2; have q3 := cell_got BB.out 3; have q4 := cell_got BB.out 4; have q5 := cell_got BB.out 5; have q6 := cell_got BB.out 6
              have la := got_lt BA.out; have lb := got_lt BB.out
              go_wp2
              go_ret
              exact ⟨by rw [HQ.out]; rfl, O1.out⟩
          · have HQ : Hid (res = false) := Lib.hid (by rw [HRES.out]; exact decide_eq_false (fun e => her (by cases e; rfl)))
            have t : ((er : Int) == er2) = false := beq_eq_false_iff_ne.2 her
            have tn : ((er : Int) != er2) = true := bne_iff_ne.2 her
            clear her
            go_enter Tryd.func34, Tryd.ntmps34
            go_upto_region 1 with (fail)
            refine alloc_abs (G := fun w0 => Code.wp _ _ _ _ (w0.alloc _)) ?_
            intro w0 hb0 ho0 hs0
            have hlt0 : w.heap.size < w0.heap.size := got_lt hb0
            rw [← hs0]
            refine alloc_abs (G := fun w0 => Code.wp _ _ _ _ w0) ?_
            intro w1 hb1 ho1 hs1
            have BA := Lib.hid (ho1.got hb0 (by simp)); have BB := Lib.hid hb1; have O1 := Lib.hid (ho0.nil_trans ho1)
            have HNE := Lib.hid hlt0
            clear hb0 ho0 hs0 hb1 ho1 hs1 hlt0
            generalize w.heap.size = ba at BA HNE ⊢
            generalize w0.heap.size = bb at BB HNE ⊢
            have p0 := cell_got BA.out 0; have p1 := cell_got BA.out 1; have p2 := cell_got BA.out 2; have p3 := cell_got BA.out 3; have p4 := cell_got BA.out 4; have p5 := cell_got BA.out 5; have p6 := cell_got BA.out 6
            have q0 := cell_got BB.out 0; have q1 := cell_got BB.out 1; have q2 := cell_got BB.out 2; have q3 := cell_got BB.out 3; have q4 := cell_got BB.out 4; have q5 := cell_got BB.out 5; have q6 := cell_got BB.out 6
            have la := got_lt BA.out; have lb := got_lt BB.out
            go_wp2
            go_ret
            exact ⟨by rw [HQ.out]; rfl, O1.out⟩
        · have HQ : Hid (res = false) := Lib.hid (by rw [HRES.out]; exact decide_eq_false (fun e => hrf (by cases e; rfl)))
          have t : (rf == rf2) = false := by simp [hrf]
          have tn : (rf != rf2) = true := by simp [hrf]
          clear hrf
          go_enter Tryd.func34, Tryd.ntmps34
          go_upto_region 1 with (fail)
          refine alloc_abs (G := fun w0 => Code.wp _ _ _ _ (w0.alloc _)) ?_
          intro w0 hb0 ho0 hs0
          have hlt0 : w.heap.size < w0.heap.size := got_lt hb0
          rw [← hs0]
          refine alloc_abs (G := fun w0 => Code.wp _ _ _ _ w0) ?_
          intro w1 hb1 ho1 hs1
          have BA := Lib.hid (ho1.got hb0 (by simp)); have BB := Lib.hid hb1; have O1 := Lib.hid (ho0.nil_trans ho1)
          have HNE := Lib.hid hlt0
          clear hb0 ho0 hs0 hb1 ho1 hs1 hlt0
          generalize w.heap.size = ba at BA HNE ⊢
          generalize w0.heap.size = bb at BB HNE ⊢
          have p0 := cell_got BA.out 0; have p1 := cell_got BA.out 1; have p2 := cell_got BA.out 2; have p3 := cell_got BA.out 3; have p4 := cell_got BA.out 4; have p5 := cell_got BA.out 5; have p6 := cell_got BA.out 6
          have q0 := cell_got BB.out 0; have q1 := cell_got BB.out 1; have q2 := cell_got BB.out 2; have q3 := cell_got BB.out 3; have q4 := cell_got BB.out 4; have q5 := cell_got BB.out 5; have q6 := cell_got BB.out 6
          have la := got_lt BA.out; have lb := got_lt BB.out
          go_wp2
          go_ret
          exact ⟨by rw [HQ.out]; rfl, O1.out⟩
      · have HQ : Hid (res = false) := Lib.hid (by rw [HRES.out]; exact decide_eq_false (fun e => htol (by cases e; rfl)))
        have t : ((tol : Int) == tol2) = false := beq_eq_false_iff_ne.2 htol
        have tn : ((tol : Int) != tol2) = true := bne_iff_ne.2 htol
        clear htol
        go_enter Tryd.func34, Tryd.ntmps34
        go_upto_region 1 with (fail)
        refine alloc_abs (G := fun w0 => Code.wp _ _ _ _ (w0.alloc _)) ?_
        intro w0 hb0 ho0 hs0
        have hlt0 : w.heap.size < w0.heap.size := got_lt hb0
        rw [← hs0]
        refine alloc_abs (G := fun w0 => Code.wp _ _ _ _ w0) ?_
        intro w1 hb1 ho1 hs1
        have BA := Lib.hid (ho1.got hb0 (by simp)); have BB := Lib.hid hb1; have O1 := Lib.hid (ho0.nil_trans ho1)
        have HNE := Lib.hid hlt0
        clear hb0 ho0 hs0 hb1 ho1 hs1 hlt0
        generalize w.heap.size = ba at BA HNE ⊢
        generalize w0.heap.size = bb at BB HNE ⊢
        have p0 := cell_got BA.out 0; have p1 := cell_got BA.out 1; have p2 := cell_got BA.out 2; have p3 := cell_got BA.out 3; have p4 := cell_got BA.out 4; have p5 := cell_got BA.out 5; have p6 := cell_got BA.out 6
        have q0 := cell_got BB.out 0; have q1 := cell_got BB.out 1; have q2 := cell_got BB.out 2; have q3 := cell_got BB.out 3; have q4 := cell_got BB.out 4; have q5 := cell_got BB.out 5; have q6 := cell_got BB.out 6
        have la := got_lt BA.out; have lb := got_lt BB.out
        go_wp2
        go_ret
        exact ⟨by rw [HQ.out]; rfl, O1.out⟩
    · have HQ : Hid (res = false) := Lib.hid (by rw [HRES.out]; exact decide_eq_false (fun e => hsg (by cases e; rfl)))
      have t : (((sg.length : Nat) : Int) == ((sg2.length : Nat) : Int)) = false := by rw [beq_eq_false_iff_ne]; omega
      have tn : (((sg.length : Nat) : Int) != ((sg2.length : Nat) : Int)) = true := by rw [bne_iff_ne]; omega
      have tm : ((sg.length : Nat) == sg2.length) = false := by rw [beq_eq_false_iff_ne]; omega
      have tq : ((sg.length : Nat) != sg2.length) = true := by rw [bne_iff_ne]; omega
      clear hsg
      go_enter Tryd.func34, Tryd.ntmps34
      go_upto_region 1 with (fail)
      refine alloc_abs (G := fun w0 => Code.wp _ _ _ _ (w0.alloc _)) ?_
      intro w0 hb0 ho0 hs0
      have hlt0 : w.heap.size < w0.heap.size := got_lt hb0
      rw [← hs0]
      refine alloc_abs (G := fun w0 => Code.wp _ _ _ _ w0) ?_
      intro w1 hb1 ho1 hs1
      have BA := Lib.hid (ho1.got hb0 (by simp)); have BB := Lib.hid hb1; have O1 := Lib.hid (ho0.nil_trans ho1)
      have HNE := Lib.hid hlt0
      clear hb0 ho0 hs0 hb1 ho1 hs1 hlt0
      generalize w.heap.size = ba at BA HNE ⊢
      generalize w0.heap.size = bb at BB HNE ⊢
      have p0 := cell_got BA.out 0; have p1 := cell_got BA.out 1; have p2 := cell_got BA.out 2; have p3 := cell_got BA.out 3; have p4 := cell_got BA.out 4; have p5 := cell_got BA.out 5; have p6 := cell_got BA.out 6
      have q0 := cell_got BB.out 0; have q1 := cell_got BB.out 1; have q2 := cell_got BB.out 2; have q3 := cell_got BB.out 3; have q4 := cell_got BB.out 4; have q5 := cell_got BB.out 5; have q6 := cell_got BB.out 6
      have la := got_lt BA.out; have lb := got_lt BB.out
      go_wp2
      go_ret
      exact ⟨by rw [HQ.out]; rfl, O1.out⟩
  · have HQ : Hid (res = false) := Lib.hid (by rw [HRES.out]; exact decide_eq_false (fun e => hph (by cases e; rfl)))
    have t : ((ph : Int) == ph2) = false := beq_eq_false_iff_ne.2 hph
    have tn : ((ph : Int) != ph2) = true := bne_iff_ne.2 hph
    clear hph
    go_enter Tryd.func34, Tryd.ntmps34
    go_upto_region 1 with (fail)
    refine alloc_abs (G := fun w0 => Code.wp _ _ _ _ (w0.alloc _)) ?_
    intro w0 hb0 ho0 hs0
    have hlt0 : w.heap.size < w0.heap.size := got_lt hb0
    rw [← hs0]
    refine alloc_abs (G := fun w0 => Code.wp _ _ _ _ w0) ?_
    intro w1 hb1 ho1 hs1
    have BA := Lib.hid (ho1.got hb0 (by simp)); have BB := Lib.hid hb1; have O1 := Lib.hid (ho0.nil_trans ho1)
    have HNE := Lib.hid hlt0
    clear hb0 ho0 hs0 hb1 ho1 hs1 hlt0
    generalize w.heap.size = ba at BA HNE ⊢
    generalize w0.heap.size = bb at BB HNE ⊢
    have p0 := cell_got BA.out 0; have p1 := cell_got BA.out 1; have p2 := cell_got BA.out 2; have p3 := cell_got BA.out 3; have p4 := cell_got BA.out 4; have p5 := cell_got BA.out 5; have p6 := cell_got BA.out 6
    have q0 := cell_got BB.out 0; have q1 := cell_got BB.out 1; have q2 := cell_got BB.out 2; have q3 := cell_got BB.out 3; have q4 := cell_got BB.out 4; have q5 := cell_got BB.out 5; have q6 := cell_got BB.out 6
    have la := got_lt BA.out; have lb := got_lt BB.out
    go_wp2
    go_ret
    exact ⟨by rw [HQ.out]; rfl, O1.out⟩
set_option maxRecDepth 100000 in
set_option maxHeartbeats 4000000 in
theorem pSameLink {w : World} {x y : LkW} (hx : x.Ok w) (hy : y.Ok w) :
    Calls Tryd.prog 35 #[slV x, slV y] w fun e w' => e = .returned (.bool (decide (x.l = y.l))) ∧ Only [] w w' := by
  obtain ⟨⟨A, B, d0, d1, v0, v1, lo, sd, ch⟩, ps, cs⟩ := x
  obtain ⟨⟨A2, B2, d02, d12, v02, v12, lo2, sd2, ch2⟩, ps2, cs2⟩ := y
  obtain ⟨h1, h3⟩ := hx
  obtain ⟨k1, k3⟩ := hy
  simp only at h1 h3 k1 k3
  have VA := Lib.hid h1; have VB := Lib.hid k1
  obtain ⟨res, hres⟩ : ∃ res, res = decide ((⟨A, B, d0, d1, v0, v1, lo, sd, ch⟩ : Lk) = ⟨A2, B2, d02, d12, v02, v12, lo2, sd2, ch2⟩) := ⟨_, rfl⟩
  have HRES := Lib.hid hres
  simp only [← hres, slV]
  clear h1 k1 hres
  by_cases hA : A = A2
  · subst hA
    by_cases hB : B = B2
    · subst hB
      by_cases hD : eq2 d0 d1 d02 d12 = true
      · obtain ⟨rfl, rfl⟩ : d0 = d02 ∧ d1 = d12 := by simpa [eq2] using hD
        by_cases hV : eq2 v0 v1 v02 v12 = true
        · obtain ⟨rfl, rfl⟩ : v0 = v02 ∧ v1 = v12 := by simpa [eq2] using hV
          by_cases hlo : lo = lo2
          · subst hlo
            by_cases hsd : sd = sd2
            · subst hsd
              by_cases hch : ch2.length = ch.length
              · rw [hch]
                go_enter Tryd.func35, Tryd.ntmps35
                go_upto_region 1 with (fail)
                refine alloc_abs (G := fun w0 => Code.wp _ _ _ _ (w0.alloc _)) ?_
                intro w0 hb0 ho0 hs0
                have hlt0 : w.heap.size < w0.heap.size := got_lt hb0
                rw [← hs0]
                refine alloc_abs (G := fun w0 => Code.wp _ _ _ _ w0) ?_
                intro w1 hb1 ho1 hs1
                have BA := Lib.hid (ho1.got hb0 (by simp)); have BB := Lib.hid hb1; have O1 := Lib.hid (ho0.nil_trans ho1)
                have HNE := Lib.hid hlt0
                clear hb0 ho0 hs0 hb1 ho1 hs1 hlt0
                generalize w.heap.size = ba at BA HNE ⊢
                generalize w0.heap.size = bb at BB HNE ⊢
                have p0 := cell_got BA.out 0; have p1 := cell_got BA.out 1; have p2 := cell_got BA.out 2; have p3 := cell_got BA.out 3; have p4 := cell_got BA.out 4; have p5 := cell_got BA.out 5; have p6 := cell_got BA.out 6; have p7 := cell_got BA.out 7; have p8 := cell_got BA.out 8
                have q0 := cell_got BB.out 0; have q1 := cell_got BB.out 1; have q2 := cell_got BB.out 2; have q3 := cell_got BB.out 3; have q4 := cell_got BB.out 4; have q5 := cell_got BB.out 5; have q6 := cell_got BB.out 6; have q7 := cell_got BB.out 7; have q8 := cell_got BB.out 8
                have la := got_lt BA.out; have lb := got_lt BB.out
                go_wp2
                clear p0 q0 p1 q1 p2 q2 p3 q3 p4 q4 p5 q5 p6 q6 p7 q7 p8 q8 la lb
                have OX := Lib.hid (Only.refl [] w1)
                go_loopw [5] (fun vi wr => SmI w1 ch ch2 vi wr) (fun vi _ => ch.length - (intOf vi).toNat)
                case atStart => exact ⟨0, Nat.zero_le _, rfl, rfl, Only.refl _ _⟩
                case round =>
                  obtain ⟨k, hk, rfl, htk, ho⟩ := hrel
                  have HTK := Lib.hid htk; have OO := Lib.hid ho
                  have CA := Lib.hid ((OX.out.nil_trans ho).got BA.out (by simp)); have CB := Lib.hid ((OX.out.nil_trans ho).got BB.out (by simp)); have OA := Lib.hid ((O1.out.nil_trans OX.out).nil_trans ho)
                  clear htk ho
                  have p0 := cell_got CA.out 0; have p1 := cell_got CA.out 1; have p2 := cell_got CA.out 2; have p3 := cell_got CA.out 3; have p4 := cell_got CA.out 4; have p5 := cell_got CA.out 5; have p6 := cell_got CA.out 6; have p7 := cell_got CA.out 7; have p8 := cell_got CA.out 8
                  have q0 := cell_got CB.out 0; have q1 := cell_got CB.out 1; have q2 := cell_got CB.out 2; have q3 := cell_got CB.out 3; have q4 := cell_got CB.out 4; have q5 := cell_got CB.out 5; have q6 := cell_got CB.out 6; have q7 := cell_got CB.out 7; have q8 := cell_got CB.out 8
                  have la := got_lt CA.out; have lb := got_lt CB.out
                  by_cases hlt : k < ch.length
                  · obtain ⟨bk, off, hp, c0, c1, c2, lk⟩ := VA.out.ch OA.out hlt
                    obtain ⟨bk2, off2, hp2, d0, d1, d2, lk2⟩ := VB.out.ch OA.out (show k < ch2.length by omega)
                    subst hp; subst hp2
                    have hiff := take_eq ch0 HTK.out hlt (show k < ch2.length by omega)
                    have HNE2 : Hid (ch.getD k ch0 ≠ ch2.getD k ch0 → res = false) := Lib.hid (fun h => by rw [HRES.out]; exact decide_eq_false (fun e => sm_ne ch0 h (by rw [show ch = ch2 from (by injection e)])))
                    have hkl : (k : Int) < (ch.length : Int) := by omega
                    have hkl2 : (k : Int) < (ch2.length : Int) := by omega
                    generalize ch.getD k ch0 = s at c0 c1 c2 hiff HNE2
                    generalize ch2.getD k ch0 = s2 at d0 d1 d2 hiff HNE2
                    have HIF := Lib.hid hiff
                    clear hiff
                    by_cases ha : s.a = s2.a
                    · have ea : (s.a == s2.a) = true := by simp [ha]
                      by_cases hd : s.d = s2.d
                      · have ed : (s.d == s2.d) = true := by simp [hd]
                        by_cases hy : s.y = s2.y
                        · have ey : (s.y == s2.y) = true := by simp [hy]
                          have HS : Hid (s = s2) := Lib.hid (by obtain ⟨a, b, c⟩ := s; obtain ⟨e, f, g⟩ := s2; simp only at ha hd hy; subst ha hd hy; rfl)
                          clear ha hd hy
                          go_wp2_with fail
                          refine wp_region_grown [0, 1, 2, 3, 4, 5, 6, 7, 8, 9, 10, 11, 12] [] (by kernel_rfl) (by kernel_rfl) ?_
                          simp only [pick, List.map_cons, List.map_nil, List.getD_cons_succ, List.getD_cons_zero]
                          iterate 1 (refine wpQuiet_step (fun K hK => ?_); go_simp; refine hK _ ?_; clear hK K)
                          repeat (go_big_quiet_step (fail))
                          refine wpQuiet_nil ?_
                          intro w4 hw4
                          have o4 := only_of_plus hw4
                          clear hw4
                          go_wp2
                          go_roundw
                          case rel => exact ⟨k + 1, by omega, by go_num, HIF.out.2 HS.out, OO.out.nil_trans o4⟩
                          case measure => simp [intOf]; omega
                        · have ey : (s.y == s2.y) = false := by simp [hy]
                          have HQ : Hid (res = false) := Lib.hid (HNE2.out (fun e => hy (by rw [e])))
                          clear ha hd hy
                          go_wp2_with fail
                          refine wp_region_grown [0, 1, 2, 3, 4, 5, 6, 7, 8, 9, 10, 11, 12] [] (by kernel_rfl) (by kernel_rfl) ?_
                          simp only [pick, List.map_cons, List.map_nil, List.getD_cons_succ, List.getD_cons_zero]
                          iterate 1 (refine wpQuiet_step (fun K hK => ?_); go_simp; refine hK _ ?_; clear hK K)
                          repeat (go_big_quiet_step (fail))
                          refine wpQuiet_nil ?_
                          intro w4 hw4
                          have o4 := only_of_plus hw4
                          clear hw4
                          go_wp2
                          go_ret
                          exact ⟨by rw [HQ.out]; rfl, OA.out.nil_trans o4⟩
                      · have ed : (s.d == s2.d) = false := by simp [hd]
                        have HQ : Hid (res = false) := Lib.hid (HNE2.out (fun e => hd (by rw [e])))
                        clear ha hd
                        go_wp2_with fail
                        refine wp_region_grown [0, 1, 2, 3, 4, 5, 6, 7, 8, 9, 10, 11, 12] [] (by kernel_rfl) (by kernel_rfl) ?_
                        simp only [pick, List.map_cons, List.map_nil, List.getD_cons_succ, List.getD_cons_zero]
                        iterate 1 (refine wpQuiet_step (fun K hK => ?_); go_simp; refine hK _ ?_; clear hK K)
                        repeat (go_big_quiet_step (fail))
                        refine wpQuiet_nil ?_
                        intro w4 hw4
                        have o4 := only_of_plus hw4
                        clear hw4
                        go_wp2
                        go_ret
                        exact ⟨by rw [HQ.out]; rfl, OA.out.nil_trans o4⟩
                    · have ea : (s.a == s2.a) = false := by simp [ha]
                      have HQ : Hid (res = false) := Lib.hid (HNE2.out (fun e => ha (by rw [e])))
                      clear ha
                      go_wp2_with fail
                      refine wp_region_grown [0, 1, 2, 3, 4, 5, 6, 7, 8, 9, 10, 11, 12] [] (by kernel_rfl) (by kernel_rfl) ?_
                      simp only [pick, List.map_cons, List.map_nil, List.getD_cons_succ, List.getD_cons_zero]
                      iterate 1 (refine wpQuiet_step (fun K hK => ?_); go_simp; refine hK _ ?_; clear hK K)
                      repeat (go_big_quiet_step (fail))
                      refine wpQuiet_nil ?_
                      intro w4 hw4
                      have o4 := only_of_plus hw4
                      clear hw4
                      go_wp2
                      go_ret
                      exact ⟨by rw [HQ.out]; rfl, OA.out.nil_trans o4⟩
                  · obtain rfl : k = ch.length := by omega
                    have HEQ := Lib.hid (sm_end HTK.out (Nat.le_refl _) (by omega))
                    have OX2 := Lib.hid (OX.out.nil_trans OO.out)
                    have HQ : Hid (res = true) := Lib.hid (by rw [HRES.out, HEQ.out]; exact decide_eq_true rfl)
                    go_wp2
                    go_ret
                    exact ⟨by rw [HQ.out]; rfl, O1.out.nil_trans OX2.out⟩
              · have HQ : Hid (res = false) := Lib.hid (by rw [HRES.out]; exact decide_eq_false (fun e => hch (by cases e; rfl)))
                have t : (((ch.length : Nat) : Int) == ((ch2.length : Nat) : Int)) = false := by rw [beq_eq_false_iff_ne]; omega
                have tn : (((ch.length : Nat) : Int) != ((ch2.length : Nat) : Int)) = true := by rw [bne_iff_ne]; omega
                have tm : ((ch.length : Nat) == ch2.length) = false := by rw [beq_eq_false_iff_ne]; omega
                have tq : ((ch.length : Nat) != ch2.length) = true := by rw [bne_iff_ne]; omega
                clear hch
                go_enter Tryd.func35, Tryd.ntmps35
                go_upto_region 1 with (fail)
                refine alloc_abs (G := fun w0 => Code.wp _ _ _ _ (w0.alloc _)) ?_
                intro w0 hb0 ho0 hs0
                have hlt0 : w.heap.size < w0.heap.size := got_lt hb0
                rw [← hs0]
                refine alloc_abs (G := fun w0 => Code.wp _ _ _ _ w0) ?_
                intro w1 hb1 ho1 hs1
                have BA := Lib.hid (ho1.got hb0 (by simp)); have BB := Lib.hid hb1; have O1 := Lib.hid (ho0.nil_trans ho1)
                have HNE := Lib.hid hlt0
                clear hb0 ho0 hs0 hb1 ho1 hs1 hlt0
                generalize w.heap.size = ba at BA HNE ⊢
                generalize w0.heap.size = bb at BB HNE ⊢
                have p0 := cell_got BA.out 0; have p1 := cell_got BA.out 1; have p2 := cell_got BA.out 2; have p3 := cell_got BA.out 3; have p4 := cell_got BA.out 4; have p5 := cell_got BA.out 5; have p6 := cell_got BA.out 6; have p7 := cell_got BA.out 7; have p8 := cell_got BA.out 8
                have q0 := cell_got BB.out 0; have q1 := cell_got BB.out 1; have q2 := cell_got BB.out 2; have q3 := cell_got BB.out 3; have q4 := cell_got BB.out 4; have q5 := cell_got BB.out 5; have q6 := cell_got BB.out 6; have q7 := cell_got BB.out 7; have q8 := cell_got BB.out 8
                have la := got_lt BA.out; have lb := got_lt BB.out
                go_wp2
                go_ret
                exact ⟨by rw [HQ.out]; rfl, O1.out⟩
            · have HQ : Hid (res = false) := Lib.hid (by rw [HRES.out]; exact decide_eq_false (fun e => hsd (by cases e; rfl)))
              have t : ((sd : Int) == sd2) = false := beq_eq_false_iff_ne.2 hsd
              have tn : ((sd : Int) != sd2) = true := bne_iff_ne.2 hsd
              clear hsd
              go_enter Tryd.func35, Tryd.ntmps35
              go_upto_region 1 with (fail)
              refine alloc_abs (G := fun w0 => Code.wp _ _ _ _ (w0.alloc _)) ?_
              intro w0 hb0 ho0 hs0
              have hlt0 : w.heap.size < w0.heap.size := got_lt hb0
              rw [← hs0]
              refine alloc_abs (G := fun w0 => Code.wp _ _ _ _ w0) ?_
              intro w1 hb1 ho1 hs1
              have BA := Lib.hid (ho1.got hb0 (by simp)); have BB := Lib.hid hb1; have O1 := Lib.hid (ho0.nil_trans ho1)
              have HNE := Lib.hid hlt0
              clear hb0 ho0 hs0 hb1 ho1 hs1 hlt0
              generalize w.heap.size = ba at BA HNE ⊢
              generalize w0.heap.size = bb at BB HNE ⊢
              have p0 := cell_got BA.out 0; have p1 := cell_got BA.out 1; have p2 := cell_got BA.out 2; have p3 := cell_got BA.out 3; have p4 := cell_got BA.out 4; have p5 := cell_got BA.out 5; have p6 := cell_got BA.out 6; have p7 := cell_got BA.out 7; have p8 := cell_got BA.out 8
              have q0 := cell_got BB.out 0; have q1 := cell_got BB.out 1; have q2 := cell_got BB.out 2; have q3 := cell_got BB.out 3; have q4 := cell_got BB.out 4; have q5 := cell_got BB.out 5; have q6 := cell_got BB.out 6; have q7 := cell_got BB.out 7; have q8 := cell_got BB.out 8
              have la := got_lt BA.out; have lb := got_lt BB.out
              go_wp2
              go_ret
              exact ⟨by rw [HQ.out]; rfl, O1.out⟩
          · have HQ : Hid (res = false) := Lib.hid (by rw [HRES.out]; exact decide_eq_false (fun e => hlo (by cases e; rfl)))
            have t : ((lo : Int) == lo2) = false := beq_eq_false_iff_ne.2 hlo
            have tn : ((lo : Int) != lo2) = true := bne_iff_ne.2 hlo
            clear hlo
            go_enter Tryd.func35, Tryd.ntmps35
            go_upto_region 1 with (fail)
            refine alloc_abs (G := fun w0 => Code.wp _ _ _ _ (w0.alloc _)) ?_
            intro w0 hb0 ho0 hs0
            have hlt0 : w.heap.size < w0.heap.size := got_lt hb0
            rw [← hs0]
            refine alloc_abs (G := fun w0 => Code.wp _ _ _ _ w0) ?_
            intro w1 hb1 ho1 hs1
            have BA := Lib.hid (ho1.got hb0 (by simp)); have BB := Lib.hid hb1; have O1 := Lib.hid (ho0.nil_trans ho1)
            have HNE := Lib.hid hlt0
            clear hb0 ho0 hs0 hb1 ho1 hs1 hlt0
            generalize w.heap.size = ba at BA HNE ⊢
            generalize w0.heap.size = bb at BB HNE ⊢
            have p0 := cell_got BA.out 0; have p1 := cell_got BA.out 1; have p2 := cell_got BA.out 2; have p3 := cell_got BA.out 3; have p4 := cell_got BA.out 4; have p5 := cell_got BA.out 5; have p6 := cell_got BA.out 6; have p7 := cell_got BA.out 7; have p8 := cell_got BA.out 8
            have q0 := cell_got BB.out 0; have q1 := cell_got BB.out 1; have q2 := cell_got BB.out 2; have q3 := cell_got BB.out 3; have q4 := cell_got BB.out 4; have q5 := cell_got BB.out 5; have q6 := cell_got BB.out 6; have q7 := cell_got BB.out 7; have q8 := cell_got BB.out 8
            have la := got_lt BA.out; have lb := got_lt BB.out
            go_wp2
            go_ret
            exact ⟨by rw [HQ.out]; rfl, O1.out⟩
        · have HQ : Hid (res = false) := Lib.hid (by rw [HRES.out]; exact decide_eq_false (fun e => hV (by cases e; simp [eq2])))
          have t : eq2 v0 v1 v02 v12 = false := by simpa using hV
          clear hV
          go_enter Tryd.func35, Tryd.ntmps35
          go_upto_region 1 with (fail)
          refine alloc_abs (G := fun w0 => Code.wp _ _ _ _ (w0.alloc _)) ?_
          intro w0 hb0 ho0 hs0
          have hlt0 : w.heap.size < w0.heap.size := got_lt hb0
          rw [← hs0]
          refine alloc_abs (G := fun w0 => Code.wp _ _ _ _ w0) ?_
          intro w1 hb1 ho1 hs1
          have BA := Lib.hid (ho1.got hb0 (by simp)); have BB := Lib.hid hb1; have O1 := Lib.hid (ho0.nil_trans ho1)
          have HNE := Lib.hid hlt0
          clear hb0 ho0 hs0 hb1 ho1 hs1 hlt0
          generalize w.heap.size = ba at BA HNE ⊢
          generalize w0.heap.size = bb at BB HNE ⊢
          have p0 := cell_got BA.out 0; have p1 := cell_got BA.out 1; have p2 := cell_got BA.out 2; have p3 := cell_got BA.out 3; have p4 := cell_got BA.out 4; have p5 := cell_got BA.out 5; have p6 := cell_got BA.out 6; have p7 := cell_got BA.out 7; have p8 := cell_got BA.out 8
          have q0 := cell_got BB.out 0; have q1 := cell_got BB.out 1; have q2 := cell_got BB.out 2; have q3 := cell_got BB.out 3; have q4 := cell_got BB.out 4; have q5 := cell_got BB.out 5; have q6 := cell_got BB.out 6; have q7 := cell_got BB.out 7; have q8 := cell_got BB.out 8
          have la := got_lt BA.out; have lb := got_lt BB.out
          go_wp2
          go_ret
          exact ⟨by rw [HQ.out]; rfl, O1.out⟩
      · have HQ : Hid (res = false) := Lib.hid (by rw [HRES.out]; exact decide_eq_false (fun e => hD (by cases e; simp [eq2])))
        have t : eq2 d0 d1 d02 d12 = false := by simpa using hD
        clear hD
        go_enter Tryd.func35, Tryd.ntmps35
        go_upto_region 1 with (fail)
        refine alloc_abs (G := fun w0 => Code.wp _ _ _ _ (w0.alloc _)) ?_
        intro w0 hb0 ho0 hs0
        have hlt0 : w.heap.size < w0.heap.size := got_lt hb0
        rw [← hs0]
        refine alloc_abs (G := fun w0 => Code.wp _ _ _ _ w0) ?_
        intro w1 hb1 ho1 hs1
        have BA := Lib.hid (ho1.got hb0 (by simp)); have BB := Lib.hid hb1; have O1 := Lib.hid (ho0.nil_trans ho1)
        have HNE := Lib.hid hlt0
        clear hb0 ho0 hs0 hb1 ho1 hs1 hlt0
        generalize w.heap.size = ba at BA HNE ⊢
        generalize w0.heap.size = bb at BB HNE ⊢
        have p0 := cell_got BA.out 0; have p1 := cell_got BA.out 1; have p2 := cell_got BA.out 2; have p3 := cell_got BA.out 3; have p4 := cell_got BA.out 4; have p5 := cell_got BA.out 5; have p6 := cell_got BA.out 6; have p7 := cell_got BA.out 7; have p8 := cell_got BA.out 8
        have q0 := cell_got BB.out 0; have q1 := cell_got BB.out 1; have q2 := cell_got BB.out 2; have q3 := cell_got BB.out 3; have q4 := cell_got BB.out 4; have q5 := cell_got BB.out 5; have q6 := cell_got BB.out 6; have q7 := cell_got BB.out 7; have q8 := cell_got BB.out 8
        have la := got_lt BA.out; have lb := got_lt BB.out
        go_wp2
        go_ret
        exact ⟨by rw [HQ.out]; rfl, O1.out⟩
    · have HQ : Hid (res = false) := Lib.hid (by rw [HRES.out]; exact decide_eq_false (fun e => hB (by cases e; rfl)))
      have t : ((B : Int) == B2) = false := beq_eq_false_iff_ne.2 hB
      have tn : ((B : Int) != B2) = true := bne_iff_ne.2 hB
      clear hB
      go_enter Tryd.func35, Tryd.ntmps35
      go_upto_region 1 with (fail)
      refine alloc_abs (G := fun w0 => Code.wp _ _ _ _ (w0.alloc _)) ?_
      intro w0 hb0 ho0 hs0
      have hlt0 : w.heap.size < w0.heap.size := got_lt hb0
      rw [← hs0]
      refine alloc_abs (G := fun w0 => Code.wp _ _ _ _ w0) ?_
      intro w1 hb1 ho1 hs1
      have BA := Lib.hid (ho1.got hb0 (by simp)); have BB := Lib.hid hb1; have O1 := Lib.hid (ho0.nil_trans ho1)
      have HNE := Lib.hid hlt0
      clear hb0 ho0 hs0 hb1 ho1 hs1 hlt0
      generalize w.heap.size = ba at BA HNE ⊢
      generalize w0.heap.size = bb at BB HNE ⊢
      have p0 := cell_got BA.out 0; have p1 := cell_got BA.out 1; have p2 := cell_got BA.out 2; have p3 := cell_got BA.out 3; have p4 := cell_got BA.out 4; have p5 := cell_got BA.out 5; have p6 := cell_got BA.out 6; have p7 := cell_got BA.out 7; have p8 := cell_got BA.out 8
      have q0 := cell_got BB.out 0; have q1 := cell_got BB.out 1; have q2 := cell_got BB.out 2; have q3 := cell_got BB.out 3; have q4 := cell_got BB.out 4; have q5 := cell_got BB.out 5; have q6 := cell_got BB.out 6; have q7 := cell_got BB.out 7; have q8 := cell_got BB.out 8
      have la := got_lt BA.out; have lb := got_lt BB.out
      go_wp2
      go_ret
      exact ⟨by rw [HQ.out]; rfl, O1.out⟩
  · have HQ : Hid (res = false) := Lib.hid (by rw [HRES.out]; exact decide_eq_false (fun e => hA (by cases e; rfl)))
    have t : ((A : Int) == A2) = false := beq_eq_false_iff_ne.2 hA
    have tn : ((A : Int) != A2) = true := bne_iff_ne.2 hA
    clear hA
    go_enter Tryd.func35, Tryd.ntmps35
    go_upto_region 1 with (fail)
    refine alloc_abs (G := fun w0 => Code.wp _ _ _ _ (w0.alloc _)) ?_
    intro w0 hb0 ho0 hs0
    have hlt0 : w.heap.size < w0.heap.size := got_lt hb0
    rw [← hs0]
    refine alloc_abs (G := fun w0 => Code.wp _ _ _ _ w0) ?_
    intro w1 hb1 ho1 hs1
    have BA := Lib.hid (ho1.got hb0 (by simp)); have BB := Lib.hid hb1; have O1 := Lib.hid (ho0.nil_trans ho1)
    have HNE := Lib.hid hlt0
    clear hb0 ho0 hs0 hb1 ho1 hs1 hlt0
    generalize w.heap.size = ba at BA HNE ⊢
    generalize w0.heap.size = bb at BB HNE ⊢
    have p0 := cell_got BA.out 0; have p1 := cell_got BA.out 1; have p2 := cell_got BA.out 2; have p3 := cell_got BA.out 3; have p4 := cell_got BA.out 4; have p5 := cell_got BA.out 5; have p6 := cell_got BA.out 6; have p7 := cell_got BA.out 7; have p8 := cell_got BA.out 8
    have q0 := cell_got BB.out 0; have q1 := cell_got BB.out 1; have q2 := cell_got BB.out 2; have q3 := cell_got BB.out 3; have q4 := cell_got BB.out 4; have q5 := cell_got BB.out 5; have q6 := cell_got BB.out 6; have q7 := cell_got BB.out 7; have q8 := cell_got BB.out 8
    have la := got_lt BA.out; have lb := got_lt BB.out
    go_wp2
    go_ret
    exact ⟨by rw [HQ.out]; rfl, O1.out⟩
end Go.Proofs.YthmeifdgkodjlaaDoor
