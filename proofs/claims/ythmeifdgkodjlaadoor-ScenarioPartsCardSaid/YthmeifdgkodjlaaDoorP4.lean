/- same of the law. Condition: the lengths. -/
import Derived.Test.YthmeifdgkodjlaaDoorP3
namespace Go.Proofs.YthmeifdgkodjlaaDoor
open Go.RowKit

set_option maxRecDepth 100000 in
set_option maxHeartbeats 4000000 in
theorem pSame {w : World} {a b : ScW} (hx : a.Ok w) (hy : b.Ok w) :
    Calls Tryd.prog 11 #[scV a, scV b] w fun e w' => e = .returned (.bool (decide (a.sc = b.sc))) ∧ Only [] w w' := by
  obtain ⟨res, hres⟩ : ∃ res, res = decide (a.sc = b.sc) := ⟨_, rfl⟩
  rw [← hres]
  obtain ⟨nd, lk, ft, un, sd, pn, cn, pl, cl, pf, cf⟩ := a
  obtain ⟨nd2, lk2, ft2, un2, sd2, pn2, cn2, pl2, cl2, pf2, cf2⟩ := b
  obtain ⟨h1, h2, h3, h4, h5, h6, h7, h8⟩ := hx
  obtain ⟨k1, k2, k3, k4, k5, k6, k7, k8⟩ := hy
  simp only at h1 h2 h3 h4 h5 h6 h7 h8 k1 k2 k3 k4 k5 k6 k7 k8
  have NA := Lib.hid h1; have NB := Lib.hid k1; have LA := Lib.hid h2; have LB := Lib.hid k2; have FA := Lib.hid h3; have FB := Lib.hid k3
  have NOA := Lib.hid h4; have NOB := Lib.hid k4; have LOA := Lib.hid h5; have LOB := Lib.hid k5
  have HRES : Hid (res = decide ((⟨nd.map NdW.n, lk.map LkW.l, ft, un, sd⟩ : Sc) = ⟨nd2.map NdW.n, lk2.map LkW.l, ft2, un2, sd2⟩)) := Lib.hid hres
  simp only [scV]
  clear h1 h2 h3 h4 h5 k1 k2 k3 k4 k5 hres
  by_cases hnd : nd2.length = nd.length
  · rw [hnd]
    by_cases hlk : lk2.length = lk.length
    · rw [hlk]
      by_cases hft : ft2.length = ft.length
      · rw [hft]
        by_cases hun : un = un2
        · subst hun
          by_cases hsd : sd = sd2
          · subst hsd
            go_enter Tryd.func11, Tryd.ntmps11
            go_upto_region 1 with (fail)
            refine alloc_abs (G := fun w0 => Code.wp _ _ _ _ (w0.alloc _)) ?_
            intro w0 hb0 ho0 hs0
            have hlt0 : w.heap.size < w0.heap.size := got_lt hb0
            rw [← hs0]
            refine alloc_abs (G := fun w0 => Code.wp _ _ _ _ w0) ?_
            intro w1 hb1 ho1 hs1
            have BA := Lib.hid (ho1.got hb0 (by simp)); have BB := Lib.hid hb1; have O1 := Lib.hid (ho0.nil_trans ho1)
            have HNE := Lib.hid hlt0
            clear hb0 ho0 hs0 hb1 ho1 hs1 hlt0
            generalize w.heap.size = ba at BA HNE ⊢
            generalize w0.heap.size = bb at BB HNE ⊢
            have p0 := cell_got BA.out 0; have p1 := cell_got BA.out 1; have p2 := cell_got BA.out 2; have p3 := cell_got BA.out 3; have p4 := cell_got BA.out 4
            have q0 := cell_got BB.out 0; have q1 := cell_got BB.out 1; have q2 := cell_got BB.out 2; have q3 := cell_got BB.out 3; have q4 := cell_got BB.out 4
            have la := got_lt BA.out; have lb := got_lt BB.out
            go_wp2
            clear p0 q0 p1 q1 p2 q2 p3 q3 p4 q4 la lb
            have OX := Lib.hid (Only.refl [] w1)
            go_loopw [5] (fun vi wr => SmI w1 (nd.map NdW.n) (nd2.map NdW.n) vi wr) (fun vi _ => nd.length - (intOf vi).toNat)
            case atStart => exact ⟨0, Nat.zero_le _, rfl, rfl, Only.refl _ _⟩
            case round =>
              obtain ⟨k, hk, rfl, htk, ho⟩ := hrel
              rw [List.length_map] at hk
              have HTK := Lib.hid htk; have OO := Lib.hid ho
              have CA := Lib.hid ((OX.out.nil_trans ho).got BA.out (by simp)); have CB := Lib.hid ((OX.out.nil_trans ho).got BB.out (by simp)); have OA := Lib.hid ((O1.out.nil_trans OX.out).nil_trans ho)
              clear htk ho
              have p0 := cell_got CA.out 0; have p1 := cell_got CA.out 1; have p2 := cell_got CA.out 2; have p3 := cell_got CA.out 3; have p4 := cell_got CA.out 4
              have q0 := cell_got CB.out 0; have q1 := cell_got CB.out 1; have q2 := cell_got CB.out 2; have q3 := cell_got CB.out 3; have q4 := cell_got CB.out 4
              have la := got_lt CA.out; have lb := got_lt CB.out
              by_cases hlt : k < nd.length
              · obtain ⟨bk, off, hp, lk1, c0, c1, c2, c3, c4, c5, c6⟩ := NA.out.nd OA.out hlt
                obtain ⟨bk2, off2, hp2, lk2', d0, d1, d2, d3, d4, d5, d6⟩ := NB.out.nd OA.out (show k < nd2.length by omega)
                subst hp; subst hp2
                have hiff := take_eq (l := nd.map NdW.n) (l' := nd2.map NdW.n) nd0 HTK.out (by rw [List.length_map]; exact hlt) (by rw [List.length_map]; omega)
                rw [nd_at hlt, nd_at (show k < nd2.length by omega)] at hiff
                have HNE2 : Hid ((nd.getD k nw0).n ≠ (nd2.getD k nw0).n → res = false) := Lib.hid (fun h => by
                  rw [HRES.out]
                  refine decide_eq_false (fun e => sm_ne (l := nd.map NdW.n) (l' := nd2.map NdW.n) (k := k) nd0 ?_ (by injection e))
                  rw [nd_at hlt, nd_at (show k < nd2.length by omega)]
                  exact h)
                have hoa := NOA.out _ (getD_mem nw0 hlt)
                have hob := NOB.out _ (getD_mem nw0 (show k < nd2.length by omega))
                have hkl : (k : Int) < (nd.length : Int) := by omega
                have hkl2 : (k : Int) < (nd2.length : Int) := by omega
                generalize nd.getD k nw0 = s at c0 c1 c2 c3 c4 c5 c6 hiff HNE2 hoa
                generalize nd2.getD k nw0 = s2 at d0 d1 d2 d3 d4 d5 d6 hiff HNE2 hob
                have HIF := Lib.hid hiff; have HOA := Lib.hid hoa; have HOB := Lib.hid hob
                clear hiff hoa hob
                by_cases hs : s.n = s2.n
                · have HC : Hid (∀ w', Only [] wr w' → Calls Tryd.prog 34 #[ndV s.n s.ps s.cs s.pv s.cv, ndV s2.n s2.ps s2.cs s2.pv s2.cv] w' fun e w'' => e = .returned (.bool true) ∧ Only [] w' w'') := Lib.hid (fun w' ho => (pSameNode (HOA.out.kept (OA.out.nil_trans ho)) (HOB.out.kept (OA.out.nil_trans ho))).mono (fun e w'' ⟨h1, h2⟩ => ⟨by rw [h1, decide_eq_true hs], h2⟩))
                  have HS := Lib.hid hs
                  clear hs
                  go_wp2_with fail
                  refine wp_region_grown [0, 1, 2, 3, 4, 5, 6, 7, 8, 9, 10, 11] [] (by kernel_rfl) (by kernel_rfl) ?_
                  simp only [pick, List.map_cons, List.map_nil, List.getD_cons_succ, List.getD_cons_zero]
                  iterate 1 (refine wpQuiet_step (fun K hK => ?_); go_simp; refine hK _ ?_; clear hK K)
                  repeat (go_big_quiet_step (fail))
                  refine wpQuiet_enter rfl 34 #[ndV s.n s.ps s.cs s.pv s.cv, ndV s2.n s2.ps s2.cs s2.pv s2.cv] (fun _ => by kernel_rfl) (.bool true) (grown_only2 HC.out) ?_
                  iterate 1 (refine wpQuiet_step (fun K hK => ?_); go_simp; refine hK _ ?_; clear hK K)
                  refine wpQuiet_nil ?_
                  intro w4 hw4
                  have o4 := only_of_plus hw4
                  clear hw4
                  go_wp2
                  go_roundw
                  case rel => exact ⟨k + 1, by rw [List.length_map]; omega, by go_num, HIF.out.2 HS.out, OO.out.nil_trans o4⟩
                  case measure => simp [intOf]; omega
                · have HC : Hid (∀ w', Only [] wr w' → Calls Tryd.prog 34 #[ndV s.n s.ps s.cs s.pv s.cv, ndV s2.n s2.ps s2.cs s2.pv s2.cv] w' fun e w'' => e = .returned (.bool false) ∧ Only [] w' w'') := Lib.hid (fun w' ho => (pSameNode (HOA.out.kept (OA.out.nil_trans ho)) (HOB.out.kept (OA.out.nil_trans ho))).mono (fun e w'' ⟨h1, h2⟩ => ⟨by rw [h1, decide_eq_false hs], h2⟩))
                  have HQ : Hid (res = false) := Lib.hid (HNE2.out hs)
                  clear hs
                  go_wp2_with fail
                  refine wp_region_grown [0, 1, 2, 3, 4, 5, 6, 7, 8, 9, 10, 11] [] (by kernel_rfl) (by kernel_rfl) ?_
                  simp only [pick, List.map_cons, List.map_nil, List.getD_cons_succ, List.getD_cons_zero]
                  iterate 1 (refine wpQuiet_step (fun K hK => ?_); go_simp; refine hK _ ?_; clear hK K)
                  repeat (go_big_quiet_step (fail))
                  refine wpQuiet_enter rfl 34 #[ndV s.n s.ps s.cs s.pv s.cv, ndV s2.n s2.ps s2.cs s2.pv s2.cv] (fun _ => by kernel_rfl) (.bool false) (grown_only2 HC.out) ?_
                  iterate 1 (refine wpQuiet_step (fun K hK => ?_); go_simp; refine hK _ ?_; clear hK K)
                  refine wpQuiet_nil ?_
                  intro w4 hw4
                  have o4 := only_of_plus hw4
                  clear hw4
                  go_wp2
                  go_ret
                  exact ⟨by rw [HQ.out]; rfl, OA.out.nil_trans o4⟩
              · obtain rfl : k = nd.length := by omega
                have HEQ := Lib.hid (sm_end HTK.out (by rw [List.length_map]; exact Nat.le_refl _) (by rw [List.length_map, List.length_map]; omega))
                have OX2 := Lib.hid (OX.out.nil_trans OO.out)
                have HN := HEQ
                obtain ⟨wr1, hwr1⟩ : ∃ wr1 : World, wr1 = wr := ⟨_, rfl⟩
                subst hwr1
                clear HEQ
                go_wp2
                clear p0 q0 p1 q1 p2 q2 p3 q3 p4 q4 la lb
                clear OA CA CB OO HTK
                have OX := OX2
                go_loopw [6] (fun vi wr => SmI wr1 (lk.map LkW.l) (lk2.map LkW.l) vi wr) (fun vi _ => lk.length - (intOf vi).toNat)
                case atStart => exact ⟨0, Nat.zero_le _, rfl, rfl, Only.refl _ _⟩
                case round =>
                  obtain ⟨k, hk, rfl, htk, ho⟩ := hrel
                  rw [List.length_map] at hk
                  have HTK := Lib.hid htk; have OO := Lib.hid ho
                  have CA := Lib.hid ((OX.out.nil_trans ho).got BA.out (by simp)); have CB := Lib.hid ((OX.out.nil_trans ho).got BB.out (by simp)); have OA := Lib.hid ((O1.out.nil_trans OX.out).nil_trans ho)
                  clear htk ho
                  have p0 := cell_got CA.out 0; have p1 := cell_got CA.out 1; have p2 := cell_got CA.out 2; have p3 := cell_got CA.out 3; have p4 := cell_got CA.out 4
                  have q0 := cell_got CB.out 0; have q1 := cell_got CB.out 1; have q2 := cell_got CB.out 2; have q3 := cell_got CB.out 3; have q4 := cell_got CB.out 4
                  have la := got_lt CA.out; have lb := got_lt CB.out
                  by_cases hlt : k < lk.length
                  · obtain ⟨bk, off, hp, lk1, c0, c1, c2, c3, c4, c5, c6, c7, c8⟩ := LA.out.lk OA.out hlt
                    obtain ⟨bk2, off2, hp2, lk2', d0, d1, d2, d3, d4, d5, d6, d7, d8⟩ := LB.out.lk OA.out (show k < lk2.length by omega)
                    subst hp; subst hp2
                    have hiff := take_eq (l := lk.map LkW.l) (l' := lk2.map LkW.l) lk0 HTK.out (by rw [List.length_map]; exact hlt) (by rw [List.length_map]; omega)
                    rw [lk_at hlt, lk_at (show k < lk2.length by omega)] at hiff
                    have HNE2 : Hid ((lk.getD k lw0).l ≠ (lk2.getD k lw0).l → res = false) := Lib.hid (fun h => by
                      rw [HRES.out]
                      refine decide_eq_false (fun e => sm_ne (l := lk.map LkW.l) (l' := lk2.map LkW.l) (k := k) lk0 ?_ (by injection e))
                      rw [lk_at hlt, lk_at (show k < lk2.length by omega)]
                      exact h)
                    have hoa := LOA.out _ (getD_mem lw0 hlt)
                    have hob := LOB.out _ (getD_mem lw0 (show k < lk2.length by omega))
                    have hkl : (k : Int) < (lk.length : Int) := by omega
                    have hkl2 : (k : Int) < (lk2.length : Int) := by omega
                    generalize lk.getD k lw0 = s at c0 c1 c2 c3 c4 c5 c6 c7 c8 hiff HNE2 hoa
                    generalize lk2.getD k lw0 = s2 at d0 d1 d2 d3 d4 d5 d6 d7 d8 hiff HNE2 hob
                    have HIF := Lib.hid hiff; have HOA := Lib.hid hoa; have HOB := Lib.hid hob
                    clear hiff hoa hob
                    by_cases hs : s.l = s2.l
                    · have HC : Hid (∀ w', Only [] wr w' → Calls Tryd.prog 35 #[slV s, slV s2] w' fun e w'' => e = .returned (.bool true) ∧ Only [] w' w'') := Lib.hid (fun w' ho => (pSameLink (HOA.out.kept (OA.out.nil_trans ho)) (HOB.out.kept (OA.out.nil_trans ho))).mono (fun e w'' ⟨h1, h2⟩ => ⟨by rw [h1, decide_eq_true hs], h2⟩))
                      have HS := Lib.hid hs
                      clear hs
                      go_wp2_with fail
                      refine wp_region_grown [0, 1, 2, 3, 4, 5, 6, 7, 8, 9, 10, 11] [] (by kernel_rfl) (by kernel_rfl) ?_
                      simp only [pick, List.map_cons, List.map_nil, List.getD_cons_succ, List.getD_cons_zero]
                      iterate 1 (refine wpQuiet_step (fun K hK => ?_); go_simp; refine hK _ ?_; clear hK K)
                      repeat (go_big_quiet_step (fail))
                      refine wpQuiet_enter rfl 35 #[slV s, slV s2] (fun _ => by kernel_rfl) (.bool true) (grown_only2 HC.out) ?_
                      iterate 1 (refine wpQuiet_step (fun K hK => ?_); go_simp; refine hK _ ?_; clear hK K)
                      refine wpQuiet_nil ?_
                      intro w4 hw4
                      have o4 := only_of_plus hw4
                      clear hw4
                      go_wp2
                      go_roundw
                      case rel => exact ⟨k + 1, by rw [List.length_map]; omega, by go_num, HIF.out.2 HS.out, OO.out.nil_trans o4⟩
                      case measure => simp [intOf]; omega
                    · have HC : Hid (∀ w', Only [] wr w' → Calls Tryd.prog 35 #[slV s, slV s2] w' fun e w'' => e = .returned (.bool false) ∧ Only [] w' w'') := Lib.hid (fun w' ho => (pSameLink (HOA.out.kept (OA.out.nil_trans ho)) (HOB.out.kept (OA.out.nil_trans ho))).mono (fun e w'' ⟨h1, h2⟩ => ⟨by rw [h1, decide_eq_false hs], h2⟩))
                      have HQ : Hid (res = false) := Lib.hid (HNE2.out hs)
                      clear hs
                      go_wp2_with fail
                      refine wp_region_grown [0, 1, 2, 3, 4, 5, 6, 7, 8, 9, 10, 11] [] (by kernel_rfl) (by kernel_rfl) ?_
                      simp only [pick, List.map_cons, List.map_nil, List.getD_cons_succ, List.getD_cons_zero]
                      iterate 1 (refine wpQuiet_step (fun K hK => ?_); go_simp; refine hK _ ?_; clear hK K)
                      repeat (go_big_quiet_step (fail))
                      refine wpQuiet_enter rfl 35 #[slV s, slV s2] (fun _ => by kernel_rfl) (.bool false) (grown_only2 HC.out) ?_
                      iterate 1 (refine wpQuiet_step (fun K hK => ?_); go_simp; refine hK _ ?_; clear hK K)
                      refine wpQuiet_nil ?_
                      intro w4 hw4
                      have o4 := only_of_plus hw4
                      clear hw4
                      go_wp2
                      go_ret
                      exact ⟨by rw [HQ.out]; rfl, OA.out.nil_trans o4⟩
                  · obtain rfl : k = lk.length := by omega
                    have HEQ := Lib.hid (sm_end HTK.out (by rw [List.length_map]; exact Nat.le_refl _) (by rw [List.length_map, List.length_map]; omega))
                    have OX2 := Lib.hid (OX.out.nil_trans OO.out)
                    have HL := HEQ
                    obtain ⟨wr2, hwr2⟩ : ∃ wr2 : World, wr2 = wr := ⟨_, rfl⟩
                    subst hwr2
                    clear HEQ
                    go_wp2
                    clear p0 q0 p1 q1 p2 q2 p3 q3 p4 q4 la lb
                    clear OA CA CB OO HTK
                    have OX := OX2
                    go_loopw [7] (fun vi wr => SmI wr2 ft ft2 vi wr) (fun vi _ => ft.length - (intOf vi).toNat)
                    case atStart => exact ⟨0, Nat.zero_le _, rfl, rfl, Only.refl _ _⟩
                    case round =>
                      obtain ⟨k, hk, rfl, htk, ho⟩ := hrel
                      have HTK := Lib.hid htk; have OO := Lib.hid ho
                      have CA := Lib.hid ((OX.out.nil_trans ho).got BA.out (by simp)); have CB := Lib.hid ((OX.out.nil_trans ho).got BB.out (by simp)); have OA := Lib.hid ((O1.out.nil_trans OX.out).nil_trans ho)
                      clear htk ho
                      have p0 := cell_got CA.out 0; have p1 := cell_got CA.out 1; have p2 := cell_got CA.out 2; have p3 := cell_got CA.out 3; have p4 := cell_got CA.out 4
                      have q0 := cell_got CB.out 0; have q1 := cell_got CB.out 1; have q2 := cell_got CB.out 2; have q3 := cell_got CB.out 3; have q4 := cell_got CB.out 4
                      have la := got_lt CA.out; have lb := got_lt CB.out
                      by_cases hlt : k < ft.length
                      · obtain ⟨bk, off, hp, c0, c1, c2, c3, c4, lk⟩ := FA.out.ft OA.out hlt
                        obtain ⟨bk2, off2, hp2, d0, d1, d2, d3, d4, lk2⟩ := FB.out.ft OA.out (show k < ft2.length by omega)
                        subst hp; subst hp2
                        have hiff := take_eq ft0 HTK.out hlt (show k < ft2.length by omega)
                        have HNE2 : Hid (ft.getD k ft0 ≠ ft2.getD k ft0 → res = false) := Lib.hid (fun h => by rw [HRES.out]; exact decide_eq_false (fun e => sm_ne ft0 h (by rw [show ft = ft2 from (by injection e)])))
                        have hkl : (k : Int) < (ft.length : Int) := by omega
                        have hkl2 : (k : Int) < (ft2.length : Int) := by omega
                        generalize ft.getD k ft0 = s at c0 c1 c2 c3 c4 hiff HNE2
                        generalize ft2.getD k ft0 = s2 at d0 d1 d2 d3 d4 hiff HNE2
                        have HIF := Lib.hid hiff
                        clear hiff
                        by_cases hn : s.n = s2.n
                        · have en : (s.n == s2.n) = true := by simp [hn]
                          by_cases hf : s.f = s2.f
                          · have ef : (s.f == s2.f) = true := by simp [hf]
                            by_cases ht : s.t = s2.t
                            · have et : (s.t == s2.t) = true := by simp [ht]
                              by_cases hk' : s.k = s2.k
                              · have ek : (s.k == s2.k) = true := by simp [hk']
                                by_cases hv : s.v = s2.v
                                · have ev : (s.v == s2.v) = true := by simp [hv]
                                  have HS : Hid (s = s2) := Lib.hid (by obtain ⟨a, b, c, d, e⟩ := s; obtain ⟨f, g, h, i, j⟩ := s2; simp only at hn hf ht hk' hv; subst hn hf ht hk' hv; rfl)
                                  clear hn hf ht hk' hv
                                  go_wp2_with fail
                                  refine wp_region_grown [0, 1, 2, 3, 4, 5, 6, 7, 8, 9, 10] [] (by kernel_rfl) (by kernel_rfl) ?_
                                  simp only [pick, List.map_cons, List.map_nil, List.getD_cons_succ, List.getD_cons_zero]
                                  iterate 1 (refine wpQuiet_step (fun K hK => ?_); go_simp; refine hK _ ?_; clear hK K)
                                  repeat (go_big_quiet_step (fail))
                                  refine wpQuiet_nil ?_
                                  intro w4 hw4
                                  have o4 := only_of_plus hw4
                                  clear hw4
                                  go_wp2
                                  go_roundw
                                  case rel => exact ⟨k + 1, by omega, by go_num, HIF.out.2 HS.out, OO.out.nil_trans o4⟩
                                  case measure => simp [intOf]; omega
                                · have ev : (s.v == s2.v) = false := by simp [hv]
                                  have HQ : Hid (res = false) := Lib.hid (HNE2.out (fun e => hv (by rw [e])))
                                  clear hn hf ht hk' hv
                                  go_wp2_with fail
                                  refine wp_region_grown [0, 1, 2, 3, 4, 5, 6, 7, 8, 9, 10] [] (by kernel_rfl) (by kernel_rfl) ?_
                                  simp only [pick, List.map_cons, List.map_nil, List.getD_cons_succ, List.getD_cons_zero]
                                  iterate 1 (refine wpQuiet_step (fun K hK => ?_); go_simp; refine hK _ ?_; clear hK K)
                                  repeat (go_big_quiet_step (fail))
                                  refine wpQuiet_nil ?_
                                  intro w4 hw4
                                  have o4 := only_of_plus hw4
                                  clear hw4
                                  go_wp2
                                  go_ret
                                  exact ⟨by rw [HQ.out]; rfl, OA.out.nil_trans o4⟩
                              · have ek : (s.k == s2.k) = false := by simp [hk']
                                have HQ : Hid (res = false) := Lib.hid (HNE2.out (fun e => hk' (by rw [e])))
                                clear hn hf ht hk'
                                go_wp2_with fail
                                refine wp_region_grown [0, 1, 2, 3, 4, 5, 6, 7, 8, 9, 10] [] (by kernel_rfl) (by kernel_rfl) ?_
                                simp only [pick, List.map_cons, List.map_nil, List.getD_cons_succ, List.getD_cons_zero]
                                iterate 1 (refine wpQuiet_step (fun K hK => ?_); go_simp; refine hK _ ?_; clear hK K)
                                repeat (go_big_quiet_step (fail))
                                refine wpQuiet_nil ?_
                                intro w4 hw4
                                have o4 := only_of_plus hw4
                                clear hw4
                                go_wp2
                                go_ret
                                exact ⟨by rw [HQ.out]; rfl, OA.out.nil_trans o4⟩
                            · have et : (s.t == s2.t) = false := by simp [ht]
                              have HQ : Hid (res = false) := Lib.hid (HNE2.out (fun e => ht (by rw [e])))
                              clear hn hf ht
                              go_wp2_with fail
                              refine wp_region_grown [0, 1, 2, 3, 4, 5, 6, 7, 8, 9, 10] [] (by kernel_rfl) (by kernel_rfl) ?_
                              simp only [pick, List.map_cons, List.map_nil, List.getD_cons_succ, List.getD_cons_zero]
                              iterate 1 (refine wpQuiet_step (fun K hK => ?_); go_simp; refine hK _ ?_; clear hK K)
                              repeat (go_big_quiet_step (fail))
                              refine wpQuiet_nil ?_
                              intro w4 hw4
                              have o4 := only_of_plus hw4
                              clear hw4
                              go_wp2
                              go_ret
                              exact ⟨by rw [HQ.out]; rfl, OA.out.nil_trans o4⟩
                          · have ef : (s.f == s2.f) = false := by simp [hf]
                            have HQ : Hid (res = false) := Lib.hid (HNE2.out (fun e => hf (by rw [e])))
                            clear hn hf
                            go_wp2_with fail
                            refine wp_region_grown [0, 1, 2, 3, 4, 5, 6, 7, 8, 9, 10] [] (by kernel_rfl) (by kernel_rfl) ?_
                            simp only [pick, List.map_cons, List.map_nil, List.getD_cons_succ, List.getD_cons_zero]
                            iterate 1 (refine wpQuiet_step (fun K hK => ?_); go_simp; refine hK _ ?_; clear hK K)
                            repeat (go_big_quiet_step (fail))
                            refine wpQuiet_nil ?_
                            intro w4 hw4
                            have o4 := only_of_plus hw4
                            clear hw4
                            go_wp2
                            go_ret
                            exact ⟨by rw [HQ.out]; rfl, OA.out.nil_trans o4⟩
                        · have en : (s.n == s2.n) = false := by simp [hn]
                          have HQ : Hid (res = false) := Lib.hid (HNE2.out (fun e => hn (by rw [e])))
                          clear hn
                          go_wp2_with fail
                          refine wp_region_grown [0, 1, 2, 3, 4, 5, 6, 7, 8, 9, 10] [] (by kernel_rfl) (by kernel_rfl) ?_
                          simp only [pick, List.map_cons, List.map_nil, List.getD_cons_succ, List.getD_cons_zero]
                          iterate 1 (refine wpQuiet_step (fun K hK => ?_); go_simp; refine hK _ ?_; clear hK K)
                          repeat (go_big_quiet_step (fail))
                          refine wpQuiet_nil ?_
                          intro w4 hw4
                          have o4 := only_of_plus hw4
                          clear hw4
                          go_wp2
                          go_ret
                          exact ⟨by rw [HQ.out]; rfl, OA.out.nil_trans o4⟩
                      · obtain rfl : k = ft.length := by omega
                        have HEQ := Lib.hid (sm_end HTK.out (Nat.le_refl _) (by omega))
                        have OX2 := Lib.hid (OX.out.nil_trans OO.out)
                        have HQ : Hid (res = true) := Lib.hid (by rw [HRES.out, HN.out, HL.out, HEQ.out]; exact decide_eq_true rfl)
                        go_wp2
                        go_ret
                        exact ⟨by rw [HQ.out]; rfl, O1.out.nil_trans OX2.out⟩
          · have HQ : Hid (res = false) := Lib.hid (by rw [HRES.out]; exact decide_eq_false (fun e => hsd (by injection e)))
            have t : ((sd : Int) == sd2) = false := beq_eq_false_iff_ne.2 hsd
            have tn : ((sd : Int) != sd2) = true := bne_iff_ne.2 hsd
            clear hsd
            go_enter Tryd.func11, Tryd.ntmps11
            go_upto_region 1 with (fail)
            refine alloc_abs (G := fun w0 => Code.wp _ _ _ _ (w0.alloc _)) ?_
            intro w0 hb0 ho0 hs0
            have hlt0 : w.heap.size < w0.heap.size := got_lt hb0
            rw [← hs0]
            refine alloc_abs (G := fun w0 => Code.wp _ _ _ _ w0) ?_
            intro w1 hb1 ho1 hs1
            have BA := Lib.hid (ho1.got hb0 (by simp)); have BB := Lib.hid hb1; have O1 := Lib.hid (ho0.nil_trans ho1)
            have HNE := Lib.hid hlt0
            clear hb0 ho0 hs0 hb1 ho1 hs1 hlt0
            generalize w.heap.size = ba at BA HNE ⊢
            generalize w0.heap.size = bb at BB HNE ⊢
            have p0 := cell_got BA.out 0; have p1 := cell_got BA.out 1; have p2 := cell_got BA.out 2; have p3 := cell_got BA.out 3; have p4 := cell_got BA.out 4
            have q0 := cell_got BB.out 0; have q1 := cell_got BB.out 1; have q2 := cell_got BB.out 2; have q3 := cell_got BB.out 3; have q4 := cell_got BB.out 4
            have la := got_lt BA.out; have lb := got_lt BB.out
            go_wp2
            go_ret
            exact ⟨by rw [HQ.out]; rfl, O1.out⟩
        · have HQ : Hid (res = false) := Lib.hid (by rw [HRES.out]; exact decide_eq_false (fun e => hun (by injection e)))
          have t : ((un : Int) == un2) = false := beq_eq_false_iff_ne.2 hun
          have tn : ((un : Int) != un2) = true := bne_iff_ne.2 hun
          clear hun
          go_enter Tryd.func11, Tryd.ntmps11
          go_upto_region 1 with (fail)
          refine alloc_abs (G := fun w0 => Code.wp _ _ _ _ (w0.alloc _)) ?_
          intro w0 hb0 ho0 hs0
          have hlt0 : w.heap.size < w0.heap.size := got_lt hb0
          rw [← hs0]
          refine alloc_abs (G := fun w0 => Code.wp _ _ _ _ w0) ?_
          intro w1 hb1 ho1 hs1
          have BA := Lib.hid (ho1.got hb0 (by simp)); have BB := Lib.hid hb1; have O1 := Lib.hid (ho0.nil_trans ho1)
          have HNE := Lib.hid hlt0
          clear hb0 ho0 hs0 hb1 ho1 hs1 hlt0
          generalize w.heap.size = ba at BA HNE ⊢
          generalize w0.heap.size = bb at BB HNE ⊢
          have p0 := cell_got BA.out 0; have p1 := cell_got BA.out 1; have p2 := cell_got BA.out 2; have p3 := cell_got BA.out 3; have p4 := cell_got BA.out 4
          have q0 := cell_got BB.out 0; have q1 := cell_got BB.out 1; have q2 := cell_got BB.out 2; have q3 := cell_got BB.out 3; have q4 := cell_got BB.out 4
          have la := got_lt BA.out; have lb := got_lt BB.out
          go_wp2
          go_ret
          exact ⟨by rw [HQ.out]; rfl, O1.out⟩
      · have HQ : Hid (res = false) := Lib.hid (by rw [HRES.out]; exact decide_eq_false (fun e => hft (by injection e with e1 e2 e3; rw [e3])))
        have t : (((ft.length : Nat) : Int) == ((ft2.length : Nat) : Int)) = false := by rw [beq_eq_false_iff_ne]; omega
        have tn : (((ft.length : Nat) : Int) != ((ft2.length : Nat) : Int)) = true := by rw [bne_iff_ne]; omega
        have tm : ((ft.length : Nat) == ft2.length) = false := by rw [beq_eq_false_iff_ne]; omega
        have tq : ((ft.length : Nat) != ft2.length) = true := by rw [bne_iff_ne]; omega
        clear hft
        go_enter Tryd.func11, Tryd.ntmps11
        go_upto_region 1 with (fail)
        refine alloc_abs (G := fun w0 => Code.wp _ _ _ _ (w0.alloc _)) ?_
        intro w0 hb0 ho0 hs0
        have hlt0 : w.heap.size < w0.heap.size := got_lt hb0
        rw [← hs0]
        refine alloc_abs (G := fun w0 => Code.wp _ _ _ _ w0) ?_
        intro w1 hb1 ho1 hs1
        have BA := Lib.hid (ho1.got hb0 (by simp)); have BB := Lib.hid hb1; have O1 := Lib.hid (ho0.nil_trans ho1)
        have HNE := Lib.hid hlt0
        clear hb0 ho0 hs0 hb1 ho1 hs1 hlt0
        generalize w.heap.size = ba at BA HNE ⊢
        generalize w0.heap.size = bb at BB HNE ⊢
        have p0 := cell_got BA.out 0; have p1 := cell_got BA.out 1; have p2 := cell_got BA.out 2; have p3 := cell_got BA.out 3; have p4 := cell_got BA.out 4
        have q0 := cell_got BB.out 0; have q1 := cell_got BB.out 1; have q2 := cell_got BB.out 2; have q3 := cell_got BB.out 3; have q4 := cell_got BB.out 4
        have la := got_lt BA.out; have lb := got_lt BB.out
        go_wp2
        go_ret
        exact ⟨by rw [HQ.out]; rfl, O1.out⟩
    · have HQ : Hid (res = false) := Lib.hid (by rw [HRES.out]; exact decide_eq_false (fun e => hlk (by injection e with e1 e2 e3; have := congrArg List.length e2; simp at this; omega)))
      have t : (((lk.length : Nat) : Int) == ((lk2.length : Nat) : Int)) = false := by rw [beq_eq_false_iff_ne]; omega
      have tn : (((lk.length : Nat) : Int) != ((lk2.length : Nat) : Int)) = true := by rw [bne_iff_ne]; omega
      have tm : ((lk.length : Nat) == lk2.length) = false := by rw [beq_eq_false_iff_ne]; omega
      have tq : ((lk.length : Nat) != lk2.length) = true := by rw [bne_iff_ne]; omega
      clear hlk
      go_enter Tryd.func11, Tryd.ntmps11
      go_upto_region 1 with (fail)
      refine alloc_abs (G := fun w0 => Code.wp _ _ _ _ (w0.alloc _)) ?_
      intro w0 hb0 ho0 hs0
      have hlt0 : w.heap.size < w0.heap.size := got_lt hb0
      rw [← hs0]
      refine alloc_abs (G := fun w0 => Code.wp _ _ _ _ w0) ?_
      intro w1 hb1 ho1 hs1
      have BA := Lib.hid (ho1.got hb0 (by simp)); have BB := Lib.hid hb1; have O1 := Lib.hid (ho0.nil_trans ho1)
      have HNE := Lib.hid hlt0
      clear hb0 ho0 hs0 hb1 ho1 hs1 hlt0
      generalize w.heap.size = ba at BA HNE ⊢
      generalize w0.heap.size = bb at BB HNE ⊢
      have p0 := cell_got BA.out 0; have p1 := cell_got BA.out 1; have p2 := cell_got BA.out 2; have p3 := cell_got BA.out 3; have p4 := cell_got BA.out 4
      have q0 := cell_got BB.out 0; have q1 := cell_got BB.out 1; have q2 := cell_got BB.out 2; have q3 := cell_got BB.out 3; have q4 := cell_got BB.out 4
      have la := got_lt BA.out; have lb := got_lt BB.out
      go_wp2
      go_ret
      exact ⟨by rw [HQ.out]; rfl, O1.out⟩
  · have HQ : Hid (res = false) := Lib.hid (by rw [HRES.out]; exact decide_eq_false (fun e => hnd (by injection e with e1 e2 e3; have := congrArg List.length e1; simp at this; omega)))
    have t : (((nd.length : Nat) : Int) == ((nd2.length : Nat) : Int)) = false := by rw [beq_eq_false_iff_ne]; omega
    have tn : (((nd.length : Nat) : Int) != ((nd2.length : Nat) : Int)) = true := by rw [bne_iff_ne]; omega
    have tm : ((nd.length : Nat) == nd2.length) = false := by rw [beq_eq_false_iff_ne]; omega
    have tq : ((nd.length : Nat) != nd2.length) = true := by rw [bne_iff_ne]; omega
    clear hnd
    go_enter Tryd.func11, Tryd.ntmps11
    go_upto_region 1 with (fail)
    refine alloc_abs (G := fun w0 => Code.wp _ _ _ _ (w0.alloc _)) ?_
    intro w0 hb0 ho0 hs0
    have hlt0 : w.heap.size < w0.heap.size := got_lt hb0
    rw [← hs0]
    refine alloc_abs (G := fun w0 => Code.wp _ _ _ _ w0) ?_
    intro w1 hb1 ho1 hs1
    have BA := Lib.hid (ho1.got hb0 (by simp)); have BB := Lib.hid hb1; have O1 := Lib.hid (ho0.nil_trans ho1)
    have HNE := Lib.hid hlt0
    clear hb0 ho0 hs0 hb1 ho1 hs1 hlt0
    generalize w.heap.size = ba at BA HNE ⊢
    generalize w0.heap.size = bb at BB HNE ⊢
    have p0 := cell_got BA.out 0; have p1 := cell_got BA.out 1; have p2 := cell_got BA.out 2; have p3 := cell_got BA.out 3; have p4 := cell_got BA.out 4
    have q0 := cell_got BB.out 0; have q1 := cell_got BB.out 1; have q2 := cell_got BB.out 2; have q3 := cell_got BB.out 3; have q4 := cell_got BB.out 4
    have la := got_lt BA.out; have lb := got_lt BB.out
    go_wp2
    go_ret
    exact ⟨by rw [HQ.out]; rfl, O1.out⟩
end Go.Proofs.YthmeifdgkodjlaaDoor
