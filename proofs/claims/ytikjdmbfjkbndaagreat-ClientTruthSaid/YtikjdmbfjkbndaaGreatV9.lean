/- Texts of one chain: C6, C7. Conditions: those named in each theorem. -/
import Derived.Test.YtikjdmbfjkbndaaGreatV8
namespace Go.Proofs.YtikjdmbfjkbndaaGreat
open Go.RowKit

theorem allocd_abs' {G : World → Prop} {w : World} {o : Obj} (h : ∀ w0, w0.heap[w.heap.size]? = some o → Only [] w w0 → G w0) : G (w.drew.alloc o) :=
 h _ (alloc_new w.drew o) ((Only.refl [] w).drew.alloc o)
theorem clamp_yes {n lo hi : Int} (h : wth n lo hi = true) : clampI n lo hi = n := by
 obtain ⟨h0, h1⟩ := wth_iff.1 h
 exact (clampI_id (by omega)).2 ⟨h0, h1⟩
theorem clamp_no {n lo hi : Int} (hl : lo ≤ hi) (h : wth n lo hi = false) : (clampI n lo hi == n) = false := by
 rw [beq_eq_false_iff_ne]
 intro e
 have := (clampI_id hl).1 e
 rw [wth_no] at h
 exact h this
set_option maxRecDepth 100000 in
set_option maxHeartbeats 1000000 in
theorem pGrowth (d tol : Int) (h0 : 0 ≤ d) (h1 : d ≤ 9007199254740992) (h2 : 0 ≤ tol) (h3 : tol ≤ 500000) (w : World) :
  Calls Tryz.prog 147 #[.int .i64 d, .int .i64 tol] w fun e w' => e = .returned (.int .i64 (grwS d tol)) ∧ Only [] w w' := by
 have hm := md_bd (a := tol) (b := -d) (c := 1000000000) h2 (by omega) (by omega)
 have HE : Hid (grwS d tol = -(-d * tol / 1000000000)) := Lib.hid rfl
 have HM := Lib.hid (fun w' => o_drew (fmuldiv (-d) tol 1000000000 w' (by omega) (by omega) (by omega) (by omega) (by omega) (by omega)))
 rw [Int.mul_comm tol] at hm
 have hb : -9007199254740992 ≤ -d * tol / 1000000000 ∧ -d * tol / 1000000000 ≤ 0 := by
  by_cases hn : -d < 0
  ·have := hm.2 hn; omega
  ·have := hm.1 (by omega); omega
 generalize -d * tol / 1000000000 = q at HM HE hb
 rw [orZ_yes (by omega) (by omega), inI_yes (by omega) (by omega)] at HM
 have w0' : IntKind.i64.wrap (-d) = -d := by rw [IntKind.wrap_i64]; omega
 have w1' : IntKind.i64.wrap (-q) = -q := by rw [IntKind.wrap_i64]; omega
 clear hm
 go_enter Tryz.func147, Tryz.ntmps147
 have OO := Lib.hid (Only.refl [] w)
 go_wp2_with fail
 refine (HM.out _).mono ?_
 rintro e w2 ⟨rfl, ho⟩
 replace OO := Lib.hid (OO.out.nil_trans ho)
 clear ho
 go_wp2
 go_ret
 exact ⟨by rw [HE.out]; rfl, OO.out⟩
set_option maxRecDepth 100000 in
set_option maxHeartbeats 1000000 in
theorem pSChk (s : Smp) (w : World) :
  Calls Tryz.prog 148 #[smV s] w fun e w' => e = .returned (.int .i64 (schk s)) ∧ Only [] w w' := by
 obtain ⟨a, b, c, d⟩ := s
 have HE : Hid (schk ⟨a, b, c, d⟩ = if isT a && (isSp b && (isSp c && isT d)) then 0 else 3) := Lib.hid rfl
 generalize schk ⟨a, b, c, d⟩ = res at HE ⊢
 have C1 := Lib.hid (fun w' => (fclamp a (-4503599627370496) 4503599627370496 w'))
 have C2 := Lib.hid (fun w' => (fclamp b 0 9007199254740992 w'))
 have C3 := Lib.hid (fun w' => (fclamp c 0 9007199254740992 w'))
 have C4 := Lib.hid (fun w' => (fclamp d (-4503599627370496) 4503599627370496 w'))
 unfold smV
 dsimp only
 cases h1 : isT a
 ·rw [h1] at HE
  obtain rfl : res = 3 := by have := HE.out; simpa using this
  clear HE
  have q1 := clamp_no (by omega) h1
  generalize clampI a (-4503599627370496) 4503599627370496 = v1 at C1 q1
  generalize clampI b 0 9007199254740992 = v2 at C2
  generalize clampI c 0 9007199254740992 = v3 at C3
  generalize clampI d (-4503599627370496) 4503599627370496 = v4 at C4
  clear h1
  go_enter Tryz.func148, Tryz.ntmps148
  go_upto_region 1 with (fail)
  refine alloc_abs (G := fun w0 => Code.wp _ _ _ _ w0) ?_
  intro w1 hb1 ho1 hs1
  obtain ⟨b1, hbe1⟩ : ∃ b, w.heap.size = b := ⟨_, rfl⟩
  rw [hbe1] at hb1
  rw [hbe1]
  have HN : Hid (w.heap.size ≤ b1) := Lib.hid (by omega)
  have B1 := Lib.hid hb1; have OO := Lib.hid ho1
  clear hb1 hs1 hbe1
  clear ho1
  have k1 := c_4 B1.out
  refine wp_region_calm2 [0, 1, 2, 3, 4, 5, 6, 7, 8, 9, 10, 11, 12] [14] (OnlyC ([] : List Nat) w1) (by kernel_rfl) (by kernel_rfl) ?_
  simp only [pick, List.map_cons, List.map_nil, List.getD_cons_succ, List.getD_cons_zero]
  iterate 2 (refine wpCalm_step (fun K hK => ?_); go_simp; refine hK _ ?_; clear hK K)
  refine wpCalm_call (by kernel_rfl) 224 #[.int .i64 a, .int .i64 (-4503599627370496), .int .i64 4503599627370496] (fun _ => by kernel_rfl) (.int .i64 v1) (fun w' hw' => C1.out w') ?_
  iterate 2 (refine wpCalm_step (fun K hK => ?_); go_simp; refine hK _ ?_; clear hK K)
  refine wpCalm_call (by kernel_rfl) 224 #[.int .i64 b, .int .i64 0, .int .i64 9007199254740992] (fun _ => by kernel_rfl) (.int .i64 v2) (fun w' hw' => C2.out w') ?_
  iterate 2 (refine wpCalm_step (fun K hK => ?_); go_simp; refine hK _ ?_; clear hK K)
  refine wpCalm_call (by kernel_rfl) 224 #[.int .i64 c, .int .i64 0, .int .i64 9007199254740992] (fun _ => by kernel_rfl) (.int .i64 v3) (fun w' hw' => C3.out w') ?_
  iterate 2 (refine wpCalm_step (fun K hK => ?_); go_simp; refine hK _ ?_; clear hK K)
  refine wpCalm_call (by kernel_rfl) 224 #[.int .i64 d, .int .i64 (-4503599627370496), .int .i64 4503599627370496] (fun _ => by kernel_rfl) (.int .i64 v4) (fun w' hw' => C4.out w') ?_
  iterate 1 (refine wpCalm_step (fun K hK => ?_); go_simp; refine hK _ ?_; clear hK K)
  refine wpCalm_nil ?_
  refine Rest.by (X := Nat) (fun y a => a.put (some 3) (.pointer (some ⟨y, 0, none⟩))) (fun y w' => w1.heap.size ≤ y ∧ w'.heap[y]? = some (.cells #[.int .i64 v1, .int .i64 v2, .int .i64 v3, .int .i64 v4] 157 (0, 0)) ∧ Only [] w1 w') ?_ ?_
  rotate_left
  ·refine wpAnyC_next [13] (by kernel_rfl) (by simp) (.inr (onlyC (Only.refl [] w1).drew)) ?_
   simp only [List.mem_cons, List.not_mem_nil, or_false, forall_eq]
   refine wpOp_one rfl ?_
   go_wp2
   simp only [nrm]
   refine allocd_abs' (G := fun w0 => wpAnyC _ _ _ _ _ _ _ _ _ w0) ?_
   intro w0 hb0 ho0
   have O0 := Lib.hid ho0; have B0 := Lib.hid hb0
   obtain ⟨y, hy⟩ : ∃ y, w1.heap.size = y := ⟨_, rfl⟩
   rw [hy] at B0
   rw [hy]
   have HY : Hid (w1.heap.size ≤ y) := Lib.hid (by omega)
   clear hb0 ho0 hy
   refine wpAnyC_next [14] (by kernel_rfl) (by simp) (.inr (onlyC O0.out)) ?_
   simp only [List.mem_cons, List.not_mem_nil, or_false, forall_eq]
   refine wpOp_one rfl ?_
   have y0 := cell_got B0.out 0; have f0 := frozen_got B0.out 0; have y1 := cell_got B0.out 1; have f1 := frozen_got B0.out 1; have y2 := cell_got B0.out 2; have f2 := frozen_got B0.out 2; have y3 := cell_got B0.out 3; have f3 := frozen_got B0.out 3; have ly := got_lt B0.out
   go_wp2
   simp only [nrm]
   refine wpAnyC_done (by kernel_rfl) (.inl (late_of (by kernel_rfl))) ⟨y, by simp [Act.put], by first | exact HY.out | exact Nat.le_refl _, ?_, ?_⟩
   ·exact setCell_got (o := 3) (.int .i64 v4) (setCell_got (o := 2) (.int .i64 v3) (setCell_got (o := 1) (.int .i64 v2) (setCell_got (o := 0) (.int .i64 v1) (B0.out))))
   ·exact ((((O0.out).setCell (.inr HY.out) _).setCell (.inr HY.out) _).setCell (.inr HY.out) _).setCell (.inr HY.out) _
  rintro b2 w2 ⟨hbn, hb, ho⟩
  simp only [Act.put, List.setIfInBounds_toArray, List.set_cons_succ, List.set_cons_zero]
  have HN2 : Hid (w.heap.size ≤ b2) := Lib.hid (Nat.le_trans OO.out.size hbn)
  have HM2_1 : Hid (b1 ≠ b2) := Lib.hid (by omega)
  clear k1
  replace OO := Lib.hid (OO.out.nil_trans ho); replace B1 := Lib.hid (ho.got B1.out (by simp)); have B2 := Lib.hid hb
  clear hb ho hbn
  have k1 := c_4 B1.out; have k2 := c_4 B2.out
  go_wp2
  go_ret
  exact ⟨rfl, OO.out⟩
 ·rw [h1] at HE
  cases h2 : isSp b
  ·rw [h2] at HE
   obtain rfl : res = 3 := by have := HE.out; simpa using this
   clear HE
   rw [clamp_yes h1] at C1
   have q2 := clamp_no (by omega) h2
   generalize clampI b 0 9007199254740992 = v2 at C2 q2
   generalize clampI c 0 9007199254740992 = v3 at C3
   generalize clampI d (-4503599627370496) 4503599627370496 = v4 at C4
   clear h1 h2
   go_enter Tryz.func148, Tryz.ntmps148
   go_upto_region 1 with (fail)
   refine alloc_abs (G := fun w0 => Code.wp _ _ _ _ w0) ?_
   intro w1 hb1 ho1 hs1
   obtain ⟨b1, hbe1⟩ : ∃ b, w.heap.size = b := ⟨_, rfl⟩
   rw [hbe1] at hb1
   rw [hbe1]
   have HN : Hid (w.heap.size ≤ b1) := Lib.hid (by omega)
   have B1 := Lib.hid hb1; have OO := Lib.hid ho1
   clear hb1 hs1 hbe1
   clear ho1
   have k1 := c_4 B1.out
   refine wp_region_calm2 [0, 1, 2, 3, 4, 5, 6, 7, 8, 9, 10, 11, 12] [14] (OnlyC ([] : List Nat) w1) (by kernel_rfl) (by kernel_rfl) ?_
   simp only [pick, List.map_cons, List.map_nil, List.getD_cons_succ, List.getD_cons_zero]
   iterate 2 (refine wpCalm_step (fun K hK => ?_); go_simp; refine hK _ ?_; clear hK K)
   refine wpCalm_call (by kernel_rfl) 224 #[.int .i64 a, .int .i64 (-4503599627370496), .int .i64 4503599627370496] (fun _ => by kernel_rfl) (.int .i64 a) (fun w' hw' => C1.out w') ?_
   iterate 2 (refine wpCalm_step (fun K hK => ?_); go_simp; refine hK _ ?_; clear hK K)
   refine wpCalm_call (by kernel_rfl) 224 #[.int .i64 b, .int .i64 0, .int .i64 9007199254740992] (fun _ => by kernel_rfl) (.int .i64 v2) (fun w' hw' => C2.out w') ?_
   iterate 2 (refine wpCalm_step (fun K hK => ?_); go_simp; refine hK _ ?_; clear hK K)
   refine wpCalm_call (by kernel_rfl) 224 #[.int .i64 c, .int .i64 0, .int .i64 9007199254740992] (fun _ => by kernel_rfl) (.int .i64 v3) (fun w' hw' => C3.out w') ?_
   iterate 2 (refine wpCalm_step (fun K hK => ?_); go_simp; refine hK _ ?_; clear hK K)
   refine wpCalm_call (by kernel_rfl) 224 #[.int .i64 d, .int .i64 (-4503599627370496), .int .i64 4503599627370496] (fun _ => by kernel_rfl) (.int .i64 v4) (fun w' hw' => C4.out w') ?_
   iterate 1 (refine wpCalm_step (fun K hK => ?_); go_simp; refine hK _ ?_; clear hK K)
   refine wpCalm_nil ?_
   refine Rest.by (X := Nat) (fun y a => a.put (some 3) (.pointer (some ⟨y, 0, none⟩))) (fun y w' => w1.heap.size ≤ y ∧ w'.heap[y]? = some (.cells #[.int .i64 a, .int .i64 v2, .int .i64 v3, .int .i64 v4] 157 (0, 0)) ∧ Only [] w1 w') ?_ ?_
   rotate_left
   ·refine wpAnyC_next [13] (by kernel_rfl) (by simp) (.inr (onlyC (Only.refl [] w1).drew)) ?_
    simp only [List.mem_cons, List.not_mem_nil, or_false, forall_eq]
    refine wpOp_one rfl ?_
    go_wp2
    simp only [nrm]
    refine allocd_abs' (G := fun w0 => wpAnyC _ _ _ _ _ _ _ _ _ w0) ?_
    intro w0 hb0 ho0
    have O0 := Lib.hid ho0; have B0 := Lib.hid hb0
    obtain ⟨y, hy⟩ : ∃ y, w1.heap.size = y := ⟨_, rfl⟩
    rw [hy] at B0
    rw [hy]
    have HY : Hid (w1.heap.size ≤ y) := Lib.hid (by omega)
    clear hb0 ho0 hy
    refine wpAnyC_next [14] (by kernel_rfl) (by simp) (.inr (onlyC O0.out)) ?_
    simp only [List.mem_cons, List.not_mem_nil, or_false, forall_eq]
    refine wpOp_one rfl ?_
    have y0 := cell_got B0.out 0; have f0 := frozen_got B0.out 0; have y1 := cell_got B0.out 1; have f1 := frozen_got B0.out 1; have y2 := cell_got B0.out 2; have f2 := frozen_got B0.out 2; have y3 := cell_got B0.out 3; have f3 := frozen_got B0.out 3; have ly := got_lt B0.out
    go_wp2
    simp only [nrm]
    refine wpAnyC_done (by kernel_rfl) (.inl (late_of (by kernel_rfl))) ⟨y, by simp [Act.put], by first | exact HY.out | exact Nat.le_refl _, ?_, ?_⟩
    ·exact setCell_got (o := 3) (.int .i64 v4) (setCell_got (o := 2) (.int .i64 v3) (setCell_got (o := 1) (.int .i64 v2) (setCell_got (o := 0) (.int .i64 a) (B0.out))))
    ·exact ((((O0.out).setCell (.inr HY.out) _).setCell (.inr HY.out) _).setCell (.inr HY.out) _).setCell (.inr HY.out) _
   rintro b2 w2 ⟨hbn, hb, ho⟩
   simp only [Act.put, List.setIfInBounds_toArray, List.set_cons_succ, List.set_cons_zero]
   have HN2 : Hid (w.heap.size ≤ b2) := Lib.hid (Nat.le_trans OO.out.size hbn)
   have HM2_1 : Hid (b1 ≠ b2) := Lib.hid (by omega)
   clear k1
   replace OO := Lib.hid (OO.out.nil_trans ho); replace B1 := Lib.hid (ho.got B1.out (by simp)); have B2 := Lib.hid hb
   clear hb ho hbn
   have k1 := c_4 B1.out; have k2 := c_4 B2.out
   go_wp2
   go_ret
   exact ⟨rfl, OO.out⟩
  ·rw [h2] at HE
   cases h3 : isSp c
   ·rw [h3] at HE
    obtain rfl : res = 3 := by have := HE.out; simpa using this
    clear HE
    rw [clamp_yes h1] at C1
    rw [clamp_yes h2] at C2
    have q3 := clamp_no (by omega) h3
    generalize clampI c 0 9007199254740992 = v3 at C3 q3
    generalize clampI d (-4503599627370496) 4503599627370496 = v4 at C4
    clear h1 h2 h3
    go_enter Tryz.func148, Tryz.ntmps148
    go_upto_region 1 with (fail)
    refine alloc_abs (G := fun w0 => Code.wp _ _ _ _ w0) ?_
    intro w1 hb1 ho1 hs1
    obtain ⟨b1, hbe1⟩ : ∃ b, w.heap.size = b := ⟨_, rfl⟩
    rw [hbe1] at hb1
    rw [hbe1]
    have HN : Hid (w.heap.size ≤ b1) := Lib.hid (by omega)
    have B1 := Lib.hid hb1; have OO := Lib.hid ho1
    clear hb1 hs1 hbe1
    clear ho1
    have k1 := c_4 B1.out
    refine wp_region_calm2 [0, 1, 2, 3, 4, 5, 6, 7, 8, 9, 10, 11, 12] [14] (OnlyC ([] : List Nat) w1) (by kernel_rfl) (by kernel_rfl) ?_
    simp only [pick, List.map_cons, List.map_nil, List.getD_cons_succ, List.getD_cons_zero]
    iterate 2 (refine wpCalm_step (fun K hK => ?_); go_simp; refine hK _ ?_; clear hK K)
    refine wpCalm_call (by kernel_rfl) 224 #[.int .i64 a, .int .i64 (-4503599627370496), .int .i64 4503599627370496] (fun _ => by kernel_rfl) (.int .i64 a) (fun w' hw' => C1.out w') ?_
    iterate 2 (refine wpCalm_step (fun K hK => ?_); go_simp; refine hK _ ?_; clear hK K)
    refine wpCalm_call (by kernel_rfl) 224 #[.int .i64 b, .int .i64 0, .int .i64 9007199254740992] (fun _ => by kernel_rfl) (.int .i64 b) (fun w' hw' => C2.out w') ?_
    iterate 2 (refine wpCalm_step (fun K hK => ?_); go_simp; refine hK _ ?_; clear hK K)
    refine wpCalm_call (by kernel_rfl) 224 #[.int .i64 c, .int .i64 0, .int .i64 9007199254740992] (fun _ => by kernel_rfl) (.int .i64 v3) (fun w' hw' => C3.out w') ?_
    iterate 2 (refine wpCalm_step (fun K hK => ?_); go_simp; refine hK _ ?_; clear hK K)
    refine wpCalm_call (by kernel_rfl) 224 #[.int .i64 d, .int .i64 (-4503599627370496), .int .i64 4503599627370496] (fun _ => by kernel_rfl) (.int .i64 v4) (fun w' hw' => C4.out w') ?_
    iterate 1 (refine wpCalm_step (fun K hK => ?_); go_simp; refine hK _ ?_; clear hK K)
    refine wpCalm_nil ?_
    refine Rest.by (X := Nat) (fun y a => a.put (some 3) (.pointer (some ⟨y, 0, none⟩))) (fun y w' => w1.heap.size ≤ y ∧ w'.heap[y]? = some (.cells #[.int .i64 a, .int .i64 b, .int .i64 v3, .int .i64 v4] 157 (0, 0)) ∧ Only [] w1 w') ?_ ?_
    rotate_left
    ·refine wpAnyC_next [13] (by kernel_rfl) (by simp) (.inr (onlyC (Only.refl [] w1).drew)) ?_
     simp only [List.mem_cons, List.not_mem_nil, or_false, forall_eq]
     refine wpOp_one rfl ?_
     go_wp2
     simp only [nrm]
     refine allocd_abs' (G := fun w0 => wpAnyC _ _ _ _ _ _ _ _ _ w0) ?_
     intro w0 hb0 ho0
     have O0 := Lib.hid ho0; have B0 := Lib.hid hb0
     obtain ⟨y, hy⟩ : ∃ y, w1.heap.size = y := ⟨_, rfl⟩
     rw [hy] at B0
     rw [hy]
     have HY : Hid (w1.heap.size ≤ y) := Lib.hid (by omega)
     clear hb0 ho0 hy
     refine wpAnyC_next [14] (by kernel_rfl) (by simp) (.inr (onlyC O0.out)) ?_
     simp only [List.mem_cons, List.not_mem_nil, or_false, forall_eq]
     refine wpOp_one rfl ?_
     have y0 := cell_got B0.out 0; have f0 := frozen_got B0.out 0; have y1 := cell_got B0.out 1; have f1 := frozen_got B0.out 1; have y2 := cell_got B0.out 2; have f2 := frozen_got B0.out 2; have y3 := cell_got B0.out 3; have f3 := frozen_got B0.out 3; have ly := got_lt B0.out
     go_wp2
     simp only [nrm]
     refine wpAnyC_done (by kernel_rfl) (.inl (late_of (by kernel_rfl))) ⟨y, by simp [Act.put], by first | exact HY.out | exact Nat.le_refl _, ?_, ?_⟩
     ·exact setCell_got (o := 3) (.int .i64 v4) (setCell_got (o := 2) (.int .i64 v3) (setCell_got (o := 1) (.int .i64 b) (setCell_got (o := 0) (.int .i64 a) (B0.out))))
     ·exact ((((O0.out).setCell (.inr HY.out) _).setCell (.inr HY.out) _).setCell (.inr HY.out) _).setCell (.inr HY.out) _
    rintro b2 w2 ⟨hbn, hb, ho⟩
    simp only [Act.put, List.setIfInBounds_toArray, List.set_cons_succ, List.set_cons_zero]
    have HN2 : Hid (w.heap.size ≤ b2) := Lib.hid (Nat.le_trans OO.out.size hbn)
    have HM2_1 : Hid (b1 ≠ b2) := Lib.hid (by omega)
    clear k1
    replace OO := Lib.hid (OO.out.nil_trans ho); replace B1 := Lib.hid (ho.got B1.out (by simp)); have B2 := Lib.hid hb
    clear hb ho hbn
    have k1 := c_4 B1.out; have k2 := c_4 B2.out
    go_wp2
    go_ret
    exact ⟨rfl, OO.out⟩
   ·rw [h3] at HE
    cases h4 : isT d
    ·rw [h4] at HE
     obtain rfl : res = 3 := by have := HE.out; simpa using this
     clear HE
     rw [clamp_yes h1] at C1
     rw [clamp_yes h2] at C2
     rw [clamp_yes h3] at C3
     have q4 := clamp_no (by omega) h4
     generalize clampI d (-4503599627370496) 4503599627370496 = v4 at C4 q4
     clear h1 h2 h3 h4
     go_enter Tryz.func148, Tryz.ntmps148
     go_upto_region 1 with (fail)
     refine alloc_abs (G := fun w0 => Code.wp _ _ _ _ w0) ?_
     intro w1 hb1 ho1 hs1
     obtain ⟨b1, hbe1⟩ : ∃ b, w.heap.size = b := ⟨_, rfl⟩
     rw [hbe1] at hb1
     rw [hbe1]
     have HN : Hid (w.heap.size ≤ b1) := Lib.hid (by omega)
     have B1 := Lib.hid hb1; have OO := Lib.hid ho1
     clear hb1 hs1 hbe1
     clear ho1
     have k1 := c_4 B1.out
     refine wp_region_calm2 [0, 1, 2, 3, 4, 5, 6, 7, 8, 9, 10, 11, 12] [14] (OnlyC ([] : List Nat) w1) (by kernel_rfl) (by kernel_rfl) ?_
     simp only [pick, List.map_cons, List.map_nil, List.getD_cons_succ, List.getD_cons_zero]
     iterate 2 (refine wpCalm_step (fun K hK => ?_); go_simp; refine hK _ ?_; clear hK K)
     refine wpCalm_call (by kernel_rfl) 224 #[.int .i64 a, .int .i64 (-4503599627370496), .int .i64 4503599627370496] (fun _ => by kernel_rfl) (.int .i64 a) (fun w' hw' => C1.out w') ?_
     iterate 2 (refine wpCalm_step (fun K hK => ?_); go_simp; refine hK _ ?_; clear hK K)
     refine wpCalm_call (by kernel_rfl) 224 #[.int .i64 b, .int .i64 0, .int .i64 9007199254740992] (fun _ => by kernel_rfl) (.int .i64 b) (fun w' hw' => C2.out w') ?_
     iterate 2 (refine wpCalm_step (fun K hK => ?_); go_simp; refine hK _ ?_; clear hK K)
     refine wpCalm_call (by kernel_rfl) 224 #[.int .i64 c, .int .i64 0, .int .i64 9007199254740992] (fun _ => by kernel_rfl) (.int .i64 c) (fun w' hw' => C3.out w') ?_
     iterate 2 (refine wpCalm_step (fun K hK => ?_); go_simp; refine hK _ ?_; clear hK K)
     refine wpCalm_call (by kernel_rfl) 224 #[.int .i64 d, .int .i64 (-4503599627370496), .int .i64 4503599627370496] (fun _ => by kernel_rfl) (.int .i64 v4) (fun w' hw' => C4.out w') ?_
     iterate 1 (refine wpCalm_step (fun K hK => ?_); go_simp; refine hK _ ?_; clear hK K)
     refine wpCalm_nil ?_
     refine Rest.by (X := Nat) (fun y a => a.put (some 3) (.pointer (some ⟨y, 0, none⟩))) (fun y w' => w1.heap.size ≤ y ∧ w'.heap[y]? = some (.cells #[.int .i64 a, .int .i64 b, .int .i64 c, .int .i64 v4] 157 (0, 0)) ∧ Only [] w1 w') ?_ ?_
     rotate_left
     ·refine wpAnyC_next [13] (by kernel_rfl) (by simp) (.inr (onlyC (Only.refl [] w1).drew)) ?_
      simp only [List.mem_cons, List.not_mem_nil, or_false, forall_eq]
      refine wpOp_one rfl ?_
      go_wp2
      simp only [nrm]
      refine allocd_abs' (G := fun w0 => wpAnyC _ _ _ _ _ _ _ _ _ w0) ?_
      intro w0 hb0 ho0
      have O0 := Lib.hid ho0; have B0 := Lib.hid hb0
      obtain ⟨y, hy⟩ : ∃ y, w1.heap.size = y := ⟨_, rfl⟩
      rw [hy] at B0
      rw [hy]
      have HY : Hid (w1.heap.size ≤ y) := Lib.hid (by omega)
      clear hb0 ho0 hy
      refine wpAnyC_next [14] (by kernel_rfl) (by simp) (.inr (onlyC O0.out)) ?_
      simp only [List.mem_cons, List.not_mem_nil, or_false, forall_eq]
      refine wpOp_one rfl ?_
      have y0 := cell_got B0.out 0; have f0 := frozen_got B0.out 0; have y1 := cell_got B0.out 1; have f1 := frozen_got B0.out 1; have y2 := cell_got B0.out 2; have f2 := frozen_got B0.out 2; have y3 := cell_got B0.out 3; have f3 := frozen_got B0.out 3; have ly := got_lt B0.out
      go_wp2
      simp only [nrm]
      refine wpAnyC_done (by kernel_rfl) (.inl (late_of (by kernel_rfl))) ⟨y, by simp [Act.put], by first | exact HY.out | exact Nat.le_refl _, ?_, ?_⟩
      ·exact setCell_got (o := 3) (.int .i64 v4) (setCell_got (o := 2) (.int .i64 c) (setCell_got (o := 1) (.int .i64 b) (setCell_got (o := 0) (.int .i64 a) (B0.out))))
      ·exact ((((O0.out).setCell (.inr HY.out) _).setCell (.inr HY.out) _).setCell (.inr HY.out) _).setCell (.inr HY.out) _
     rintro b2 w2 ⟨hbn, hb, ho⟩
     simp only [Act.put, List.setIfInBounds_toArray, List.set_cons_succ, List.set_cons_zero]
     have HN2 : Hid (w.heap.size ≤ b2) := Lib.hid (Nat.le_trans OO.out.size hbn)
     have HM2_1 : Hid (b1 ≠ b2) := Lib.hid (by omega)
     clear k1
     replace OO := Lib.hid (OO.out.nil_trans ho); replace B1 := Lib.hid (ho.got B1.out (by simp)); have B2 := Lib.hid hb
     clear hb ho hbn
     have k1 := c_4 B1.out; have k2 := c_4 B2.out
     go_wp2
     go_ret
     exact ⟨rfl, OO.out⟩
    ·rw [h4] at HE
     obtain rfl : res = 0 := by have := HE.out; simpa using this
     clear HE
     rw [clamp_yes h1] at C1
     rw [clamp_yes h2] at C2
     rw [clamp_yes h3] at C3
     rw [clamp_yes h4] at C4
     clear h1 h2 h3 h4
     go_enter Tryz.func148, Tryz.ntmps148
     go_upto_region 1 with (fail)
     refine alloc_abs (G := fun w0 => Code.wp _ _ _ _ w0) ?_
     intro w1 hb1 ho1 hs1
     obtain ⟨b1, hbe1⟩ : ∃ b, w.heap.size = b := ⟨_, rfl⟩
     rw [hbe1] at hb1
     rw [hbe1]
     have HN : Hid (w.heap.size ≤ b1) := Lib.hid (by omega)
     have B1 := Lib.hid hb1; have OO := Lib.hid ho1
     clear hb1 hs1 hbe1
     clear ho1
     have k1 := c_4 B1.out
     refine wp_region_calm2 [0, 1, 2, 3, 4, 5, 6, 7, 8, 9, 10, 11, 12] [14] (OnlyC ([] : List Nat) w1) (by kernel_rfl) (by kernel_rfl) ?_
     simp only [pick, List.map_cons, List.map_nil, List.getD_cons_succ, List.getD_cons_zero]
     iterate 2 (refine wpCalm_step (fun K hK => ?_); go_simp; refine hK _ ?_; clear hK K)
     refine wpCalm_call (by kernel_rfl) 224 #[.int .i64 a, .int .i64 (-4503599627370496), .int .i64 4503599627370496] (fun _ => by kernel_rfl) (.int .i64 a) (fun w' hw' => C1.out w') ?_
     iterate 2 (refine wpCalm_step (fun K hK => ?_); go_simp; refine hK _ ?_; clear hK K)
     refine wpCalm_call (by kernel_rfl) 224 #[.int .i64 b, .int .i64 0, .int .i64 9007199254740992] (fun _ => by kernel_rfl) (.int .i64 b) (fun w' hw' => C2.out w') ?_
     iterate 2 (refine wpCalm_step (fun K hK => ?_); go_simp; refine hK _ ?_; clear hK K)
     refine wpCalm_call (by kernel_rfl) 224 #[.int .i64 c, .int .i64 0, .int .i64 9007199254740992] (fun _ => by kernel_rfl) (.int .i64 c) (fun w' hw' => C3.out w') ?_
     iterate 2 (refine wpCalm_step (fun K hK => ?_); go_simp; refine hK _ ?_; clear hK K)
     refine wpCalm_call (by kernel_rfl) 224 #[.int .i64 d, .int .i64 (-4503599627370496), .int .i64 4503599627370496] (fun _ => by kernel_rfl) (.int .i64 d) (fun w' hw' => C4.out w') ?_
     iterate 1 (refine wpCalm_step (fun K hK => ?_); go_simp; refine hK _ ?_; clear hK K)
     refine wpCalm_nil ?_
     refine Rest.by (X := Nat) (fun y a => a.put (some 3) (.pointer (some ⟨y, 0, none⟩))) (fun y w' => w1.heap.size ≤ y ∧ w'.heap[y]? = some (.cells #[.int .i64 a, .int .i64 b, .int .i64 c, .int .i64 d] 157 (0, 0)) ∧ Only [] w1 w') ?_ ?_
     rotate_left
     ·refine wpAnyC_next [13] (by kernel_rfl) (by simp) (.inr (onlyC (Only.refl [] w1).drew)) ?_
      simp only [List.mem_cons, List.not_mem_nil, or_false, forall_eq]
      refine wpOp_one rfl ?_
      go_wp2
      simp only [nrm]
      refine allocd_abs' (G := fun w0 => wpAnyC _ _ _ _ _ _ _ _ _ w0) ?_
      intro w0 hb0 ho0
      have O0 := Lib.hid ho0; have B0 := Lib.hid hb0
      obtain ⟨y, hy⟩ : ∃ y, w1.heap.size = y := ⟨_, rfl⟩
      rw [hy] at B0
      rw [hy]
      have HY : Hid (w1.heap.size ≤ y) := Lib.hid (by omega)
      clear hb0 ho0 hy
      refine wpAnyC_next [14] (by kernel_rfl) (by simp) (.inr (onlyC O0.out)) ?_
      simp only [List.mem_cons, List.not_mem_nil, or_false, forall_eq]
      refine wpOp_one rfl ?_
      have y0 := cell_got B0.out 0; have f0 := frozen_got B0.out 0; have y1 := cell_got B0.out 1; have f1 := frozen_got B0.out 1; have y2 := cell_got B0.out 2; have f2 := frozen_got B0.out 2; have y3 := cell_got B0.out 3; have f3 := frozen_got B0.out 3; have ly := got_lt B0.out
      go_wp2
      simp only [nrm]
      refine wpAnyC_done (by kernel_rfl) (.inl (late_of (by kernel_rfl))) ⟨y, by simp [Act.put], by first | exact HY.out | exact Nat.le_refl _, ?_, ?_⟩
      ·exact setCell_got (o := 3) (.int .i64 d) (setCell_got (o := 2) (.int .i64 c) (setCell_got (o := 1) (.int .i64 b) (setCell_got (o := 0) (.int .i64 a) (B0.out))))
      ·exact ((((O0.out).setCell (.inr HY.out) _).setCell (.inr HY.out) _).setCell (.inr HY.out) _).setCell (.inr HY.out) _
     rintro b2 w2 ⟨hbn, hb, ho⟩
     simp only [Act.put, List.setIfInBounds_toArray, List.set_cons_succ, List.set_cons_zero]
     have HN2 : Hid (w.heap.size ≤ b2) := Lib.hid (Nat.le_trans OO.out.size hbn)
     have HM2_1 : Hid (b1 ≠ b2) := Lib.hid (by omega)
     clear k1
     replace OO := Lib.hid (OO.out.nil_trans ho); replace B1 := Lib.hid (ho.got B1.out (by simp)); have B2 := Lib.hid hb
     clear hb ho hbn
     have k1 := c_4 B1.out; have k2 := c_4 B2.out
     go_wp2
     go_ret
     exact ⟨rfl, OO.out⟩
set_option maxRecDepth 100000 in
set_option maxHeartbeats 1000000 in
theorem pSDist (s : Smp) (w : World) :
  Calls Tryz.prog 131 #[smV s] w fun e w' => e = .returned (.int .i64 (sdist s)) ∧ Only [] w w' := by
 obtain ⟨a, b, c, d⟩ := s
 have HC := Lib.hid (fun w' => pSChk ⟨a, b, c, d⟩ w')
 have hb := fun h => schk_ok.1 (show schk ⟨a, b, c, d⟩ = 0 from h)
 have HE : Hid (sdist ⟨a, b, c, d⟩ = if schk ⟨a, b, c, d⟩ = 0 then (b + 1) / 2 + c else 0) := Lib.hid rfl
 generalize sdist ⟨a, b, c, d⟩ = res at HE ⊢
 generalize schk ⟨a, b, c, d⟩ = er at HC HE hb
 unfold smV at HC ⊢
 dsimp only at HC hb ⊢
 by_cases hz : er = 0
 ·obtain ⟨_, ⟨b0, b1⟩, ⟨c0, c1⟩, _⟩ := hb hz
  subst hz
  have HX := Lib.hid (fun w' => o_drew (fceil2 b w' b0 (by omega)))
  obtain ⟨q, hq⟩ : ∃ q, (b + 1) / 2 = q := ⟨_, rfl⟩
  have hqb : 0 ≤ q ∧ q ≤ 4503599627370496 := by omega
  rw [hq] at HE HX
  have hwr : IntKind.i64.wrap (q + c) = q + c := by rw [IntKind.wrap_i64]; omega
  obtain rfl : res = q + c := by rw [HE.out, if_pos rfl]
  clear HE hb hq
  go_enter Tryz.func131, Tryz.ntmps131
  go_upto_region 1 with (fail)
  refine alloc_abs (G := fun w0 => Code.wp _ _ _ _ w0) ?_
  intro w1 hb1 ho1 hs1
  obtain ⟨b1, hbe1⟩ : ∃ b, w.heap.size = b := ⟨_, rfl⟩
  rw [hbe1] at hb1
  rw [hbe1]
  have HN : Hid (w.heap.size ≤ b1) := Lib.hid (by omega)
  have B1 := Lib.hid hb1; have OO := Lib.hid ho1
  clear hb1 hs1 hbe1
  clear ho1
  have k1 := c_4 B1.out
  go_wp2_with fail
  refine (HC.out _).mono ?_
  rintro e w2 ⟨rfl, ho⟩
  clear k1
  replace OO := Lib.hid (OO.out.nil_trans ho); replace B1 := Lib.hid (ho.got B1.out (by simp))
  clear ho
  have k1 := c_4 B1.out
  go_wp2_with fail
  refine (HX.out _).mono ?_
  rintro e w3 ⟨rfl, ho⟩
  clear k1
  replace OO := Lib.hid (OO.out.nil_trans ho); replace B1 := Lib.hid (ho.got B1.out (by simp))
  clear ho
  have k1 := c_4 B1.out
  go_wp2
  go_ret
  exact ⟨rfl, OO.out⟩
 ·have q1 : (er != 0) = true := by simpa using hz
  obtain rfl : res = 0 := by rw [HE.out, if_neg hz]
  clear HE hb hz
  go_enter Tryz.func131, Tryz.ntmps131
  go_upto_region 1 with (fail)
  refine alloc_abs (G := fun w0 => Code.wp _ _ _ _ w0) ?_
  intro w1 hb1 ho1 hs1
  obtain ⟨b1, hbe1⟩ : ∃ b, w.heap.size = b := ⟨_, rfl⟩
  rw [hbe1] at hb1
  rw [hbe1]
  have HN : Hid (w.heap.size ≤ b1) := Lib.hid (by omega)
  have B1 := Lib.hid hb1; have OO := Lib.hid ho1
  clear hb1 hs1 hbe1
  clear ho1
  have k1 := c_4 B1.out
  go_wp2_with fail
  refine (HC.out _).mono ?_
  rintro e w2 ⟨rfl, ho⟩
  clear k1
  replace OO := Lib.hid (OO.out.nil_trans ho); replace B1 := Lib.hid (ho.got B1.out (by simp))
  clear ho
  have k1 := c_4 B1.out
  go_wp2
  go_ret
  exact ⟨rfl, OO.out⟩
set_option maxRecDepth 100000 in
set_option maxHeartbeats 1000000 in
theorem pSGrow (s : Smp) (now tol : Int) (w : World) :
  Calls Tryz.prog 216 #[smV s, .int .i64 now, .int .i64 tol] w fun e w' => e = .returned (.tuple #[smV (sgrow s now tol).1, .int .i64 (sgrow s now tol).2]) ∧ Only [] w w' := by
 obtain ⟨a, b, c, d⟩ := s
 have HC := Lib.hid (fun w' => pSChk ⟨a, b, c, d⟩ w')
 have hb := fun h => schk_ok.1 (show schk ⟨a, b, c, d⟩ = 0 from h)
 have HT1 := Lib.hid (fun w' => pIsTime now w')
 have HT2 := Lib.hid (fun w' => pIsTol tol w')
 have hn := fun h => wth_iff.1 (show isT now = true from h)
 have hl := fun h => wth_iff.1 (show isTl tol = true from h)
 have HE : Hid (sgrow ⟨a, b, c, d⟩ now tol = if schk ⟨a, b, c, d⟩ = 0 then (if isT now && isTl tol then (if now < d then (sm0, 12) else (if schk ⟨a, b, c + grwS (now - d) tol, now⟩ = 0 then (⟨a, b, c + grwS (now - d) tol, now⟩, 0) else (sm0, 3))) else (sm0, 3)) else (sm0, 3)) := Lib.hid rfl
 generalize sgrow ⟨a, b, c, d⟩ now tol = res at HE ⊢
 generalize schk ⟨a, b, c, d⟩ = er at HC HE hb
 generalize isT now = x1 at HT1 HE hn
 generalize isTl tol = x2 at HT2 HE hl
 unfold smV at HC ⊢
 dsimp only at HC hb ⊢
 by_cases hz : er = 0
 ·obtain ⟨_, _, ⟨c0, c1⟩, d0, d1⟩ := hb hz
  subst hz
  cases x1
  ·obtain rfl : res = (sm0, 3) := by have := HE.out; simpa using this
   clear HE hb hn hl
   unfold sm0
   dsimp only
   go_enter Tryz.func216, Tryz.ntmps216
   go_upto_region 1 with (fail)
   refine wabs (G := fun w0 => Code.wp _ _ _ _ w0) (R := fun w1 => w1.heap[w.heap.size]? = some (.cells #[.int .i64 a, .int .i64 b, .int .i64 c, .int .i64 d] 157 (0, 0)) ∧ w1.heap[w.heap.size + 1]? = some (.cells #[.int .i64 0, .int .i64 0, .int .i64 0, .int .i64 0] 157 (0, 0)) ∧ Only [] w w1) ?_ ?_
   ·skip
    have k0 := alloc_new w (.cells #[.int .i64 a, .int .i64 b, .int .i64 c, .int .i64 d] 157)
    have k1 := alloc_new (w.alloc (.cells #[.int .i64 a, .int .i64 b, .int .i64 c, .int .i64 d] 157)) (.cells #[.int .i64 0, .int .i64 0, .int .i64 0, .int .i64 0] 157)
    simp only [World.size_alloc] at k0 k1
    exact ⟨(alloc_old k0), k1, (((Only.refl [] w).alloc _).alloc _)⟩
   rintro w1 ⟨h1, h2, ho1⟩
   obtain ⟨b1, hb1⟩ : ∃ b, w.heap.size = b := ⟨_, rfl⟩
   obtain ⟨b2, hb2⟩ : ∃ b, w.heap.size + 1 = b := ⟨_, rfl⟩
   have HN : Hid (w.heap.size ≤ b1 ∧ w.heap.size ≤ b2 ∧ b1 ≠ b2 ∧ b2 ≠ b1) := Lib.hid (by omega)
   rw [hb1] at h1
   rw [hb2] at h2
   rw [show w.heap.size + 1 = b2 from hb2, hb1]
   have B1 := Lib.hid h1; have B2 := Lib.hid h2; have OO := Lib.hid ho1
   clear h1 h2 hb1 hb2
   clear ho1
   have k1 := c_4 B1.out; have k2 := c_4 B2.out
   go_wp2_with fail
   refine (HC.out _).mono ?_
   rintro e w2 ⟨rfl, ho⟩
   clear k1 k2
   replace OO := Lib.hid (OO.out.nil_trans ho); replace B1 := Lib.hid (ho.got B1.out (by simp)); replace B2 := Lib.hid (ho.got B2.out (by simp))
   clear ho
   have k1 := c_4 B1.out; have k2 := c_4 B2.out
   go_wp2_with fail
   refine (HT1.out _).mono ?_
   rintro e w3 ⟨rfl, ho⟩
   clear k1 k2
   replace OO := Lib.hid (OO.out.nil_trans ho); replace B1 := Lib.hid (ho.got B1.out (by simp)); replace B2 := Lib.hid (ho.got B2.out (by simp))
   clear ho
   have k1 := c_4 B1.out; have k2 := c_4 B2.out
   go_wp2
   have HD := setCell_got (o := 3) (.int .i64 0) (setCell_got (o := 2) (.int .i64 0) (setCell_got (o := 1) (.int .i64 0) (setCell_got (o := 0) (.int .i64 0) (B2.out))))
   have e0 := cell_got HD 0; have e1 := cell_got HD 1; have e2 := cell_got HD 2; have e3 := cell_got HD 3; have le := got_lt HD
   refine bodyPost_ret (v := .tuple #[.agg #[.int .i64 0, .int .i64 0, .int .i64 0, .int .i64 0], .int .i64 3]) (by simp [results, Tryz.results216, go_sem, e0, e1, e2, e3]) rfl ⟨rfl, ((((OO.out.setCell (.inr HN.out.2.1) _).setCell (.inr HN.out.2.1) _).setCell (.inr HN.out.2.1) _).setCell (.inr HN.out.2.1) _)⟩
  ·cases x2
   ·obtain rfl : res = (sm0, 3) := by have := HE.out; simpa using this
    clear HE hb hn hl
    unfold sm0
    dsimp only
    go_enter Tryz.func216, Tryz.ntmps216
    go_upto_region 1 with (fail)
    refine wabs (G := fun w0 => Code.wp _ _ _ _ w0) (R := fun w1 => w1.heap[w.heap.size]? = some (.cells #[.int .i64 a, .int .i64 b, .int .i64 c, .int .i64 d] 157 (0, 0)) ∧ w1.heap[w.heap.size + 1]? = some (.cells #[.int .i64 0, .int .i64 0, .int .i64 0, .int .i64 0] 157 (0, 0)) ∧ Only [] w w1) ?_ ?_
    ·skip
     have k0 := alloc_new w (.cells #[.int .i64 a, .int .i64 b, .int .i64 c, .int .i64 d] 157)
     have k1 := alloc_new (w.alloc (.cells #[.int .i64 a, .int .i64 b, .int .i64 c, .int .i64 d] 157)) (.cells #[.int .i64 0, .int .i64 0, .int .i64 0, .int .i64 0] 157)
     simp only [World.size_alloc] at k0 k1
     exact ⟨(alloc_old k0), k1, (((Only.refl [] w).alloc _).alloc _)⟩
    rintro w1 ⟨h1, h2, ho1⟩
    obtain ⟨b1, hb1⟩ : ∃ b, w.heap.size = b := ⟨_, rfl⟩
    obtain ⟨b2, hb2⟩ : ∃ b, w.heap.size + 1 = b := ⟨_, rfl⟩
    have HN : Hid (w.heap.size ≤ b1 ∧ w.heap.size ≤ b2 ∧ b1 ≠ b2 ∧ b2 ≠ b1) := Lib.hid (by omega)
    rw [hb1] at h1
    rw [hb2] at h2
    rw [show w.heap.size + 1 = b2 from hb2, hb1]
    have B1 := Lib.hid h1; have B2 := Lib.hid h2; have OO := Lib.hid ho1
    clear h1 h2 hb1 hb2
    clear ho1
    have k1 := c_4 B1.out; have k2 := c_4 B2.out
    go_wp2_with fail
    refine (HC.out _).mono ?_
    rintro e w2 ⟨rfl, ho⟩
    clear k1 k2
    replace OO := Lib.hid (OO.out.nil_trans ho); replace B1 := Lib.hid (ho.got B1.out (by simp)); replace B2 := Lib.hid (ho.got B2.out (by simp))
    clear ho
    have k1 := c_4 B1.out; have k2 := c_4 B2.out
    go_wp2_with fail
    refine (HT1.out _).mono ?_
    rintro e w3 ⟨rfl, ho⟩
    clear k1 k2
    replace OO := Lib.hid (OO.out.nil_trans ho); replace B1 := Lib.hid (ho.got B1.out (by simp)); replace B2 := Lib.hid (ho.got B2.out (by simp))
    clear ho
    have k1 := c_4 B1.out; have k2 := c_4 B2.out
    go_wp2_with fail
    refine (HT2.out _).mono ?_
    rintro e w4 ⟨rfl, ho⟩
    clear k1 k2
    replace OO := Lib.hid (OO.out.nil_trans ho); replace B1 := Lib.hid (ho.got B1.out (by simp)); replace B2 := Lib.hid (ho.got B2.out (by simp))
    clear ho
    have k1 := c_4 B1.out; have k2 := c_4 B2.out
    go_wp2
    have HD := setCell_got (o := 3) (.int .i64 0) (setCell_got (o := 2) (.int .i64 0) (setCell_got (o := 1) (.int .i64 0) (setCell_got (o := 0) (.int .i64 0) (B2.out))))
    have e0 := cell_got HD 0; have e1 := cell_got HD 1; have e2 := cell_got HD 2; have e3 := cell_got HD 3; have le := got_lt HD
    refine bodyPost_ret (v := .tuple #[.agg #[.int .i64 0, .int .i64 0, .int .i64 0, .int .i64 0], .int .i64 3]) (by simp [results, Tryz.results216, go_sem, e0, e1, e2, e3]) rfl ⟨rfl, ((((OO.out.setCell (.inr HN.out.2.1) _).setCell (.inr HN.out.2.1) _).setCell (.inr HN.out.2.1) _).setCell (.inr HN.out.2.1) _)⟩
   ·obtain ⟨n0, n1⟩ := hn rfl
    obtain ⟨l0, l1⟩ := hl rfl
    by_cases hlt : now < d
    ·have q3 : decide (now < d) = true := decide_eq_true hlt
     obtain rfl : res = (sm0, 12) := by have := HE.out; simpa [hlt] using this
     clear HE hb hn hl
     unfold sm0
     dsimp only
     go_enter Tryz.func216, Tryz.ntmps216
     go_upto_region 1 with (fail)
     refine wabs (G := fun w0 => Code.wp _ _ _ _ w0) (R := fun w1 => w1.heap[w.heap.size]? = some (.cells #[.int .i64 a, .int .i64 b, .int .i64 c, .int .i64 d] 157 (0, 0)) ∧ w1.heap[w.heap.size + 1]? = some (.cells #[.int .i64 0, .int .i64 0, .int .i64 0, .int .i64 0] 157 (0, 0)) ∧ Only [] w w1) ?_ ?_
     ·skip
      have k0 := alloc_new w (.cells #[.int .i64 a, .int .i64 b, .int .i64 c, .int .i64 d] 157)
      have k1 := alloc_new (w.alloc (.cells #[.int .i64 a, .int .i64 b, .int .i64 c, .int .i64 d] 157)) (.cells #[.int .i64 0, .int .i64 0, .int .i64 0, .int .i64 0] 157)
      simp only [World.size_alloc] at k0 k1
      exact ⟨(alloc_old k0), k1, (((Only.refl [] w).alloc _).alloc _)⟩
     rintro w1 ⟨h1, h2, ho1⟩
     obtain ⟨b1, hb1⟩ : ∃ b, w.heap.size = b := ⟨_, rfl⟩
     obtain ⟨b2, hb2⟩ : ∃ b, w.heap.size + 1 = b := ⟨_, rfl⟩
     have HN : Hid (w.heap.size ≤ b1 ∧ w.heap.size ≤ b2 ∧ b1 ≠ b2 ∧ b2 ≠ b1) := Lib.hid (by omega)
     rw [hb1] at h1
     rw [hb2] at h2
     rw [show w.heap.size + 1 = b2 from hb2, hb1]
     have B1 := Lib.hid h1; have B2 := Lib.hid h2; have OO := Lib.hid ho1
     clear h1 h2 hb1 hb2
     clear ho1
     have k1 := c_4 B1.out; have k2 := c_4 B2.out
     go_wp2_with fail
     refine (HC.out _).mono ?_
     rintro e w2 ⟨rfl, ho⟩
     clear k1 k2
     replace OO := Lib.hid (OO.out.nil_trans ho); replace B1 := Lib.hid (ho.got B1.out (by simp)); replace B2 := Lib.hid (ho.got B2.out (by simp))
     clear ho
     have k1 := c_4 B1.out; have k2 := c_4 B2.out
     go_wp2_with fail
     refine (HT1.out _).mono ?_
     rintro e w3 ⟨rfl, ho⟩
     clear k1 k2
     replace OO := Lib.hid (OO.out.nil_trans ho); replace B1 := Lib.hid (ho.got B1.out (by simp)); replace B2 := Lib.hid (ho.got B2.out (by simp))
     clear ho
     have k1 := c_4 B1.out; have k2 := c_4 B2.out
     go_wp2_with fail
     refine (HT2.out _).mono ?_
     rintro e w4 ⟨rfl, ho⟩
     clear k1 k2
     replace OO := Lib.hid (OO.out.nil_trans ho); replace B1 := Lib.hid (ho.got B1.out (by simp)); replace B2 := Lib.hid (ho.got B2.out (by simp))
     clear ho
     have k1 := c_4 B1.out; have k2 := c_4 B2.out
     go_wp2
     have HD := setCell_got (o := 3) (.int .i64 0) (setCell_got (o := 2) (.int .i64 0) (setCell_got (o := 1) (.int .i64 0) (setCell_got (o := 0) (.int .i64 0) (B2.out))))
     have e0 := cell_got HD 0; have e1 := cell_got HD 1; have e2 := cell_got HD 2; have e3 := cell_got HD 3; have le := got_lt HD
     refine bodyPost_ret (v := .tuple #[.agg #[.int .i64 0, .int .i64 0, .int .i64 0, .int .i64 0], .int .i64 12]) (by simp [results, Tryz.results216, go_sem, e0, e1, e2, e3]) rfl ⟨rfl, ((((OO.out.setCell (.inr HN.out.2.1) _).setCell (.inr HN.out.2.1) _).setCell (.inr HN.out.2.1) _).setCell (.inr HN.out.2.1) _)⟩
    ·have q3 : decide (now < d) = false := decide_eq_false hlt
     have hgb := grw_bd (d := now - d) (tol := tol) (by omega) (by omega) l0 l1
     have HG := Lib.hid (fun w' => pGrowth (now - d) tol (by omega) (by omega) l0 l1 w')
     have w0' : IntKind.i64.wrap (now - d) = now - d := by rw [IntKind.wrap_i64]; omega
     generalize grwS (now - d) tol = g at HE HG hgb
     obtain ⟨v, hv⟩ : ∃ v, c + g = v := ⟨_, rfl⟩
     have w1' : IntKind.i64.wrap (c + g) = v := by rw [IntKind.wrap_i64]; omega
     rw [hv] at HE
     have HC2 := Lib.hid (fun w' => pSChk ⟨a, b, v, now⟩ w'); have ho3 := schk_or ⟨a, b, v, now⟩
     generalize schk ⟨a, b, v, now⟩ = er2 at HC2 HE ho3
     unfold smV at HC2
     dsimp only at HC2
     clear hb hn hl hv
     by_cases hz2 : er2 = 0
     ·subst hz2
      obtain rfl : res = (⟨a, b, v, now⟩, 0) := by have := HE.out; simpa [hlt] using this
      dsimp only
      clear HE hlt
      go_enter Tryz.func216, Tryz.ntmps216
      go_upto_region 1 with (fail)
      refine wabs (G := fun w0 => Code.wp _ _ _ _ w0) (R := fun w1 => w1.heap[w.heap.size]? = some (.cells #[.int .i64 a, .int .i64 b, .int .i64 c, .int .i64 d] 157 (0, 0)) ∧ w1.heap[w.heap.size + 1]? = some (.cells #[.int .i64 0, .int .i64 0, .int .i64 0, .int .i64 0] 157 (0, 0)) ∧ Only [] w w1) ?_ ?_
      ·skip
       have k0 := alloc_new w (.cells #[.int .i64 a, .int .i64 b, .int .i64 c, .int .i64 d] 157)
       have k1 := alloc_new (w.alloc (.cells #[.int .i64 a, .int .i64 b, .int .i64 c, .int .i64 d] 157)) (.cells #[.int .i64 0, .int .i64 0, .int .i64 0, .int .i64 0] 157)
       simp only [World.size_alloc] at k0 k1
       exact ⟨(alloc_old k0), k1, (((Only.refl [] w).alloc _).alloc _)⟩
      rintro w1 ⟨h1, h2, ho1⟩
      obtain ⟨b1, hb1⟩ : ∃ b, w.heap.size = b := ⟨_, rfl⟩
      obtain ⟨b2, hb2⟩ : ∃ b, w.heap.size + 1 = b := ⟨_, rfl⟩
      have HN : Hid (w.heap.size ≤ b1 ∧ w.heap.size ≤ b2 ∧ b1 ≠ b2 ∧ b2 ≠ b1) := Lib.hid (by omega)
      rw [hb1] at h1
      rw [hb2] at h2
      rw [show w.heap.size + 1 = b2 from hb2, hb1]
      have B1 := Lib.hid h1; have B2 := Lib.hid h2; have OO := Lib.hid ho1
      clear h1 h2 hb1 hb2
      clear ho1
      have k1 := c_4 B1.out; have k2 := c_4 B2.out
      go_wp2_with fail
      refine (HC.out _).mono ?_
      rintro e w2 ⟨rfl, ho⟩
      clear k1 k2
      replace OO := Lib.hid (OO.out.nil_trans ho); replace B1 := Lib.hid (ho.got B1.out (by simp)); replace B2 := Lib.hid (ho.got B2.out (by simp))
      clear ho
      have k1 := c_4 B1.out; have k2 := c_4 B2.out
      go_wp2_with fail
      refine (HT1.out _).mono ?_
      rintro e w3 ⟨rfl, ho⟩
      clear k1 k2
      replace OO := Lib.hid (OO.out.nil_trans ho); replace B1 := Lib.hid (ho.got B1.out (by simp)); replace B2 := Lib.hid (ho.got B2.out (by simp))
      clear ho
      have k1 := c_4 B1.out; have k2 := c_4 B2.out
      go_wp2_with fail
      refine (HT2.out _).mono ?_
      rintro e w4 ⟨rfl, ho⟩
      clear k1 k2
      replace OO := Lib.hid (OO.out.nil_trans ho); replace B1 := Lib.hid (ho.got B1.out (by simp)); replace B2 := Lib.hid (ho.got B2.out (by simp))
      clear ho
      have k1 := c_4 B1.out; have k2 := c_4 B2.out
      go_upto_region 5 with (fail)
      refine wp_region_grown [0, 1, 2, 3, 4, 5, 6, 7, 8] [9, 10] (by kernel_rfl) (by kernel_rfl) ?_
      simp only [pick, List.map_cons, List.map_nil, List.getD_cons_succ, List.getD_cons_zero]
      iterate 7 (refine wpQuiet_step (fun K hK => ?_); go_simp; refine hK _ ?_; clear hK K)
      refine wpQuiet_enter_w (by kernel_rfl) 147 #[.int .i64 (now - d), .int .i64 tol] (fun _ => by kernel_rfl) (.int .i64 g) (grown_only2 (fun w' hw' => HG.out w')) ?_
      iterate 1 (refine wpQuiet_step (fun K hK => ?_); go_simp; refine hK _ ?_; clear hK K)
      refine wpQuiet_nil ?_
      intro w5 hw
      have ho := only_of_plus hw
      clear hw
      clear k1 k2
      replace OO := Lib.hid (OO.out.nil_trans ho); replace B1 := Lib.hid (ho.got B1.out (by simp)); replace B2 := Lib.hid (ho.got B2.out (by simp))
      have k1 := c_4 B1.out; have k2 := c_4 B2.out
      clear ho
      go_upto_region 7 with (fail)
      refine wabs (G := fun w0 => Code.wp _ _ _ _ w0) (R := fun w6 => w6.heap[b1]? = some (.cells #[.int .i64 a, .int .i64 b, .int .i64 v, .int .i64 now] 157 (0, 0)) ∧ w6.heap[b2]? = some (.cells #[.int .i64 0, .int .i64 0, .int .i64 0, .int .i64 0] 157 (0, 0)) ∧ Only [] w w6) ⟨(setCell_got (o := 3) (.int .i64 now) (setCell_got (o := 2) (.int .i64 v) B1.out)), (setCell_oth (.int .i64 now) (setCell_oth (.int .i64 v) B2.out HN.out.2.2.2) HN.out.2.2.2), ((OO.out.setCell (.inr HN.out.1) _).setCell (.inr HN.out.1) _)⟩ ?_
      rintro w6 ⟨g1, g2, ho⟩
      clear k1 k2
      replace B1 := Lib.hid g1; replace B2 := Lib.hid g2; replace OO := Lib.hid ho
      clear ho g1 g2
      have k1 := c_4 B1.out; have k2 := c_4 B2.out
      go_wp2_with fail
      refine (HC2.out _).mono ?_
      rintro e w7 ⟨rfl, ho⟩
      clear k1 k2
      replace OO := Lib.hid (OO.out.nil_trans ho); replace B1 := Lib.hid (ho.got B1.out (by simp)); replace B2 := Lib.hid (ho.got B2.out (by simp))
      clear ho
      have k1 := c_4 B1.out; have k2 := c_4 B2.out
      go_wp2
      have HD := setCell_got (o := 3) (.int .i64 now) (setCell_got (o := 2) (.int .i64 v) (setCell_got (o := 1) (.int .i64 b) (setCell_got (o := 0) (.int .i64 a) (B2.out))))
      have e0 := cell_got HD 0; have e1 := cell_got HD 1; have e2 := cell_got HD 2; have e3 := cell_got HD 3; have le := got_lt HD
      refine bodyPost_ret (v := .tuple #[.agg #[.int .i64 a, .int .i64 b, .int .i64 v, .int .i64 now], .int .i64 0]) (by simp [results, Tryz.results216, go_sem, e0, e1, e2, e3]) rfl ⟨rfl, ((((OO.out.setCell (.inr HN.out.2.1) _).setCell (.inr HN.out.2.1) _).setCell (.inr HN.out.2.1) _).setCell (.inr HN.out.2.1) _)⟩
     ·obtain rfl : er2 = 3 := by omega
      obtain rfl : res = (sm0, 3) := by have := HE.out; simpa [hlt] using this
      unfold sm0
      dsimp only
      clear HE hlt
      go_enter Tryz.func216, Tryz.ntmps216
      go_upto_region 1 with (fail)
      refine wabs (G := fun w0 => Code.wp _ _ _ _ w0) (R := fun w1 => w1.heap[w.heap.size]? = some (.cells #[.int .i64 a, .int .i64 b, .int .i64 c, .int .i64 d] 157 (0, 0)) ∧ w1.heap[w.heap.size + 1]? = some (.cells #[.int .i64 0, .int .i64 0, .int .i64 0, .int .i64 0] 157 (0, 0)) ∧ Only [] w w1) ?_ ?_
      ·skip
       have k0 := alloc_new w (.cells #[.int .i64 a, .int .i64 b, .int .i64 c, .int .i64 d] 157)
       have k1 := alloc_new (w.alloc (.cells #[.int .i64 a, .int .i64 b, .int .i64 c, .int .i64 d] 157)) (.cells #[.int .i64 0, .int .i64 0, .int .i64 0, .int .i64 0] 157)
       simp only [World.size_alloc] at k0 k1
       exact ⟨(alloc_old k0), k1, (((Only.refl [] w).alloc _).alloc _)⟩
      rintro w1 ⟨h1, h2, ho1⟩
      obtain ⟨b1, hb1⟩ : ∃ b, w.heap.size = b := ⟨_, rfl⟩
      obtain ⟨b2, hb2⟩ : ∃ b, w.heap.size + 1 = b := ⟨_, rfl⟩
      have HN : Hid (w.heap.size ≤ b1 ∧ w.heap.size ≤ b2 ∧ b1 ≠ b2 ∧ b2 ≠ b1) := Lib.hid (by omega)
      rw [hb1] at h1
      rw [hb2] at h2
      rw [show w.heap.size + 1 = b2 from hb2, hb1]
      have B1 := Lib.hid h1; have B2 := Lib.hid h2; have OO := Lib.hid ho1
      clear h1 h2 hb1 hb2
      clear ho1
      have k1 := c_4 B1.out; have k2 := c_4 B2.out
      go_wp2_with fail
      refine (HC.out _).mono ?_
      rintro e w2 ⟨rfl, ho⟩
      clear k1 k2
      replace OO := Lib.hid (OO.out.nil_trans ho); replace B1 := Lib.hid (ho.got B1.out (by simp)); replace B2 := Lib.hid (ho.got B2.out (by simp))
      clear ho
      have k1 := c_4 B1.out; have k2 := c_4 B2.out
      go_wp2_with fail
      refine (HT1.out _).mono ?_
      rintro e w3 ⟨rfl, ho⟩
      clear k1 k2
      replace OO := Lib.hid (OO.out.nil_trans ho); replace B1 := Lib.hid (ho.got B1.out (by simp)); replace B2 := Lib.hid (ho.got B2.out (by simp))
      clear ho
      have k1 := c_4 B1.out; have k2 := c_4 B2.out
      go_wp2_with fail
      refine (HT2.out _).mono ?_
      rintro e w4 ⟨rfl, ho⟩
      clear k1 k2
      replace OO := Lib.hid (OO.out.nil_trans ho); replace B1 := Lib.hid (ho.got B1.out (by simp)); replace B2 := Lib.hid (ho.got B2.out (by simp))
      clear ho
      have k1 := c_4 B1.out; have k2 := c_4 B2.out
      go_upto_region 5 with (fail)
      refine wp_region_grown [0, 1, 2, 3, 4, 5, 6, 7, 8] [9, 10] (by kernel_rfl) (by kernel_rfl) ?_
      simp only [pick, List.map_cons, List.map_nil, List.getD_cons_succ, List.getD_cons_zero]
      iterate 7 (refine wpQuiet_step (fun K hK => ?_); go_simp; refine hK _ ?_; clear hK K)
      refine wpQuiet_enter_w (by kernel_rfl) 147 #[.int .i64 (now - d), .int .i64 tol] (fun _ => by kernel_rfl) (.int .i64 g) (grown_only2 (fun w' hw' => HG.out w')) ?_
      iterate 1 (refine wpQuiet_step (fun K hK => ?_); go_simp; refine hK _ ?_; clear hK K)
      refine wpQuiet_nil ?_
      intro w5 hw
      have ho := only_of_plus hw
      clear hw
      clear k1 k2
      replace OO := Lib.hid (OO.out.nil_trans ho); replace B1 := Lib.hid (ho.got B1.out (by simp)); replace B2 := Lib.hid (ho.got B2.out (by simp))
      have k1 := c_4 B1.out; have k2 := c_4 B2.out
      clear ho
      go_upto_region 7 with (fail)
      refine wabs (G := fun w0 => Code.wp _ _ _ _ w0) (R := fun w6 => w6.heap[b1]? = some (.cells #[.int .i64 a, .int .i64 b, .int .i64 v, .int .i64 now] 157 (0, 0)) ∧ w6.heap[b2]? = some (.cells #[.int .i64 0, .int .i64 0, .int .i64 0, .int .i64 0] 157 (0, 0)) ∧ Only [] w w6) ⟨(setCell_got (o := 3) (.int .i64 now) (setCell_got (o := 2) (.int .i64 v) B1.out)), (setCell_oth (.int .i64 now) (setCell_oth (.int .i64 v) B2.out HN.out.2.2.2) HN.out.2.2.2), ((OO.out.setCell (.inr HN.out.1) _).setCell (.inr HN.out.1) _)⟩ ?_
      rintro w6 ⟨g1, g2, ho⟩
      clear k1 k2
      replace B1 := Lib.hid g1; replace B2 := Lib.hid g2; replace OO := Lib.hid ho
      clear ho g1 g2
      have k1 := c_4 B1.out; have k2 := c_4 B2.out
      go_wp2_with fail
      refine (HC2.out _).mono ?_
      rintro e w7 ⟨rfl, ho⟩
      clear k1 k2
      replace OO := Lib.hid (OO.out.nil_trans ho); replace B1 := Lib.hid (ho.got B1.out (by simp)); replace B2 := Lib.hid (ho.got B2.out (by simp))
      clear ho
      have k1 := c_4 B1.out; have k2 := c_4 B2.out
      go_wp2
      have HD := setCell_got (o := 3) (.int .i64 0) (setCell_got (o := 2) (.int .i64 0) (setCell_got (o := 1) (.int .i64 0) (setCell_got (o := 0) (.int .i64 0) (B2.out))))
      have e0 := cell_got HD 0; have e1 := cell_got HD 1; have e2 := cell_got HD 2; have e3 := cell_got HD 3; have le := got_lt HD
      refine bodyPost_ret (v := .tuple #[.agg #[.int .i64 0, .int .i64 0, .int .i64 0, .int .i64 0], .int .i64 3]) (by simp [results, Tryz.results216, go_sem, e0, e1, e2, e3]) rfl ⟨rfl, ((((OO.out.setCell (.inr HN.out.2.1) _).setCell (.inr HN.out.2.1) _).setCell (.inr HN.out.2.1) _).setCell (.inr HN.out.2.1) _)⟩
 ·have q1 : (er != 0) = true := by simpa using hz
  obtain rfl : res = (sm0, 3) := by have := HE.out; simpa [hz] using this
  clear HE hb hn hl
  unfold sm0
  dsimp only
  go_enter Tryz.func216, Tryz.ntmps216
  go_upto_region 1 with (fail)
  refine wabs (G := fun w0 => Code.wp _ _ _ _ w0) (R := fun w1 => w1.heap[w.heap.size]? = some (.cells #[.int .i64 a, .int .i64 b, .int .i64 c, .int .i64 d] 157 (0, 0)) ∧ w1.heap[w.heap.size + 1]? = some (.cells #[.int .i64 0, .int .i64 0, .int .i64 0, .int .i64 0] 157 (0, 0)) ∧ Only [] w w1) ?_ ?_
  ·skip
   have k0 := alloc_new w (.cells #[.int .i64 a, .int .i64 b, .int .i64 c, .int .i64 d] 157)
   have k1 := alloc_new (w.alloc (.cells #[.int .i64 a, .int .i64 b, .int .i64 c, .int .i64 d] 157)) (.cells #[.int .i64 0, .int .i64 0, .int .i64 0, .int .i64 0] 157)
   simp only [World.size_alloc] at k0 k1
   exact ⟨(alloc_old k0), k1, (((Only.refl [] w).alloc _).alloc _)⟩
  rintro w1 ⟨h1, h2, ho1⟩
  obtain ⟨b1, hb1⟩ : ∃ b, w.heap.size = b := ⟨_, rfl⟩
  obtain ⟨b2, hb2⟩ : ∃ b, w.heap.size + 1 = b := ⟨_, rfl⟩
  have HN : Hid (w.heap.size ≤ b1 ∧ w.heap.size ≤ b2 ∧ b1 ≠ b2 ∧ b2 ≠ b1) := Lib.hid (by omega)
  rw [hb1] at h1
  rw [hb2] at h2
  rw [show w.heap.size + 1 = b2 from hb2, hb1]
  have B1 := Lib.hid h1; have B2 := Lib.hid h2; have OO := Lib.hid ho1
  clear h1 h2 hb1 hb2
  clear ho1
  have k1 := c_4 B1.out; have k2 := c_4 B2.out
  go_wp2_with fail
  refine (HC.out _).mono ?_
  rintro e w2 ⟨rfl, ho⟩
  clear k1 k2
  replace OO := Lib.hid (OO.out.nil_trans ho); replace B1 := Lib.hid (ho.got B1.out (by simp)); replace B2 := Lib.hid (ho.got B2.out (by simp))
  clear ho
  have k1 := c_4 B1.out; have k2 := c_4 B2.out
  go_wp2
  have HD := setCell_got (o := 3) (.int .i64 0) (setCell_got (o := 2) (.int .i64 0) (setCell_got (o := 1) (.int .i64 0) (setCell_got (o := 0) (.int .i64 0) (B2.out))))
  have e0 := cell_got HD 0; have e1 := cell_got HD 1; have e2 := cell_got HD 2; have e3 := cell_got HD 3; have le := got_lt HD
  refine bodyPost_ret (v := .tuple #[.agg #[.int .i64 0, .int .i64 0, .int .i64 0, .int .i64 0], .int .i64 3]) (by simp [results, Tryz.results216, go_sem, e0, e1, e2, e3]) rfl ⟨rfl, ((((OO.out.setCell (.inr HN.out.2.1) _).setCell (.inr HN.out.2.1) _).setCell (.inr HN.out.2.1) _).setCell (.inr HN.out.2.1) _)⟩
end Go.Proofs.YtikjdmbfjkbndaaGreat

namespace Go.Proofs.YtikjdmbfjkbndaaGreat
open Go.RowKit

@[go_sem] theorem idx4_0 (a b c d : Int) (w : World) : (Instr.index 227 (.agg #[.int .i64 a, .int .i64 b, .int .i64 c, .int .i64 d]) (.int .i64 0)).run Tryz.prog w = .ok (.int .i64 a) w := by
 simp [Instr.index, run_underlying Tryz.underlying227, asIntOf, part, go_sem]
@[go_sem] theorem idx4_1 (a b c d : Int) (w : World) : (Instr.index 227 (.agg #[.int .i64 a, .int .i64 b, .int .i64 c, .int .i64 d]) (.int .i64 1)).run Tryz.prog w = .ok (.int .i64 b) w := by
 simp [Instr.index, run_underlying Tryz.underlying227, asIntOf, part, go_sem]
@[go_sem] theorem idx4_2 (a b c d : Int) (w : World) : (Instr.index 227 (.agg #[.int .i64 a, .int .i64 b, .int .i64 c, .int .i64 d]) (.int .i64 2)).run Tryz.prog w = .ok (.int .i64 c) w := by
 simp [Instr.index, run_underlying Tryz.underlying227, asIntOf, part, go_sem]
@[go_sem] theorem idx4_3 (a b c d : Int) (w : World) : (Instr.index 227 (.agg #[.int .i64 a, .int .i64 b, .int .i64 c, .int .i64 d]) (.int .i64 3)).run Tryz.prog w = .ok (.int .i64 d) w := by
 simp [Instr.index, run_underlying Tryz.underlying227, asIntOf, part, go_sem]

def qdV (q : Qd) : Value := .agg #[.int .i64 q.t1, .int .i64 q.t2, .int .i64 q.t3, .int .i64 q.t4]
set_option maxRecDepth 100000 in
set_option maxHeartbeats 2000000 in
theorem pSOf (q : Qd) (prec tol : Int) (w : World) :
  Calls Tryz.prog 81 #[qdV q, .int .i64 prec, .int .i64 tol] w fun e w' => e = .returned (.tuple #[smV (sof q prec tol).1, .int .i64 (sof q prec tol).2]) ∧ Only [] w w' := by
 obtain ⟨t1, t2, t3, t4⟩ := q
 have H1 := Lib.hid (fun w' => pIsTime t1 w')
 have H2 := Lib.hid (fun w' => pIsTime t2 w')
 have H3 := Lib.hid (fun w' => pIsTime t3 w')
 have H4 := Lib.hid (fun w' => pIsTime t4 w')
 have H5 := Lib.hid (fun w' => pIsTol tol w')
 have hb1 := fun h => wth_iff.1 (show isT t1 = true from h)
 have hb2 := fun h => wth_iff.1 (show isT t2 = true from h)
 have hb3 := fun h => wth_iff.1 (show isT t3 = true from h)
 have hb4 := fun h => wth_iff.1 (show isT t4 = true from h)
 have hb5 := fun h => wth_iff.1 (show isTl tol = true from h)
 have HE : Hid (sof ⟨t1, t2, t3, t4⟩ prec tol = if isT t1 && (isT t2 && (isT t3 && isT t4)) then (if wth prec 1 1000000000 && isTl tol then (if t4 < t1 ∨ t3 < t2 then (sm0, 12) else (if schk ⟨((t2 - t1) + (t3 - t4)) / 2, max prec (t4 - t1 - (t3 - t2)), prec + grwS (t4 - t1) tol, t4⟩ = 0 then (⟨((t2 - t1) + (t3 - t4)) / 2, max prec (t4 - t1 - (t3 - t2)), prec + grwS (t4 - t1) tol, t4⟩, 0) else (sm0, 3))) else (sm0, 3)) else (sm0, 3)) := Lib.hid rfl
 generalize sof ⟨t1, t2, t3, t4⟩ prec tol = res at HE ⊢
 generalize isT t1 = x1 at H1 HE hb1
 generalize isT t2 = x2 at H2 HE hb2
 generalize isT t3 = x3 at H3 HE hb3
 generalize isT t4 = x4 at H4 HE hb4
 generalize isTl tol = x5 at H5 HE hb5
 unfold qdV smV
 dsimp only
 go_enter Tryz.func81, Tryz.ntmps81
 go_upto_region 1 with (fail)
 refine wabs (G := fun w0 => Code.wp _ _ _ _ w0) (R := fun w1 => w1.heap[w.heap.size]? = some (.cells #[.int .i64 t1, .int .i64 t2, .int .i64 t3, .int .i64 t4] 39 (0, 0)) ∧ w1.heap[w.heap.size + 1]? = some (.cells #[.int .i64 0, .int .i64 0, .int .i64 0, .int .i64 0] 157 (0, 0)) ∧ Only [] w w1) ?_ ?_
 ·skip
  have k0 := alloc_new w (.cells #[.int .i64 t1, .int .i64 t2, .int .i64 t3, .int .i64 t4] 39)
  have k1 := alloc_new (w.alloc (.cells #[.int .i64 t1, .int .i64 t2, .int .i64 t3, .int .i64 t4] 39)) (.cells #[.int .i64 0, .int .i64 0, .int .i64 0, .int .i64 0] 157)
  simp only [World.size_alloc] at k0 k1
  exact ⟨(alloc_old k0), k1, (((Only.refl [] w).alloc _).alloc _)⟩
 rintro w1 ⟨h1, h2, ho1⟩
 obtain ⟨b1, hb1⟩ : ∃ b, w.heap.size = b := ⟨_, rfl⟩
 obtain ⟨b2, hb2⟩ : ∃ b, w.heap.size + 1 = b := ⟨_, rfl⟩
 have HN : Hid (w.heap.size ≤ b1 ∧ w.heap.size ≤ b2 ∧ b1 ≠ b2 ∧ b2 ≠ b1) := Lib.hid (by omega)
 rw [hb1] at h1
 rw [hb2] at h2
 rw [show w.heap.size + 1 = b2 from hb2, hb1]
 have B1 := Lib.hid h1; have B2 := Lib.hid h2; have OO := Lib.hid ho1
 clear h1 h2 hb1 hb2
 clear ho1
 have k1 := c_4 B1.out; have k2 := c_4 B2.out
 go_wp2_with fail
 clear k1 k2
 go_loopw [24] (fun vi wr => ∃ k : Nat, k ≤ 4 ∧ vi = .int .i64 k ∧ (1 ≤ k → x1 = true) ∧ (2 ≤ k → x2 = true) ∧ (3 ≤ k → x3 = true) ∧ (4 ≤ k → x4 = true) ∧ Only [] w1 wr) (fun vi _ => 4 - (intOf vi).toNat)
 case atStart => exact ⟨0, by omega, rfl, fun h => by omega, fun h => by omega, fun h => by omega, fun h => by omega, Only.refl _ _⟩
 case round =>
  obtain ⟨k, hk, rfl, y1, y2, y3, y4, ho⟩ := hrel
  have OL := Lib.hid ho
  replace OO := Lib.hid (OO.out.nil_trans ho); replace B1 := Lib.hid (ho.got B1.out (by simp)); replace B2 := Lib.hid (ho.got B2.out (by simp))
  have k1 := c_4 B1.out; have k2 := c_4 B2.out
  clear ho
  rcases (by omega : k = 0 ∨ k = 1 ∨ k = 2 ∨ k = 3 ∨ k = 4) with rfl | rfl | rfl | rfl | rfl
  ·cases x1
   ·obtain rfl : res = (sm0, 3) := by have := HE.out; simpa using this
    clear HE hb1 hb2 hb3 hb4 hb5 y1 y2 y3 y4
    go_wp2_with fail
    refine (H1.out _).mono ?_
    rintro e w2 ⟨rfl, ho⟩
    clear k1 k2
    replace OO := Lib.hid (OO.out.nil_trans ho); replace B1 := Lib.hid (ho.got B1.out (by simp)); replace B2 := Lib.hid (ho.got B2.out (by simp))
    clear ho
    have k1 := c_4 B1.out; have k2 := c_4 B2.out
    go_wp2
    have HD := setCell_got (o := 3) (.int .i64 0) (setCell_got (o := 2) (.int .i64 0) (setCell_got (o := 1) (.int .i64 0) (setCell_got (o := 0) (.int .i64 0) (B2.out))))
    have e0 := cell_got HD 0; have e1 := cell_got HD 1; have e2 := cell_got HD 2; have e3 := cell_got HD 3; have le := got_lt HD
    refine bodyPost_ret (v := .tuple #[.agg #[.int .i64 0, .int .i64 0, .int .i64 0, .int .i64 0], .int .i64 3]) (by simp [results, Tryz.results81, go_sem, e0, e1, e2, e3]) rfl ⟨rfl, ((((OO.out.setCell (.inr HN.out.2.1) _).setCell (.inr HN.out.2.1) _).setCell (.inr HN.out.2.1) _).setCell (.inr HN.out.2.1) _)⟩
   ·go_wp2_with fail
    refine (H1.out _).mono ?_
    rintro e w2 ⟨rfl, ho⟩
    clear k1 k2
    replace OO := Lib.hid (OO.out.nil_trans ho); replace B1 := Lib.hid (ho.got B1.out (by simp)); replace B2 := Lib.hid (ho.got B2.out (by simp))
    replace OL := Lib.hid (OL.out.nil_trans ho)
    clear ho
    have k1 := c_4 B1.out; have k2 := c_4 B2.out
    go_wp2
    go_roundw
    case rel =>
     refine ⟨1, by omega, by go_num, ?_, ?_, ?_, ?_, OL.out⟩
     ·intro _; trivial
     ·intro h; omega
     ·intro h; omega
     ·intro h; omega
    case measure => first | (simp [intOf]; done) | (simp [intOf]; omega)
  ·cases x2
   ·obtain rfl : res = (sm0, 3) := by have := HE.out; simpa using this
    clear HE hb1 hb2 hb3 hb4 hb5 y1 y2 y3 y4
    go_wp2_with fail
    refine (H2.out _).mono ?_
    rintro e w2 ⟨rfl, ho⟩
    clear k1 k2
    replace OO := Lib.hid (OO.out.nil_trans ho); replace B1 := Lib.hid (ho.got B1.out (by simp)); replace B2 := Lib.hid (ho.got B2.out (by simp))
    clear ho
    have k1 := c_4 B1.out; have k2 := c_4 B2.out
    go_wp2
    have HD := setCell_got (o := 3) (.int .i64 0) (setCell_got (o := 2) (.int .i64 0) (setCell_got (o := 1) (.int .i64 0) (setCell_got (o := 0) (.int .i64 0) (B2.out))))
    have e0 := cell_got HD 0; have e1 := cell_got HD 1; have e2 := cell_got HD 2; have e3 := cell_got HD 3; have le := got_lt HD
    refine bodyPost_ret (v := .tuple #[.agg #[.int .i64 0, .int .i64 0, .int .i64 0, .int .i64 0], .int .i64 3]) (by simp [results, Tryz.results81, go_sem, e0, e1, e2, e3]) rfl ⟨rfl, ((((OO.out.setCell (.inr HN.out.2.1) _).setCell (.inr HN.out.2.1) _).setCell (.inr HN.out.2.1) _).setCell (.inr HN.out.2.1) _)⟩
   ·go_wp2_with fail
    refine (H2.out _).mono ?_
    rintro e w2 ⟨rfl, ho⟩
    clear k1 k2
    replace OO := Lib.hid (OO.out.nil_trans ho); replace B1 := Lib.hid (ho.got B1.out (by simp)); replace B2 := Lib.hid (ho.got B2.out (by simp))
    replace OL := Lib.hid (OL.out.nil_trans ho)
    clear ho
    have k1 := c_4 B1.out; have k2 := c_4 B2.out
    go_wp2
    go_roundw
    case rel =>
     refine ⟨2, by omega, by go_num, ?_, ?_, ?_, ?_, OL.out⟩
     ·intro _; exact y1 (by omega)
     ·intro _; trivial
     ·intro h; omega
     ·intro h; omega
    case measure => first | (simp [intOf]; done) | (simp [intOf]; omega)
  ·cases x3
   ·obtain rfl : res = (sm0, 3) := by have := HE.out; simpa using this
    clear HE hb1 hb2 hb3 hb4 hb5 y1 y2 y3 y4
    go_wp2_with fail
    refine (H3.out _).mono ?_
    rintro e w2 ⟨rfl, ho⟩
    clear k1 k2
    replace OO := Lib.hid (OO.out.nil_trans ho); replace B1 := Lib.hid (ho.got B1.out (by simp)); replace B2 := Lib.hid (ho.got B2.out (by simp))
    clear ho
    have k1 := c_4 B1.out; have k2 := c_4 B2.out
    go_wp2
    have HD := setCell_got (o := 3) (.int .i64 0) (setCell_got (o := 2) (.int .i64 0) (setCell_got (o := 1) (.int .i64 0) (setCell_got (o := 0) (.int .i64 0) (B2.out))))
    have e0 := cell_got HD 0; have e1 := cell_got HD 1; have e2 := cell_got HD 2; have e3 := cell_got HD 3; have le := got_lt HD
    refine bodyPost_ret (v := .tuple #[.agg #[.int .i64 0, .int .i64 0, .int .i64 0, .int .i64 0], .int .i64 3]) (by simp [results, Tryz.results81, go_sem, e0, e1, e2, e3]) rfl ⟨rfl, ((((OO.out.setCell (.inr HN.out.2.1) _).setCell (.inr HN.out.2.1) _).setCell (.inr HN.out.2.1) _).setCell (.inr HN.out.2.1) _)⟩
   ·go_wp2_with fail
    refine (H3.out _).mono ?_
    rintro e w2 ⟨rfl, ho⟩
    clear k1 k2
    replace OO := Lib.hid (OO.out.nil_trans ho); replace B1 := Lib.hid (ho.got B1.out (by simp)); replace B2 := Lib.hid (ho.got B2.out (by simp))
    replace OL := Lib.hid (OL.out.nil_trans ho)
    clear ho
    have k1 := c_4 B1.out; have k2 := c_4 B2.out
    go_wp2
    go_roundw
    case rel =>
     refine ⟨3, by omega, by go_num, ?_, ?_, ?_, ?_, OL.out⟩
     ·intro _; exact y1 (by omega)
     ·intro _; exact y2 (by omega)
     ·intro _; trivial
     ·intro h; omega
    case measure => first | (simp [intOf]; done) | (simp [intOf]; omega)
  ·cases x4
   ·obtain rfl : res = (sm0, 3) := by have := HE.out; simpa using this
    clear HE hb1 hb2 hb3 hb4 hb5 y1 y2 y3 y4
    go_wp2_with fail
    refine (H4.out _).mono ?_
    rintro e w2 ⟨rfl, ho⟩
    clear k1 k2
    replace OO := Lib.hid (OO.out.nil_trans ho); replace B1 := Lib.hid (ho.got B1.out (by simp)); replace B2 := Lib.hid (ho.got B2.out (by simp))
    clear ho
    have k1 := c_4 B1.out; have k2 := c_4 B2.out
    go_wp2
    have HD := setCell_got (o := 3) (.int .i64 0) (setCell_got (o := 2) (.int .i64 0) (setCell_got (o := 1) (.int .i64 0) (setCell_got (o := 0) (.int .i64 0) (B2.out))))
    have e0 := cell_got HD 0; have e1 := cell_got HD 1; have e2 := cell_got HD 2; have e3 := cell_got HD 3; have le := got_lt HD
    refine bodyPost_ret (v := .tuple #[.agg #[.int .i64 0, .int .i64 0, .int .i64 0, .int .i64 0], .int .i64 3]) (by simp [results, Tryz.results81, go_sem, e0, e1, e2, e3]) rfl ⟨rfl, ((((OO.out.setCell (.inr HN.out.2.1) _).setCell (.inr HN.out.2.1) _).setCell (.inr HN.out.2.1) _).setCell (.inr HN.out.2.1) _)⟩
   ·go_wp2_with fail
    refine (H4.out _).mono ?_
    rintro e w2 ⟨rfl, ho⟩
    clear k1 k2
    replace OO := Lib.hid (OO.out.nil_trans ho); replace B1 := Lib.hid (ho.got B1.out (by simp)); replace B2 := Lib.hid (ho.got B2.out (by simp))
    replace OL := Lib.hid (OL.out.nil_trans ho)
    clear ho
    have k1 := c_4 B1.out; have k2 := c_4 B2.out
    go_wp2
    go_roundw
    case rel =>
     refine ⟨4, by omega, by go_num, ?_, ?_, ?_, ?_, OL.out⟩
     ·intro _; exact y1 (by omega)
     ·intro _; exact y2 (by omega)
     ·intro _; exact y3 (by omega)
     ·intro _; trivial
    case measure => first | (simp [intOf]; done) | (simp [intOf]; omega)
  ·obtain rfl := y1 (by omega)
   obtain rfl := y2 (by omega)
   obtain rfl := y3 (by omega)
   obtain rfl := y4 (by omega)
   obtain ⟨a1, a2⟩ := hb1 rfl
   obtain ⟨a3, a4⟩ := hb2 rfl
   obtain ⟨a5, a6⟩ := hb3 rfl
   obtain ⟨a7, a8⟩ := hb4 rfl
   clear y1 y2 y3 y4 hb1 hb2 hb3 hb4 H1 H2 H3 H4 hk
   by_cases p1 : prec < 1
   ·have d1 : decide (prec < 1) = true := decide_eq_true p1
    have hw : wth prec 1 1000000000 = false := by rw [wth_no]; omega
    obtain rfl : res = (sm0, 3) := by have := HE.out; simpa [hw] using this
    clear HE hb5
    go_wp2
    have HD := setCell_got (o := 3) (.int .i64 0) (setCell_got (o := 2) (.int .i64 0) (setCell_got (o := 1) (.int .i64 0) (setCell_got (o := 0) (.int .i64 0) (B2.out))))
    have e0 := cell_got HD 0; have e1 := cell_got HD 1; have e2 := cell_got HD 2; have e3 := cell_got HD 3; have le := got_lt HD
    refine bodyPost_ret (v := .tuple #[.agg #[.int .i64 0, .int .i64 0, .int .i64 0, .int .i64 0], .int .i64 3]) (by simp [results, Tryz.results81, go_sem, e0, e1, e2, e3]) rfl ⟨rfl, ((((OO.out.setCell (.inr HN.out.2.1) _).setCell (.inr HN.out.2.1) _).setCell (.inr HN.out.2.1) _).setCell (.inr HN.out.2.1) _)⟩
   ·have d1 : decide (prec < 1) = false := decide_eq_false p1
    by_cases p2 : 1000000000 < prec
    ·have d2 : decide (1000000000 < prec) = true := decide_eq_true p2
     have hw : wth prec 1 1000000000 = false := by rw [wth_no]; omega
     obtain rfl : res = (sm0, 3) := by have := HE.out; simpa [hw] using this
     clear HE hb5
     go_wp2
     have HD := setCell_got (o := 3) (.int .i64 0) (setCell_got (o := 2) (.int .i64 0) (setCell_got (o := 1) (.int .i64 0) (setCell_got (o := 0) (.int .i64 0) (B2.out))))
     have e0 := cell_got HD 0; have e1 := cell_got HD 1; have e2 := cell_got HD 2; have e3 := cell_got HD 3; have le := got_lt HD
     refine bodyPost_ret (v := .tuple #[.agg #[.int .i64 0, .int .i64 0, .int .i64 0, .int .i64 0], .int .i64 3]) (by simp [results, Tryz.results81, go_sem, e0, e1, e2, e3]) rfl ⟨rfl, ((((OO.out.setCell (.inr HN.out.2.1) _).setCell (.inr HN.out.2.1) _).setCell (.inr HN.out.2.1) _).setCell (.inr HN.out.2.1) _)⟩
    ·have d2 : decide (1000000000 < prec) = false := decide_eq_false p2
     have hw : wth prec 1 1000000000 = true := by rw [wth_iff]; omega
     cases x5
     ·obtain rfl : res = (sm0, 3) := by have := HE.out; simpa [hw] using this
      clear HE hb5
      go_wp2_with fail
      refine (H5.out _).mono ?_
      rintro e w2 ⟨rfl, ho⟩
      clear k1 k2
      replace OO := Lib.hid (OO.out.nil_trans ho); replace B1 := Lib.hid (ho.got B1.out (by simp)); replace B2 := Lib.hid (ho.got B2.out (by simp))
      clear ho
      have k1 := c_4 B1.out; have k2 := c_4 B2.out
      go_wp2
      have HD := setCell_got (o := 3) (.int .i64 0) (setCell_got (o := 2) (.int .i64 0) (setCell_got (o := 1) (.int .i64 0) (setCell_got (o := 0) (.int .i64 0) (B2.out))))
      have e0 := cell_got HD 0; have e1 := cell_got HD 1; have e2 := cell_got HD 2; have e3 := cell_got HD 3; have le := got_lt HD
      refine bodyPost_ret (v := .tuple #[.agg #[.int .i64 0, .int .i64 0, .int .i64 0, .int .i64 0], .int .i64 3]) (by simp [results, Tryz.results81, go_sem, e0, e1, e2, e3]) rfl ⟨rfl, ((((OO.out.setCell (.inr HN.out.2.1) _).setCell (.inr HN.out.2.1) _).setCell (.inr HN.out.2.1) _).setCell (.inr HN.out.2.1) _)⟩
     ·obtain ⟨l0, l1'⟩ := hb5 rfl
      clear hb5
      by_cases o1 : t4 < t1
      ·have d3 : decide (t4 < t1) = true := decide_eq_true o1
       have hb5 := 0
       obtain rfl : res = (sm0, 12) := by have := HE.out; simpa [hw, o1] using this
       clear HE hb5
       go_wp2_with fail
       refine (H5.out _).mono ?_
       rintro e w2 ⟨rfl, ho⟩
       clear k1 k2
       replace OO := Lib.hid (OO.out.nil_trans ho); replace B1 := Lib.hid (ho.got B1.out (by simp)); replace B2 := Lib.hid (ho.got B2.out (by simp))
       clear ho
       have k1 := c_4 B1.out; have k2 := c_4 B2.out
       go_wp2
       have HD := setCell_got (o := 3) (.int .i64 0) (setCell_got (o := 2) (.int .i64 0) (setCell_got (o := 1) (.int .i64 0) (setCell_got (o := 0) (.int .i64 0) (B2.out))))
       have e0 := cell_got HD 0; have e1 := cell_got HD 1; have e2 := cell_got HD 2; have e3 := cell_got HD 3; have le := got_lt HD
       refine bodyPost_ret (v := .tuple #[.agg #[.int .i64 0, .int .i64 0, .int .i64 0, .int .i64 0], .int .i64 12]) (by simp [results, Tryz.results81, go_sem, e0, e1, e2, e3]) rfl ⟨rfl, ((((OO.out.setCell (.inr HN.out.2.1) _).setCell (.inr HN.out.2.1) _).setCell (.inr HN.out.2.1) _).setCell (.inr HN.out.2.1) _)⟩
      ·have d3 : decide (t4 < t1) = false := decide_eq_false o1
       by_cases o2 : t3 < t2
       ·have d4 : decide (t3 < t2) = true := decide_eq_true o2
        have hb5 := 0
        obtain rfl : res = (sm0, 12) := by have := HE.out; simpa [hw, o2] using this
        clear HE hb5
        go_wp2_with fail
        refine (H5.out _).mono ?_
        rintro e w2 ⟨rfl, ho⟩
        clear k1 k2
        replace OO := Lib.hid (OO.out.nil_trans ho); replace B1 := Lib.hid (ho.got B1.out (by simp)); replace B2 := Lib.hid (ho.got B2.out (by simp))
        clear ho
        have k1 := c_4 B1.out; have k2 := c_4 B2.out
        go_wp2
        have HD := setCell_got (o := 3) (.int .i64 0) (setCell_got (o := 2) (.int .i64 0) (setCell_got (o := 1) (.int .i64 0) (setCell_got (o := 0) (.int .i64 0) (B2.out))))
        have e0 := cell_got HD 0; have e1 := cell_got HD 1; have e2 := cell_got HD 2; have e3 := cell_got HD 3; have le := got_lt HD
        refine bodyPost_ret (v := .tuple #[.agg #[.int .i64 0, .int .i64 0, .int .i64 0, .int .i64 0], .int .i64 12]) (by simp [results, Tryz.results81, go_sem, e0, e1, e2, e3]) rfl ⟨rfl, ((((OO.out.setCell (.inr HN.out.2.1) _).setCell (.inr HN.out.2.1) _).setCell (.inr HN.out.2.1) _).setCell (.inr HN.out.2.1) _)⟩
       ·have d4 : decide (t3 < t2) = false := decide_eq_false o2
        replace HE : Hid (res = (if schk ⟨((t2 - t1) + (t3 - t4)) / 2, max prec (t4 - t1 - (t3 - t2)), prec + grwS (t4 - t1) tol, t4⟩ = 0 then (⟨((t2 - t1) + (t3 - t4)) / 2, max prec (t4 - t1 - (t3 - t2)), prec + grwS (t4 - t1) tol, t4⟩, 0) else (sm0, 3))) := Lib.hid (by have := HE.out; simpa [hw, o1, o2] using this)
        obtain ⟨sp, hsp⟩ : ∃ sp, t4 - t1 = sp := ⟨_, rfl⟩
        obtain ⟨u1, hu1⟩ : ∃ u1, t2 - t1 = u1 := ⟨_, rfl⟩
        obtain ⟨u2, hu2⟩ : ∃ u2, t3 - t4 = u2 := ⟨_, rfl⟩
        obtain ⟨u3, hu3⟩ : ∃ u3, t3 - t2 = u3 := ⟨_, rfl⟩
        obtain ⟨u4, hu4⟩ : ∃ u4, u1 + u2 = u4 := ⟨_, rfl⟩
        obtain ⟨u5, hu5⟩ : ∃ u5, sp - u3 = u5 := ⟨_, rfl⟩
        obtain ⟨dl, hdl⟩ : ∃ dl, max prec u5 = dl := ⟨_, rfl⟩
        rw [hsp, hu1, hu2, hu3, hu4, hu5, hdl] at HE
        have hgb := grw_bd (d := sp) (tol := tol) (by omega) (by omega) l0 l1'
        have HG := Lib.hid (fun w' => pGrowth sp tol (by omega) (by omega) l0 l1' w')
        generalize grwS sp tol = g at HE HG hgb
        obtain ⟨ds, hds⟩ : ∃ ds, prec + g = ds := ⟨_, rfl⟩
        obtain ⟨of, hof⟩ : ∃ of, u4 / 2 = of := ⟨_, rfl⟩
        have HF := Lib.hid (fun w' => o_drew (ffloor u4 2 w' (by omega) (by omega) (by omega) (by omega)))
        rw [hof] at HE HF
        rw [hds] at HE
        have r1 : IntKind.i64.wrap (t4 - t1) = sp := by rw [IntKind.wrap_i64]; omega
        have r2 : IntKind.i64.wrap (t2 - t1) = u1 := by rw [IntKind.wrap_i64]; omega
        have r3 : IntKind.i64.wrap (t3 - t4) = u2 := by rw [IntKind.wrap_i64]; omega
        have r4 : IntKind.i64.wrap (u1 + u2) = u4 := by rw [IntKind.wrap_i64]; omega
        have r5 : IntKind.i64.wrap (t3 - t2) = u3 := by rw [IntKind.wrap_i64]; omega
        have r6 : IntKind.i64.wrap (sp - u3) = u5 := by rw [IntKind.wrap_i64]; omega
        have r7 : IntKind.i64.wrap (prec + g) = ds := by rw [IntKind.wrap_i64]; omega
        have HC := Lib.hid (fun w' => pSChk ⟨of, dl, ds, t4⟩ w'); have ho3 := schk_or ⟨of, dl, ds, t4⟩
        generalize schk ⟨of, dl, ds, t4⟩ = er at HC HE ho3
        unfold smV at HC
        dsimp only at HC
        clear hsp hu1 hu2 hu3 hu4 hu5 hof hds hw
        go_wp2_with fail
        refine (H5.out _).mono ?_
        rintro e w2 ⟨rfl, ho⟩
        clear k1 k2
        replace OO := Lib.hid (OO.out.nil_trans ho); replace B1 := Lib.hid (ho.got B1.out (by simp)); replace B2 := Lib.hid (ho.got B2.out (by simp))
        clear ho
        have k1 := c_4 B1.out; have k2 := c_4 B2.out
        go_wp2_with fail
        refine (HF.out _).mono ?_
        rintro e w3 ⟨rfl, ho⟩
        clear k1 k2
        replace OO := Lib.hid (OO.out.nil_trans ho); replace B1 := Lib.hid (ho.got B1.out (by simp)); replace B2 := Lib.hid (ho.got B2.out (by simp))
        clear ho
        have k1 := c_4 B1.out; have k2 := c_4 B2.out
        clear HF H5
        go_upto_region 13 with (fail)
        refine wp_region_calm2 [0, 1, 2, 3, 4, 5, 6, 7, 8, 9, 10, 11, 12, 15, 16] [19] (OnlyC ([] : List Nat) w3) (by kernel_rfl) (by kernel_rfl) ?_
        simp only [pick, List.map_cons, List.map_nil, List.getD_cons_succ, List.getD_cons_zero]
        iterate 15 (refine wpCalm_step (fun K hK => ?_); go_simp; refine hK _ ?_; clear hK K)
        refine wpCalm_nil ?_
        refine Rest.by (X := Nat) (fun y a => (((a.put (some 90) (.int .i64 g)).put (some 91) (.int .i64 ds)).put (some 94) (.agg #[.int .i64 of, .int .i64 dl, .int .i64 ds, .int .i64 t4])).put (some 13) (.pointer (some ⟨y, 0, none⟩))) (fun y w' => w3.heap.size ≤ y ∧ w'.heap[y]? = some (.cells #[.int .i64 of, .int .i64 dl, .int .i64 ds, .int .i64 t4] 157 (0, 0)) ∧ Only [] w3 w') ?_ ?_
        rotate_left
        ·have O0 := Lib.hid (Only.refl [] w3).drew
         refine wpAnyC_next [13, 18] (by kernel_rfl) (by simp) (.inr (onlyC O0.out)) ?_
         simp only [List.mem_cons, List.not_mem_nil, or_false, forall_eq_or_imp, forall_eq]
         refine ⟨?_, ?_⟩
         ·refine wpOp_one rfl ?_
          go_wp2_with fail
          refine (HG.out _).mono ?_
          rintro e x1 ⟨rfl, ho⟩
          replace O0 := Lib.hid (O0.out.nil_trans ho)
          clear ho
          go_wp2
          simp only [nrm]
          refine wpAnyC_next [14, 18] (by kernel_rfl) (by simp) (.inr (onlyC O0.out)) ?_
          simp only [List.mem_cons, List.not_mem_nil, or_false, forall_eq_or_imp, forall_eq]
          refine ⟨?_, ?_⟩
          ·refine wpOp_one rfl ?_
           go_wp2
           simp only [nrm]
           refine wpAnyC_next [17, 18] (by kernel_rfl) (by simp) (.inr (onlyC O0.out)) ?_
           simp only [List.mem_cons, List.not_mem_nil, or_false, forall_eq_or_imp, forall_eq]
           refine ⟨?_, ?_⟩
           ·refine wpOp_one rfl ?_
            go_wp2
            simp only [nrm]
            refine wpAnyC_next [18] (by kernel_rfl) (by simp) (.inr (onlyC O0.out)) ?_
            simp only [List.mem_cons, List.not_mem_nil, or_false, forall_eq]
            refine wpOp_one rfl ?_
            go_wp2
            simp only [nrm]
            refine alloc_abs (G := fun w0 => wpAnyC _ _ _ _ _ _ _ _ _ w0) ?_
            intro x2 hb0 ho0 _
            obtain ⟨y, hy⟩ : ∃ y, x1.heap.size = y := ⟨_, rfl⟩
            rw [hy] at hb0
            rw [hy]
            have HY : Hid (w3.heap.size ≤ y) := Lib.hid (by rw [← hy]; exact O0.out.size)
            have B0 := Lib.hid hb0
            replace O0 := Lib.hid (O0.out.nil_trans ho0)
            clear hb0 ho0 hy
            refine wpAnyC_next [19] (by kernel_rfl) (by simp) (.inr (onlyC O0.out)) ?_
            simp only [List.mem_cons, List.not_mem_nil, or_false, forall_eq]
            refine wpOp_one rfl ?_
            have y0 := cell_got B0.out 0; have f0 := frozen_got B0.out 0; have y1 := cell_got B0.out 1; have f1 := frozen_got B0.out 1; have y2 := cell_got B0.out 2; have f2 := frozen_got B0.out 2; have y3 := cell_got B0.out 3; have f3 := frozen_got B0.out 3; have ly := got_lt B0.out
            go_wp2
            simp only [nrm]
            refine wpAnyC_done (by kernel_rfl) (.inl (late_of (by kernel_rfl))) ⟨y, by simp [Act.put], by first | exact HY.out | exact Nat.le_refl _, ?_, ?_⟩
            ·exact setCell_got (o := 3) (.int .i64 t4) (setCell_got (o := 2) (.int .i64 ds) (setCell_got (o := 1) (.int .i64 dl) (setCell_got (o := 0) (.int .i64 of) (B0.out))))
            ·exact ((((O0.out).setCell (.inr HY.out) _).setCell (.inr HY.out) _).setCell (.inr HY.out) _).setCell (.inr HY.out) _
           ·refine wpOp_one rfl ?_
            go_wp2
            simp only [nrm]
            refine alloc_abs (G := fun w0 => wpAnyC _ _ _ _ _ _ _ _ _ w0) ?_
            intro x2 hb0 ho0 _
            obtain ⟨y, hy⟩ : ∃ y, x1.heap.size = y := ⟨_, rfl⟩
            rw [hy] at hb0
            rw [hy]
            have HY : Hid (w3.heap.size ≤ y) := Lib.hid (by rw [← hy]; exact O0.out.size)
            have B0 := Lib.hid hb0
            replace O0 := Lib.hid (O0.out.nil_trans ho0)
            clear hb0 ho0 hy
            refine wpAnyC_next [17] (by kernel_rfl) (by simp) (.inr (onlyC O0.out)) ?_
            simp only [List.mem_cons, List.not_mem_nil, or_false, forall_eq]
            refine wpOp_one rfl ?_
            go_wp2
            simp only [nrm]
            refine wpAnyC_next [19] (by kernel_rfl) (by simp) (.inr (onlyC O0.out)) ?_
            simp only [List.mem_cons, List.not_mem_nil, or_false, forall_eq]
            refine wpOp_one rfl ?_
            have y0 := cell_got B0.out 0; have f0 := frozen_got B0.out 0; have y1 := cell_got B0.out 1; have f1 := frozen_got B0.out 1; have y2 := cell_got B0.out 2; have f2 := frozen_got B0.out 2; have y3 := cell_got B0.out 3; have f3 := frozen_got B0.out 3; have ly := got_lt B0.out
            go_wp2
            simp only [nrm]
            refine wpAnyC_done (by kernel_rfl) (.inl (late_of (by kernel_rfl))) ⟨y, by simp [Act.put], by first | exact HY.out | exact Nat.le_refl _, ?_, ?_⟩
            ·exact setCell_got (o := 3) (.int .i64 t4) (setCell_got (o := 2) (.int .i64 ds) (setCell_got (o := 1) (.int .i64 dl) (setCell_got (o := 0) (.int .i64 of) (B0.out))))
            ·exact ((((O0.out).setCell (.inr HY.out) _).setCell (.inr HY.out) _).setCell (.inr HY.out) _).setCell (.inr HY.out) _
          ·refine wpOp_one rfl ?_
           go_wp2
           simp only [nrm]
           refine alloc_abs (G := fun w0 => wpAnyC _ _ _ _ _ _ _ _ _ w0) ?_
           intro x2 hb0 ho0 _
           obtain ⟨y, hy⟩ : ∃ y, x1.heap.size = y := ⟨_, rfl⟩
           rw [hy] at hb0
           rw [hy]
           have HY : Hid (w3.heap.size ≤ y) := Lib.hid (by rw [← hy]; exact O0.out.size)
           have B0 := Lib.hid hb0
           replace O0 := Lib.hid (O0.out.nil_trans ho0)
           clear hb0 ho0 hy
           refine wpAnyC_next [14] (by kernel_rfl) (by simp) (.inr (onlyC O0.out)) ?_
           simp only [List.mem_cons, List.not_mem_nil, or_false, forall_eq]
           refine wpOp_one rfl ?_
           go_wp2
           simp only [nrm]
           refine wpAnyC_next [17] (by kernel_rfl) (by simp) (.inr (onlyC O0.out)) ?_
           simp only [List.mem_cons, List.not_mem_nil, or_false, forall_eq]
           refine wpOp_one rfl ?_
           go_wp2
           simp only [nrm]
           refine wpAnyC_next [19] (by kernel_rfl) (by simp) (.inr (onlyC O0.out)) ?_
           simp only [List.mem_cons, List.not_mem_nil, or_false, forall_eq]
           refine wpOp_one rfl ?_
           have y0 := cell_got B0.out 0; have f0 := frozen_got B0.out 0; have y1 := cell_got B0.out 1; have f1 := frozen_got B0.out 1; have y2 := cell_got B0.out 2; have f2 := frozen_got B0.out 2; have y3 := cell_got B0.out 3; have f3 := frozen_got B0.out 3; have ly := got_lt B0.out
           go_wp2
           simp only [nrm]
           refine wpAnyC_done (by kernel_rfl) (.inl (late_of (by kernel_rfl))) ⟨y, by simp [Act.put], by first | exact HY.out | exact Nat.le_refl _, ?_, ?_⟩
           ·exact setCell_got (o := 3) (.int .i64 t4) (setCell_got (o := 2) (.int .i64 ds) (setCell_got (o := 1) (.int .i64 dl) (setCell_got (o := 0) (.int .i64 of) (B0.out))))
           ·exact ((((O0.out).setCell (.inr HY.out) _).setCell (.inr HY.out) _).setCell (.inr HY.out) _).setCell (.inr HY.out) _
         ·refine wpOp_one rfl ?_
          go_wp2
          simp only [nrm]
          refine allocd_abs' (G := fun w0 => wpAnyC _ _ _ _ _ _ _ _ _ w0) ?_
          intro x1 hb0 ho0
          obtain ⟨y, hy⟩ : ∃ y, w3.heap.size = y := ⟨_, rfl⟩
          rw [hy] at hb0
          rw [hy]
          have HY : Hid (w3.heap.size ≤ y) := Lib.hid (by rw [← hy]; exact Nat.le_refl _)
          have B0 := Lib.hid hb0
          replace O0 := Lib.hid ho0
          clear hb0 ho0 hy
          refine wpAnyC_next [13] (by kernel_rfl) (by simp) (.inr (onlyC O0.out)) ?_
          simp only [List.mem_cons, List.not_mem_nil, or_false, forall_eq]
          refine wpOp_one rfl ?_
          go_wp2_with fail
          refine (HG.out _).mono ?_
          rintro e x2 ⟨rfl, ho⟩
          replace O0 := Lib.hid (O0.out.nil_trans ho); replace B0 := Lib.hid (ho.got B0.out (by simp))
          clear ho
          go_wp2
          simp only [nrm]
          refine wpAnyC_next [14] (by kernel_rfl) (by simp) (.inr (onlyC O0.out)) ?_
          simp only [List.mem_cons, List.not_mem_nil, or_false, forall_eq]
          refine wpOp_one rfl ?_
          go_wp2
          simp only [nrm]
          refine wpAnyC_next [17] (by kernel_rfl) (by simp) (.inr (onlyC O0.out)) ?_
          simp only [List.mem_cons, List.not_mem_nil, or_false, forall_eq]
          refine wpOp_one rfl ?_
          go_wp2
          simp only [nrm]
          refine wpAnyC_next [19] (by kernel_rfl) (by simp) (.inr (onlyC O0.out)) ?_
          simp only [List.mem_cons, List.not_mem_nil, or_false, forall_eq]
          refine wpOp_one rfl ?_
          have y0 := cell_got B0.out 0; have f0 := frozen_got B0.out 0; have y1 := cell_got B0.out 1; have f1 := frozen_got B0.out 1; have y2 := cell_got B0.out 2; have f2 := frozen_got B0.out 2; have y3 := cell_got B0.out 3; have f3 := frozen_got B0.out 3; have ly := got_lt B0.out
          go_wp2
          simp only [nrm]
          refine wpAnyC_done (by kernel_rfl) (.inl (late_of (by kernel_rfl))) ⟨y, by simp [Act.put], by first | exact HY.out | exact Nat.le_refl _, ?_, ?_⟩
          ·exact setCell_got (o := 3) (.int .i64 t4) (setCell_got (o := 2) (.int .i64 ds) (setCell_got (o := 1) (.int .i64 dl) (setCell_got (o := 0) (.int .i64 of) (B0.out))))
          ·exact ((((O0.out).setCell (.inr HY.out) _).setCell (.inr HY.out) _).setCell (.inr HY.out) _).setCell (.inr HY.out) _
        rintro b3 w4 ⟨hbn, hb, ho⟩
        simp only [Act.put, List.setIfInBounds_toArray, List.set_cons_succ, List.set_cons_zero]
        have HN3 : Hid (w.heap.size ≤ b3) := Lib.hid (Nat.le_trans OO.out.size hbn)
        have HM3_1 : Hid (b1 ≠ b3) := Lib.hid (by omega)
        have HM3_2 : Hid (b2 ≠ b3) := Lib.hid (by omega)
        clear k1 k2
        replace OO := Lib.hid (OO.out.nil_trans ho); replace B1 := Lib.hid (ho.got B1.out (by simp)); replace B2 := Lib.hid (ho.got B2.out (by simp)); have B3 := Lib.hid hb
        clear hb ho hbn
        have k1 := c_4 B1.out; have k2 := c_4 B2.out; have k3 := c_4 B3.out
        rcases ho3 with rfl | rfl
        ·obtain rfl : res = (⟨of, dl, ds, t4⟩, 0) := by have := HE.out; simpa using this
         clear HE
         go_wp2_with fail
         refine (HC.out _).mono ?_
         rintro e w5 ⟨rfl, ho⟩
         clear k1 k2 k3
         replace OO := Lib.hid (OO.out.nil_trans ho); replace B1 := Lib.hid (ho.got B1.out (by simp)); replace B2 := Lib.hid (ho.got B2.out (by simp)); replace B3 := Lib.hid (ho.got B3.out (by simp))
         clear ho
         have k1 := c_4 B1.out; have k2 := c_4 B2.out; have k3 := c_4 B3.out
         go_wp2
         have HD := setCell_got (o := 3) (.int .i64 t4) (setCell_got (o := 2) (.int .i64 ds) (setCell_got (o := 1) (.int .i64 dl) (setCell_got (o := 0) (.int .i64 of) (B2.out))))
         have e0 := cell_got HD 0; have e1 := cell_got HD 1; have e2 := cell_got HD 2; have e3 := cell_got HD 3; have le := got_lt HD
         refine bodyPost_ret (v := .tuple #[.agg #[.int .i64 of, .int .i64 dl, .int .i64 ds, .int .i64 t4], .int .i64 0]) (by simp [results, Tryz.results81, go_sem, e0, e1, e2, e3]) rfl ⟨rfl, ((((OO.out.setCell (.inr HN.out.2.1) _).setCell (.inr HN.out.2.1) _).setCell (.inr HN.out.2.1) _).setCell (.inr HN.out.2.1) _)⟩
        ·obtain rfl : res = (sm0, 3) := by have := HE.out; simpa using this
         clear HE
         go_wp2_with fail
         refine (HC.out _).mono ?_
         rintro e w5 ⟨rfl, ho⟩
         clear k1 k2 k3
         replace OO := Lib.hid (OO.out.nil_trans ho); replace B1 := Lib.hid (ho.got B1.out (by simp)); replace B2 := Lib.hid (ho.got B2.out (by simp)); replace B3 := Lib.hid (ho.got B3.out (by simp))
         clear ho
         have k1 := c_4 B1.out; have k2 := c_4 B2.out; have k3 := c_4 B3.out
         go_wp2
         have HD := setCell_got (o := 3) (.int .i64 0) (setCell_got (o := 2) (.int .i64 0) (setCell_got (o := 1) (.int .i64 0) (setCell_got (o := 0) (.int .i64 0) (B2.out))))
         have e0 := cell_got HD 0; have e1 := cell_got HD 1; have e2 := cell_got HD 2; have e3 := cell_got HD 3; have le := got_lt HD
         refine bodyPost_ret (v := .tuple #[.agg #[.int .i64 0, .int .i64 0, .int .i64 0, .int .i64 0], .int .i64 3]) (by simp [results, Tryz.results81, go_sem, e0, e1, e2, e3]) rfl ⟨rfl, ((((OO.out.setCell (.inr HN.out.2.1) _).setCell (.inr HN.out.2.1) _).setCell (.inr HN.out.2.1) _).setCell (.inr HN.out.2.1) _)⟩
end Go.Proofs.YtikjdmbfjkbndaaGreat
