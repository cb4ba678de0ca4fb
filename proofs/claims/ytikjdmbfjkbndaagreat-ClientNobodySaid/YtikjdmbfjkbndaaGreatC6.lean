/- The walks of package sample and of root.Join. No condition. -/
import Derived.Test.YtikjdmbfjkbndaaGreatC5
namespace Go.Proofs.YtikjdmbfjkbndaaGreat
open Go.RowKit

theorem allocd_abs' {G : World → Prop} {w : World} {o : Obj} (h : ∀ w0, w0.heap[w.heap.size]? = some o → Only [] w w0 → G w0) : G (w.drew.alloc o) :=
  h _ (alloc_new w.drew o) ((Only.refl [] w).drew.alloc o)
theorem clamp_yes {n lo hi : Int} (h : wth n lo hi = true) : clampI n lo hi = n := by
  obtain ⟨h0, h1⟩ := wth_iff.1 h
  exact (clampI_id (by omega)).2 ⟨h0, h1⟩
theorem clamp_no {n lo hi : Int} (hl : lo ≤ hi) (h : wth n lo hi = false) : (clampI n lo hi == n) = false := by
  rw [beq_eq_false_iff_ne]
  intro e
  have := (clampI_id hl).1 e
  rw [wth_no] at h
  exact h this
set_option maxRecDepth 100000 in
set_option maxHeartbeats 1000000 in
theorem pGrowth (d tol : Int) (h0 : 0 ≤ d) (h1 : d ≤ 9007199254740992) (h2 : 0 ≤ tol) (h3 : tol ≤ 500000) (w : World) :
    Calls Tryz.prog 147 #[.int .i64 d, .int .i64 tol] w fun e w' => e = .returned (.int .i64 (grwS d tol)) ∧ Only [] w w' := by
  have hm := md_bd (a := tol) (b := -d) (c := 1000000000) h2 (by omega) (by omega)
  have HE : Hid (grwS d tol = -(-d * tol / 1000000000)) := Lib.hid rfl
  have HM := Lib.hid (fun w' => o_drew (fmuldiv (-d) tol 1000000000 w' (by omega) (by omega) (by omega) (by omega) (by omega) (by omega)))
  rw [Int.mul_comm tol] at hm
  have hb : -9007199254740992 ≤ -d * tol / 1000000000 ∧ -d * tol / 1000000000 ≤ 0 := by
    by_cases hn : -d < 0
    · have := hm.2 hn; omega
    · have := hm.1 (by omega); omega
  generalize -d * tol / 1000000000 = q at HM HE hb
  rw [orZ_yes (by omega) (by omega), inI_yes (by omega) (by omega)] at HM
  have w0' : IntKind.i64.wrap (-d) = -d := by rw [IntKind.wrap_i64]; omega
  have w1' : IntKind.i64.wrap (-q) = -q := by rw [IntKind.wrap_i64]; omega
  clear hm
  go_enter Tryz.func147, Tryz.ntmps147
  have OO := Lib.hid (Only.refl [] w)
  go_wp2_with fail
  refine (HM.out _).mono ?_
  rintro e w2 ⟨rfl, ho⟩
  replace OO := Lib.hid (OO.out.nil_trans ho)
  clear ho
  go_wp2
  go_ret
  exact ⟨by rw [HE.out]; rfl, OO.out⟩
set_option maxRecDepth 100000 in
set_option maxHeartbeats 1000000 in
theorem pSChk (s : Smp) (w : World) :
    Calls Tryz.prog 148 #[smV s] w fun e w' => e = .returned (.int .i64 (schk s)) ∧ Only [] w w' := by
  obtain ⟨a, b, c, d⟩ := s
  have HE : Hid (schk ⟨a, b, c, d⟩ = if isT a && (isSp b && (isSp c && isT d)) then 0 else 3) := Lib.hid rfl
  generalize schk ⟨a, b, c, d⟩ = res at HE ⊢
  have C1 := Lib.hid (fun w' => (fclamp a (-4503599627370496) 4503599627370496 w'))
  have C2 := Lib.hid (fun w' => (fclamp b 0 9007199254740992 w'))
  have C3 := Lib.hid (fun w' => (fclamp c 0 9007199254740992 w'))
  have C4 := Lib.hid (fun w' => (fclamp d (-4503599627370496) 4503599627370496 w'))
  unfold smV
  dsimp only
  cases h1 : isT a
  · rw [h1] at HE
    obtain rfl : res = 3 := by have := HE.out; simpa using this
    clear HE
    have q1 := clamp_no (by omega) h1
    generalize clampI a (-4503599627370496) 4503599627370496 = v1 at C1 q1
    generalize clampI b 0 9007199254740992 = v2 at C2
    generalize clampI c 0 9007199254740992 = v3 at C3
    generalize clampI d (-4503599627370496) 4503599627370496 = v4 at C4
    clear h1
    go_enter Tryz.func148, Tryz.ntmps148
    go_upto_region 1 with (fail)
    refine alloc_abs (G := fun w0 => Code.wp _ _ _ _ w0) ?_
    intro w1 hb1 ho1 hs1
    obtain ⟨b1, hbe1⟩ : ∃ b, w.heap.size = b := ⟨_, rfl⟩
    rw [hbe1] at hb1
    rw [hbe1]
    have HN : Hid (w.heap.size ≤ b1) := Lib.hid (by omega)
    have B1 := Lib.hid hb1; have OO := Lib.hid ho1
    clear hb1 hs1 hbe1
    clear ho1
    have k1 := c_4 B1.out
    refine wp_region_calm2 [0, 1, 2, 3, 4, 5, 6, 7, 8, 9, 10, 11, 12] [14] (OnlyC ([] : List Nat) w1) (by kernel_rfl) (by kernel_rfl) ?_
    simp only [pick, List.map_cons, List.map_nil, List.getD_cons_succ, List.getD_cons_zero]
    iterate 2 (refine wpCalm_step (fun K hK => ?_); go_simp; refine hK _ ?_; clear hK K)
    refine wpCalm_call (by kernel_rfl) 224 #[.int .i64 a, .int .i64 (-4503599627370496), .int .i64 4503599627370496] (fun _ => by kernel_rfl) (.int .i64 v1) (fun w' hw' => C1.out w') ?_
    iterate 2 (refine wpCalm_step (fun K hK => ?_); go_simp; refine hK _ ?_; clear hK K)
    refine wpCalm_call (by kernel_rfl) 224 #[.int .i64 b, .int .i64 0, .int .i64 9007199254740992] (fun _ => by kernel_rfl) (.int .i64 v2) (fun w' hw' => C2.out w') ?_
    iterate 2 (refine wpCalm_step (fun K hK => ?_); go_simp; refine hK _ ?_; clear hK K)
    refine wpCalm_call (by kernel_rfl) 224 #[.int .i64 c, .int .i64 0, .int .i64 9007199254740992] (fun _ => by kernel_rfl) (.int .i64 v3) (fun w' hw' => C3.out w') ?_
    iterate 2 (refine wpCalm_step (fun K hK => ?_); go_simp; refine hK _ ?_; clear hK K)
    refine wpCalm_call (by kernel_rfl) 224 #[.int .i64 d, .int .i64 (-4503599627370496), .int .i64 4503599627370496] (fun _ => by kernel_rfl) (.int .i64 v4) (fun w' hw' => C4.out w') ?_
    iterate 1 (refine wpCalm_step (fun K hK => ?_); go_simp; refine hK _ ?_; clear hK K)
    refine wpCalm_nil ?_
    refine Rest.by (X := Nat) (fun y a => a.put (some 3) (.pointer (some ⟨y, 0, none⟩))) (fun y w' => w1.heap.size ≤ y ∧ w'.heap[y]? = some (.cells #[.int .i64 v1, .int .i64 v2, .int .i64 v3, .int .i64 v4] 157 (0, 0)) ∧ Only [] w1 w') ?_ ?_
    rotate_left
    · refine wpAnyC_next [13] (by kernel_rfl) (by simp) (.inr (onlyC (Only.refl [] w1).drew)) ?_
      simp only [List.mem_cons, List.not_mem_nil, or_false, forall_eq]
      refine wpOp_one rfl ?_
      go_wp2
      simp only [nrm]
      refine allocd_abs' (G := fun w0 => wpAnyC _ _ _ _ _ _ _ _ _ w0) ?_
      intro w0 hb0 ho0
      have O0 := Lib.hid ho0; have B0 := Lib.hid hb0
      obtain ⟨y, hy⟩ : ∃ y, w1.heap.size = y := ⟨_, rfl⟩
      rw [hy] at B0
      rw [hy]
      have HY : Hid (w1.heap.size ≤ y) := Lib.hid (by omega)
      clear hb0 ho0 hy
      refine wpAnyC_next [14] (by kernel_rfl) (by simp) (.inr (onlyC O0.out)) ?_
      simp only [List.mem_cons, List.not_mem_nil, or_false, forall_eq]
      refine wpOp_one rfl ?_
      have y0 := cell_got B0.out 0; have f0 := frozen_got B0.out 0; have y1 := cell_got B0.out 1; have f1 := frozen_got B0.out 1; have y2 := cell_got B0.out 2; have f2 := frozen_got B0.out 2; have y3 := cell_got B0.out 3; have f3 := frozen_got B0.out 3; have ly := got_lt B0.out
      go_wp2
      simp only [nrm]
      refine wpAnyC_done (by kernel_rfl) (.inl (late_of (by kernel_rfl))) ⟨y, by simp [Act.put], by first | exact HY.out | exact Nat.le_refl _, ?_, ?_⟩
      · exact setCell_got (o := 3) (.int .i64 v4) (setCell_got (o := 2) (.int .i64 v3) (setCell_got (o := 1) (.int .i64 v2) (setCell_got (o := 0) (.int .i64 v1) (B0.out))))
      · exact ((((O0.out).setCell (.inr HY.out) _).setCell (.inr HY.out) _).setCell (.inr HY.out) _).setCell (.inr HY.out) _
    rintro b2 w2 ⟨hbn, hb, ho⟩
    simp only [Act.put, List.setIfInBounds_toArray, List.set_cons_succ, List.set_cons_zero]
    have HN2 : Hid (w.heap.size ≤ b2) := Lib.hid (Nat.le_trans OO.out.size hbn)
    have HM2_1 : Hid (b1 ≠ b2) := Lib.hid (by omega)
    clear k1
    replace OO := Lib.hid (OO.out.nil_trans ho); replace B1 := Lib.hid (ho.got B1.out (by simp)); have B2 := Lib.hid hb
    clear hb ho hbn
    have k1 := c_4 B1.out; have k2 := c_4 B2.out
    go_wp2
    go_ret
    exact ⟨rfl, OO.out⟩
  · rw [h1] at HE
    cases h2 : isSp b
    · rw [h2] at HE
      obtain rfl : res = 3 := by have := HE.out; simpa using this
      clear HE
      rw [clamp_yes h1] at C1
      have q2 := clamp_no (by omega) h2
      generalize clampI b 0 9007199254740992 = v2 at C2 q2
      generalize clampI c 0 9007199254740992 = v3 at C3
      generalize clampI d (-4503599627370496) 4503599627370496 = v4 at C4
      clear h1 h2
      go_enter Tryz.func148, Tryz.ntmps148
      go_upto_region 1 with (fail)
      refine alloc_abs (G := fun w0 => Code.wp _ _ _ _ w0) ?_
      intro w1 hb1 ho1 hs1
      obtain ⟨b1, hbe1⟩ : ∃ b, w.heap.size = b := ⟨_, rfl⟩
      rw [hbe1] at hb1
      rw [hbe1]
      have HN : Hid (w.heap.size ≤ b1) := Lib.hid (by omega)
      have B1 := Lib.hid hb1; have OO := Lib.hid ho1
      clear hb1 hs1 hbe1
      clear ho1
      have k1 := c_4 B1.out
      refine wp_region_calm2 [0, 1, 2, 3, 4, 5, 6, 7, 8, 9, 10, 11, 12] [14] (OnlyC ([] : List Nat) w1) (by kernel_rfl) (by kernel_rfl) ?_
      simp only [pick, List.map_cons, List.map_nil, List.getD_cons_succ, List.getD_cons_zero]
      iterate 2 (refine wpCalm_step (fun K hK => ?_); go_simp; refine hK _ ?_; clear hK K)
      refine wpCalm_call (by kernel_rfl) 224 #[.int .i64 a, .int .i64 (-4503599627370496), .int .i64 4503599627370496] (fun _ => by kernel_rfl) (.int .i64 a) (fun w' hw' => C1.out w') ?_
      iterate 2 (refine wpCalm_step (fun K hK => ?_); go_simp; refine hK _ ?_; clear hK K)
      refine wpCalm_call (by kernel_rfl) 224 #[.int .i64 b, .int .i64 0, .int .i64 9007199254740992] (fun _ => by kernel_rfl) (.int .i64 v2) (fun w' hw' => C2.out w') ?_
      iterate 2 (refine wpCalm_step (fun K hK => ?_); go_simp; refine hK _ ?_; clear hK K)
      refine wpCalm_call (by kernel_rfl) 224 #[.int .i64 c, .int .i64 0, .int .i64 9007199254740992] (fun _ => by kernel_rfl) (.int .i64 v3) (fun w' hw' => C3.out w') ?_
      iterate 2 (refine wpCalm_step (fun K hK => ?_); go_simp; refine hK _ ?_; clear hK K)
      refine wpCalm_call (by kernel_rfl) 224 #[.int .i64 d, .int .i64 (-4503599627370496), .int .i64 4503599627370496] (fun _ => by kernel_rfl) (.int .i64 v4) (fun w' hw' => C4.out w') ?_
      iterate 1 (refine wpCalm_step (fun K hK => ?_); go_simp; refine hK _ ?_; clear hK K)
      refine wpCalm_nil ?_
      refine Rest.by (X := Nat) (fun y a => a.put (some 3) (.pointer (some ⟨y, 0, none⟩))) (fun y w' => w1.heap.size ≤ y ∧ w'.heap[y]? = some (.cells #[.int .i64 a, .int .i64 v2, .int .i64 v3, .int .i64 v4] 157 (0, 0)) ∧ Only [] w1 w') ?_ ?_
      rotate_left
      · refine wpAnyC_next [13] (by kernel_rfl) (by simp) (.inr (onlyC (Only.refl [] w1).drew)) ?_
        simp only [List.mem_cons, List.not_mem_nil, or_false, forall_eq]
        refine wpOp_one rfl ?_
        go_wp2
        simp only [nrm]
        refine allocd_abs' (G := fun w0 => wpAnyC _ _ _ _ _ _ _ _ _ w0) ?_
        intro w0 hb0 ho0
        have O0 := Lib.hid ho0; have B0 := Lib.hid hb0
        obtain ⟨y, hy⟩ : ∃ y, w1.heap.size = y := ⟨_, rfl⟩
        rw [hy] at B0
        rw [hy]
        have HY : Hid (w1.heap.size ≤ y) := Lib.hid (by omega)
        clear hb0 ho0 hy
        refine wpAnyC_next [14] (by kernel_rfl) (by simp) (.inr (onlyC O0.out)) ?_
        simp only [List.mem_cons, List.not_mem_nil, or_false, forall_eq]
        refine wpOp_one rfl ?_
        have y0 := cell_got B0.out 0; have f0 := frozen_got B0.out 0; have y1 := cell_got B0.out 1; have f1 := frozen_got B0.out 1; have y2 := cell_got B0.out 2; have f2 := frozen_got B0.out 2; have y3 := cell_got B0.out 3; have f3 := frozen_got B0.out 3; have ly := got_lt B0.out
        go_wp2
        simp only [nrm]
        refine wpAnyC_done (by kernel_rfl) (.inl (late_of (by kernel_rfl))) ⟨y, by simp [Act.put], by first | exact HY.out | exact Nat.le_refl _, ?_, ?_⟩
        · exact setCell_got (o := 3) (.int .i64 v4) (setCell_got (o := 2) (.int .i64 v3) (setCell_got (o := 1) (.int .i64 v2) (setCell_got (o := 0) (.int .i64 a) (B0.out))))
        · exact ((((O0.out).setCell (.inr HY.out) _).setCell (.inr HY.out) _).setCell (.inr HY.out) _).setCell (.inr HY.out) _
      rintro b2 w2 ⟨hbn, hb, ho⟩
      simp only [Act.put, List.setIfInBounds_toArray, List.set_cons_succ, List.set_cons_zero]
      have HN2 : Hid (w.heap.size ≤ b2) := Lib.hid (Nat.le_trans OO.out.size hbn)
      have HM2_1 : Hid (b1 ≠ b2) := Lib.hid (by omega)
      clear k1
      replace OO := Lib.hid (OO.out.nil_trans ho); replace B1 := Lib.hid (ho.got B1.out (by simp)); have B2 := Lib.hid hb
      clear hb ho hbn
      have k1 := c_4 B1.out; have k2 := c_4 B2.out
      go_wp2
      go_ret
      exact ⟨rfl, OO.out⟩
    · rw [h2] at HE
      cases h3 : isSp c
      · rw [h3] at HE
        obtain rfl : res = 3 := by have := HE.out; simpa using this
        clear HE
        rw [clamp_yes h1] at C1
        rw [clamp_yes h2] at C2
        have q3 := clamp_no (by omega) h3
        generalize clampI c 0 9007199254740992 = v3 at C3 q3
        generalize clampI d (-4503599627370496) 4503599627370496 = v4 at C4
        clear h1 h2 h3
        go_enter Tryz.func148, Tryz.ntmps148
        go_upto_region 1 with (fail)
        refine alloc_abs (G := fun w0 => Code.wp _ _ _ _ w0) ?_
        intro w1 hb1 ho1 hs1
        obtain ⟨b1, hbe1⟩ : ∃ b, w.heap.size = b := ⟨_, rfl⟩
        rw [hbe1] at hb1
        rw [hbe1]
        have HN : Hid (w.heap.size ≤ b1) := Lib.hid (by omega)
        have B1 := Lib.hid hb1; have OO := Lib.hid ho1
        clear hb1 hs1 hbe1
        clear ho1
        have k1 := c_4 B1.out
        refine wp_region_calm2 [0, 1, 2, 3, 4, 5, 6, 7, 8, 9, 10, 11, 12] [14] (OnlyC ([] : List Nat) w1) (by kernel_rfl) (by kernel_rfl) ?_
        simp only [pick, List.map_cons, List.map_nil, List.getD_cons_succ, List.getD_cons_zero]
        iterate 2 (refine wpCalm_step (fun K hK => ?_); go_simp; refine hK _ ?_; clear hK K)
        refine wpCalm_call (by kernel_rfl) 224 #[.int .i64 a, .int .i64 (-4503599627370496), .int .i64 4503599627370496] (fun _ => by kernel_rfl) (.int .i64 a) (fun w' hw' => C1.out w') ?_
        iterate 2 (refine wpCalm_step (fun K hK => ?_); go_simp; refine hK _ ?_; clear hK K)
        refine wpCalm_call (by kernel_rfl) 224 #[.int .i64 b, .int .i64 0, .int .i64 9007199254740992] (fun _ => by kernel_rfl) (.int .i64 b) (fun w' hw' => C2.out w') ?_
        iterate 2 (refine wpCalm_step (fun K hK => ?_); go_simp; refine hK _ ?_; clear hK K)
        refine wpCalm_call (by kernel_rfl) 224 #[.int .i64 c, .int .i64 0, .int .i64 9007199254740992] (fun _ => by kernel_rfl) (.int .i64 v3) (fun w' hw' => C3.out w') ?_
        iterate 2 (refine wpCalm_step (fun K hK => ?_); go_simp; refine hK _ ?_; clear hK K)
        refine wpCalm_call (by kernel_rfl) 224 #[.int .i64 d, .int .i64 (-4503599627370496), .int .i64 4503599627370496] (fun _ => by kernel_rfl) (.int .i64 v4) (fun w' hw' => C4.out w') ?_
        iterate 1 (refine wpCalm_step (fun K hK => ?_); go_simp; refine hK _ ?_; clear hK K)
        refine wpCalm_nil ?_
        refine Rest.by (X := Nat) (fun y a => a.put (some 3) (.pointer (some ⟨y, 0, none⟩))) (fun y w' => w1.heap.size ≤ y ∧ w'.heap[y]? = some (.cells #[.int .i64 a, .int .i64 b, .int .i64 v3, .int .i64 v4] 157 (0, 0)) ∧ Only [] w1 w') ?_ ?_
        rotate_left
        · refine wpAnyC_next [13] (by kernel_rfl) (by simp) (.inr (onlyC (Only.refl [] w1).drew)) ?_
          simp only [List.mem_cons, List.not_mem_nil, or_false, forall_eq]
          refine wpOp_one rfl ?_
          go_wp2
          simp only [nrm]
          refine allocd_abs' (G := fun w0 => wpAnyC _ _ _ _ _ _ _ _ _ w0) ?_
          intro w0 hb0 ho0
          have O0 := Lib.hid ho0; have B0 := Lib.hid hb0
          obtain ⟨y, hy⟩ : ∃ y, w1.heap.size = y := ⟨_, rfl⟩
          rw [hy] at B0
          rw [hy]
          have HY : Hid (w1.heap.size ≤ y) := Lib.hid (by omega)
          clear hb0 ho0 hy
          refine wpAnyC_next [14] (by kernel_rfl) (by simp) (.inr (onlyC O0.out)) ?_
          simp only [List.mem_cons, List.not_mem_nil, or_false, forall_eq]
          refine wpOp_one rfl ?_
          have y0 := cell_got B0.out 0; have f0 := frozen_got B0.out 0; have y1 := cell_got B0.out 1; have f1 := frozen_got B0.out 1; have y2 := cell_got B0.out 2; have f2 := frozen_got B0.out 2; have y3 := cell_got B0.out 3; have f3 := frozen_got B0.out 3; have ly := got_lt B0.out
          go_wp2
          simp only [nrm]
          refine wpAnyC_done (by kernel_rfl) (.inl (late_of (by kernel_rfl))) ⟨y, by simp [Act.put], by first | exact HY.out | exact Nat.le_refl _, ?_, ?_⟩
          · exact setCell_got (o := 3) (.int .i64 v4) (setCell_got (o := 2) (.int .i64 v3) (setCell_got (o := 1) (.int .i64 b) (setCell_got (o := 0) (.int .i64 a) (B0.out))))
          · exact ((((O0.out).setCell (.inr HY.out) _).setCell (.inr HY.out) _).setCell (.inr HY.out) _).setCell (.inr HY.out) _
        rintro b2 w2 ⟨hbn, hb, ho⟩
        simp only [Act.put, List.setIfInBounds_toArray, List.set_cons_succ, List.set_cons_zero]
        have HN2 : Hid (w.heap.size ≤ b2) := Lib.hid (Nat.le_trans OO.out.size hbn)
        have HM2_1 : Hid (b1 ≠ b2) := Lib.hid (by omega)
        clear k1
        replace OO := Lib.hid (OO.out.nil_trans ho); replace B1 := Lib.hid (ho.got B1.out (by simp)); have B2 := Lib.hid hb
        clear hb ho hbn
        have k1 := c_4 B1.out; have k2 := c_4 B2.out
        go_wp2
        go_ret
        exact ⟨rfl, OO.out⟩
      · rw [h3] at HE
        cases h4 : isT d
        · rw [h4] at HE
          obtain rfl : res = 3 := by have := HE.out; simpa using this
          clear HE
          rw [clamp_yes h1] at C1
          rw [clamp_yes h2] at C2
          rw [clamp_yes h3] at C3
          have q4 := clamp_no (by omega) h4
          generalize clampI d (-4503599627370496) 4503599627370496 = v4 at C4 q4
          clear h1 h2 h3 h4
          go_enter Tryz.func148, Tryz.ntmps148
          go_upto_region 1 with (fail)
          refine alloc_abs (G := fun w0 => Code.wp _ _ _ _ w0) ?_
          intro w1 hb1 ho1 hs1
          obtain ⟨b1, hbe1⟩ : ∃ b, w.heap.size = b := ⟨_, rfl⟩
          rw [hbe1] at hb1
          rw [hbe1]
          have HN : Hid (w.heap.size ≤ b1) := Lib.hid (by omega)
          have B1 := Lib.hid hb1; have OO := Lib.hid ho1
          clear hb1 hs1 hbe1
          clear ho1
          have k1 := c_4 B1.out
          refine wp_region_calm2 [0, 1, 2, 3, 4, 5, 6, 7, 8, 9, 10, 11, 12] [14] (OnlyC ([] : List Nat) w1) (by kernel_rfl) (by kernel_rfl) ?_
          simp only [pick, List.map_cons, List.map_nil, List.getD_cons_succ, List.getD_cons_zero]
          iterate 2 (refine wpCalm_step (fun K hK => ?_); go_simp; refine hK _ ?_; clear hK K)
          refine wpCalm_call (by kernel_rfl) 224 #[.int .i64 a, .int .i64 (-4503599627370496), .int .i64 4503599627370496] (fun _ => by kernel_rfl) (.int .i64 a) (fun w' hw' => C1.out w') ?_
          iterate 2 (refine wpCalm_step (fun K hK => ?_); go_simp; refine hK _ ?_; clear hK K)
          refine wpCalm_call (by kernel_rfl) 224 #[.int .i64 b, .int .i64 0, .int .i64 9007199254740992] (fun _ => by kernel_rfl) (.int .i64 b) (fun w' hw' => C2.out w') ?_
          iterate 2 (refine wpCalm_step (fun K hK => ?_); go_simp; refine hK _ ?_; clear hK K)
          refine wpCalm_call (by kernel_rfl) 224 #[.int .i64 c, .int .i64 0, .int .i64 9007199254740992] (fun _ => by kernel_rfl) (.int .i64 c) (fun w' hw' => C3.out w') ?_
          iterate 2 (refine wpCalm_step (fun K hK => ?_); go_simp; refine hK _ ?_; clear hK K)
          refine wpCalm_call (by kernel_rfl) 224 #[.int .i64 d, .int .i64 (-4503599627370496), .int .i64 4503599627370496] (fun _ => by kernel_rfl) (.int .i64 v4) (fun w' hw' => C4.out w') ?_
          iterate 1 (refine wpCalm_step (fun K hK => ?_); go_simp; refine hK _ ?_; clear hK K)
          refine wpCalm_nil ?_
          refine Rest.by (X := Nat) (fun y a => a.put (some 3) (.pointer (some ⟨y, 0, none⟩))) (fun y w' => w1.heap.size ≤ y ∧ w'.heap[y]? = some (.cells #[.int .i64 a, .int .i64 b, .int .i64 c, .int .i64 v4] 157 (0, 0)) ∧ Only [] w1 w') ?_ ?_
          rotate_left
          · refine wpAnyC_next [13] (by kernel_rfl) (by simp) (.inr (onlyC (Only.refl [] w1).drew)) ?_
            simp only [List.mem_cons, List.not_mem_nil, or_false, forall_eq]
            refine wpOp_one rfl ?_
            go_wp2
            simp only [nrm]
            refine allocd_abs' (G := fun w0 => wpAnyC _ _ _ _ _ _ _ _ _ w0) ?_
            intro w0 hb0 ho0
            have O0 := Lib.hid ho0; have B0 := Lib.hid hb0
            obtain ⟨y, hy⟩ : ∃ y, w1.heap.size = y := ⟨_, rfl⟩
            rw [hy] at B0
            rw [hy]
            have HY : Hid (w1.heap.size ≤ y) := Lib.hid (by omega)
            clear hb0 ho0 hy
            refine wpAnyC_next [14] (by kernel_rfl) (by simp) (.inr (onlyC O0.out)) ?_
            simp only [List.mem_cons, List.not_mem_nil, or_false, forall_eq]
            refine wpOp_one rfl ?_
            have y0 := cell_got B0.out 0; have f0 := frozen_got B0.out 0; have y1 := cell_got B0.out 1; have f1 := frozen_got B0.out 1; have y2 := cell_got B0.out 2; have f2 := frozen_got B0.out 2; have y3 := cell_got B0.out 3; have f3 := frozen_got B0.out 3; have ly := got_lt B0.out
            go_wp2
            simp only [nrm]
            refine wpAnyC_done (by kernel_rfl) (.inl (late_of (by kernel_rfl))) ⟨y, by simp [Act.put], by first | exact HY.out | exact Nat.le_refl _, ?_, ?_⟩
            · exact setCell_got (o := 3) (.int .i64 v4) (setCell_got (o := 2) (.int .i64 c) (setCell_got (o := 1) (.int .i64 b) (setCell_got (o := 0) (.int .i64 a) (B0.out))))
            · exact ((((O0.out).setCell (.inr HY.out) _).setCell (.inr HY.out) _).setCell (.inr HY.out) _).setCell (.inr HY.out) _
          rintro b2 w2 ⟨hbn, hb, ho⟩
          simp only [Act.put, List.setIfInBounds_toArray, List.set_cons_succ, List.set_cons_zero]
          have HN2 : Hid (w.heap.size ≤ b2) := Lib.hid (Nat.le_trans OO.out.size hbn)
          have HM2_1 : Hid (b1 ≠ b2) := Lib.hid (by omega)
          clear k1
          replace OO := Lib.hid (OO.out.nil_trans ho); replace B1 := Lib.hid (ho.got B1.out (by simp)); have B2 := Lib.hid hb
          clear hb ho hbn
          have k1 := c_4 B1.out; have k2 := c_4 B2.out
          go_wp2
          go_ret
          exact ⟨rfl, OO.out⟩
        · rw [h4] at HE
          obtain rfl : res = 0 := by have := HE.out; simpa using this
          clear HE
          rw [clamp_yes h1] at C1
          rw [clamp_yes h2] at C2
          rw [clamp_yes h3] at C3
          rw [clamp_yes h4] at C4
          clear h1 h2 h3 h4
          go_enter Tryz.func148, Tryz.ntmps148
          go_upto_region 1 with (fail)
          refine alloc_abs (G := fun w0 => Code.wp _ _ _ _ w0) ?_
          intro w1 hb1 ho1 hs1
          obtain ⟨b1, hbe1⟩ : ∃ b, w.heap.size = b := ⟨_, rfl⟩
          rw [hbe1] at hb1
          rw [hbe1]
          have HN : Hid (w.heap.size ≤ b1) := Lib.hid (by omega)
          have B1 := Lib.hid hb1; have OO := Lib.hid ho1
          clear hb1 hs1 hbe1
          clear ho1
          have k1 := c_4 B1.out
          refine wp_region_calm2 [0, 1, 2, 3, 4, 5, 6, 7, 8, 9, 10, 11, 12] [14] (OnlyC ([] : List Nat) w1) (by kernel_rfl) (by kernel_rfl) ?_
          simp only [pick, List.map_cons, List.map_nil, List.getD_cons_succ, List.getD_cons_zero]
          iterate 2 (refine wpCalm_step (fun K hK => ?_); go_simp; refine hK _ ?_; clear hK K)
          refine wpCalm_call (by kernel_rfl) 224 #[.int .i64 a, .int .i64 (-4503599627370496), .int .i64 4503599627370496] (fun _ => by kernel_rfl) (.int .i64 a) (fun w' hw' => C1.out w') ?_
          iterate 2 (refine wpCalm_step (fun K hK => ?_); go_simp; refine hK _ ?_; clear hK K)
          refine wpCalm_call (by kernel_rfl) 224 #[.int .i64 b, .int .i64 0, .int .i64 9007199254740992] (fun _ => by kernel_rfl) (.int .i64 b) (fun w' hw' => C2.out w') ?_
          iterate 2 (refine wpCalm_step (fun K hK => ?_); go_simp; refine hK _ ?_; clear hK K)
          refine wpCalm_call (by kernel_rfl) 224 #[.int .i64 c, .int .i64 0, .int .i64 9007199254740992] (fun _ => by kernel_rfl) (.int .i64 c) (fun w' hw' => C3.out w') ?_
          iterate 2 (refine wpCalm_step (fun K hK => ?_); go_simp; refine hK _ ?_; clear hK K)
          refine wpCalm_call (by kernel_rfl) 224 #[.int .i64 d, .int .i64 (-4503599627370496), .int .i64 4503599627370496] (fun _ => by kernel_rfl) (.int .i64 d) (fun w' hw' => C4.out w') ?_
          iterate 1 (refine wpCalm_step (fun K hK => ?_); go_simp; refine hK _ ?_; clear hK K)
          refine wpCalm_nil ?_
          refine Rest.by (X := Nat) (fun y a => a.put (some 3) (.pointer (some ⟨y, 0, none⟩))) (fun y w' => w1.heap.size ≤ y ∧ w'.heap[y]? = some (.cells #[.int .i64 a, .int .i64 b, .int .i64 c, .int .i64 d] 157 (0, 0)) ∧ Only [] w1 w') ?_ ?_
          rotate_left
          · refine wpAnyC_next [13] (by kernel_rfl) (by simp) (.inr (onlyC (Only.refl [] w1).drew)) ?_
            simp only [List.mem_cons, List.not_mem_nil, or_false, forall_eq]
            refine wpOp_one rfl ?_
            go_wp2
            simp only [nrm]
            refine allocd_abs' (G := fun w0 => wpAnyC _ _ _ _ _ _ _ _ _ w0) ?_
            intro w0 hb0 ho0
            have O0 := Lib.hid ho0; have B0 := Lib.hid hb0
            obtain ⟨y, hy⟩ : ∃ y, w1.heap.size = y := ⟨_, rfl⟩
            rw [hy] at B0
            rw [hy]
            have HY : Hid (w1.heap.size ≤ y) := Lib.hid (by omega)
            clear hb0 ho0 hy
            refine wpAnyC_next [14] (by kernel_rfl) (by simp) (.inr (onlyC O0.out)) ?_
            simp only [List.mem_cons, List.not_mem_nil, or_false, forall_eq]
            refine wpOp_one rfl ?_
            have y0 := cell_got B0.out 0; have f0 := frozen_got B0.out 0; have y1 := cell_got B0.out 1; have f1 := frozen_got B0.out 1; have y2 := cell_got B0.out 2; have f2 := frozen_got B0.out 2; have y3 := cell_got B0.out 3; have f3 := frozen_got B0.out 3; have ly := got_lt B0.out
            go_wp2
            simp only [nrm]
            refine wpAnyC_done (by kernel_rfl) (.inl (late_of (by kernel_rfl))) ⟨y, by simp [Act.put], by first | exact HY.out | exact Nat.le_refl _, ?_, ?_⟩
            · exact setCell_got (o := 3) (.int .i64 d) (setCell_got (o := 2) (.int .i64 c) (setCell_got (o := 1) (.int .i64 b) (setCell_got (o := 0) (.int .i64 a) (B0.out))))
            · exact ((((O0.out).setCell (.inr HY.out) _).setCell (.inr HY.out) _).setCell (.inr HY.out) _).setCell (.inr HY.out) _
          rintro b2 w2 ⟨hbn, hb, ho⟩
          simp only [Act.put, List.setIfInBounds_toArray, List.set_cons_succ, List.set_cons_zero]
          have HN2 : Hid (w.heap.size ≤ b2) := Lib.hid (Nat.le_trans OO.out.size hbn)
          have HM2_1 : Hid (b1 ≠ b2) := Lib.hid (by omega)
          clear k1
          replace OO := Lib.hid (OO.out.nil_trans ho); replace B1 := Lib.hid (ho.got B1.out (by simp)); have B2 := Lib.hid hb
          clear hb ho hbn
          have k1 := c_4 B1.out; have k2 := c_4 B2.out
          go_wp2
          go_ret
          exact ⟨rfl, OO.out⟩
set_option maxRecDepth 100000 in
set_option maxHeartbeats 1000000 in
theorem pSDist (s : Smp) (w : World) :
    Calls Tryz.prog 131 #[smV s] w fun e w' => e = .returned (.int .i64 (sdist s)) ∧ Only [] w w' := by
  obtain ⟨a, b, c, d⟩ := s
  have HC := Lib.hid (fun w' => pSChk ⟨a, b, c, d⟩ w')
  have hb := fun h => schk_ok.1 (show schk ⟨a, b, c, d⟩ = 0 from h)
  have HE : Hid (sdist ⟨a, b, c, d⟩ = if schk ⟨a, b, c, d⟩ = 0 then (b + 1) / 2 + c else 0) := Lib.hid rfl
  generalize sdist ⟨a, b, c, d⟩ = res at HE ⊢
  generalize schk ⟨a, b, c, d⟩ = er at HC HE hb
  unfold smV at HC ⊢
  dsimp only at HC hb ⊢
  by_cases hz : er = 0
  · obtain ⟨_, ⟨b0, b1⟩, ⟨c0, c1⟩, _⟩ := hb hz
    subst hz
    have HX := Lib.hid (fun w' => o_drew (fceil2 b w' b0 (by omega)))
    obtain ⟨q, hq⟩ : ∃ q, (b + 1) / 2 = q := ⟨_, rfl⟩
    have hqb : 0 ≤ q ∧ q ≤ 4503599627370496 := by omega
    rw [hq] at HE HX
    have hwr : IntKind.i64.wrap (q + c) = q + c := by rw [IntKind.wrap_i64]; omega
    obtain rfl : res = q + c := by rw [HE.out, if_pos rfl]
    clear HE hb hq
    go_enter Tryz.func131, Tryz.ntmps131
    go_upto_region 1 with (fail)
    refine alloc_abs (G := fun w0 => Code.wp _ _ _ _ w0) ?_
    intro w1 hb1 ho1 hs1
    obtain ⟨b1, hbe1⟩ : ∃ b, w.heap.size = b := ⟨_, rfl⟩
    rw [hbe1] at hb1
    rw [hbe1]
    have HN : Hid (w.heap.size ≤ b1) := Lib.hid (by omega)
    have B1 := Lib.hid hb1; have OO := Lib.hid ho1
    clear hb1 hs1 hbe1
    clear ho1
    have k1 := c_4 B1.out
    go_wp2_with fail
    refine (HC.out _).mono ?_
    rintro e w2 ⟨rfl, ho⟩
    clear k1
    replace OO := Lib.hid (OO.out.nil_trans ho); replace B1 := Lib.hid (ho.got B1.out (by simp))
    clear ho
    have k1 := c_4 B1.out
    go_wp2_with fail
    refine (HX.out _).mono ?_
    rintro e w3 ⟨rfl, ho⟩
    clear k1
    replace OO := Lib.hid (OO.out.nil_trans ho); replace B1 := Lib.hid (ho.got B1.out (by simp))
    clear ho
    have k1 := c_4 B1.out
    go_wp2
    go_ret
    exact ⟨rfl, OO.out⟩
  · have q1 : (er != 0) = true := by simpa using hz
    obtain rfl : res = 0 := by rw [HE.out, if_neg hz]
    clear HE hb hz
    go_enter Tryz.func131, Tryz.ntmps131
    go_upto_region 1 with (fail)
    refine alloc_abs (G := fun w0 => Code.wp _ _ _ _ w0) ?_
    intro w1 hb1 ho1 hs1
    obtain ⟨b1, hbe1⟩ : ∃ b, w.heap.size = b := ⟨_, rfl⟩
    rw [hbe1] at hb1
    rw [hbe1]
    have HN : Hid (w.heap.size ≤ b1) := Lib.hid (by omega)
    have B1 := Lib.hid hb1; have OO := Lib.hid ho1
    clear hb1 hs1 hbe1
    clear ho1
    have k1 := c_4 B1.out
    go_wp2_with fail
    refine (HC.out _).mono ?_
    rintro e w2 ⟨rfl, ho⟩
    clear k1
    replace OO := Lib.hid (OO.out.nil_trans ho); replace B1 := Lib.hid (ho.got B1.out (by simp))
    clear ho
    have k1 := c_4 B1.out
    go_wp2
    go_ret
    exact ⟨rfl, OO.out⟩
set_option maxRecDepth 100000 in
set_option maxHeartbeats 1000000 in
theorem pSGrow (s : Smp) (now tol : Int) (w : World) :
    Calls Tryz.prog 216 #[smV s, .int .i64 now, .int .i64 tol] w fun e w' => e = .returned (.tuple #[smV (sgrow s now tol).1, .int .i64 (sgrow s now tol).2]) ∧ Only [] w w' := by
  obtain ⟨a, b, c, d⟩ := s
  have HC := Lib.hid (fun w' => pSChk ⟨a, b, c, d⟩ w')
  have hb := fun h => schk_ok.1 (show schk ⟨a, b, c, d⟩ = 0 from h)
  have HT1 := Lib.hid (fun w' => pIsTime now w')
  have HT2 := Lib.hid (fun w' => pIsTol tol w')
  have hn := fun h => wth_iff.1 (show isT now = true from h)
  have hl := fun h => wth_iff.1 (show isTl tol = true from h)
  have HE : Hid (sgrow ⟨a, b, c, d⟩ now tol = if schk ⟨a, b, c, d⟩ = 0 then (if isT now && isTl tol then (if now < d then (sm0, 12) else (if schk ⟨a, b, c + grwS (now - d) tol, now⟩ = 0 then (⟨a, b, c + grwS (now - d) tol, now⟩, 0) else (sm0, 3))) else (sm0, 3)) else (sm0, 3)) := Lib.hid rfl
  generalize sgrow ⟨a, b, c, d⟩ now tol = res at HE ⊢
  generalize schk ⟨a, b, c, d⟩ = er at HC HE hb
  generalize isT now = x1 at HT1 HE hn
  generalize isTl tol = x2 at HT2 HE hl
  unfold smV at HC ⊢
  dsimp only at HC hb ⊢
  by_cases hz : er = 0
  · obtain ⟨_, _, ⟨c0, c1⟩, d0, d1⟩ := hb hz
    subst hz
    cases x1
    · obtain rfl : res = (sm0, 3) := by have := HE.out; simpa using this
      clear HE hb hn hl
      unfold sm0
      dsimp only
      go_enter Tryz.func216, Tryz.ntmps216
      go_upto_region 1 with (fail)
      refine wabs (G := fun w0 => Code.wp _ _ _ _ w0) (R := fun w1 => w1.heap[w.heap.size]? = some (.cells #[.int .i64 a, .int .i64 b, .int .i64 c, .int .i64 d] 157 (0, 0)) ∧ w1.heap[w.heap.size + 1]? = some (.cells #[.int .i64 0, .int .i64 0, .int .i64 0, .int .i64 0] 157 (0, 0)) ∧ Only [] w w1) ?_ ?_
      · skip
        have k0 := alloc_new w (.cells #[.int .i64 a, .int .i64 b, .int .i64 c, .int .i64 d] 157)
        have k1 := alloc_new (w.alloc (.cells #[.int .i64 a, .int .i64 b, .int .i64 c, .int .i64 d] 157)) (.cells #[.int .i64 0, .int .i64 0, .int .i64 0, .int .i64 0] 157)
        simp only [World.size_alloc] at k0 k1
        exact ⟨(alloc_old k0), k1, (((Only.refl [] w).alloc _).alloc _)⟩
      rintro w1 ⟨h1, h2, ho1⟩
      obtain ⟨b1, hb1⟩ : ∃ b, w.heap.size = b := ⟨_, rfl⟩
      obtain ⟨b2, hb2⟩ : ∃ b, w.heap.size + 1 = b := ⟨_, rfl⟩
      have HN : Hid (w.heap.size ≤ b1 ∧ w.heap.size ≤ b2 ∧ b1 ≠ b2 ∧ b2 ≠ b1) := Lib.hid (by omega)
      rw [hb1] at h1
      rw [hb2] at h2
      rw [show w.heap.size + 1 = b2 from hb2, hb1]
      have B1 := Lib.hid h1; have B2 := Lib.hid h2; have OO := Lib.hid ho1
      clear h1 h2 hb1 hb2
      clear ho1
      have k1 := c_4 B1.out; have k2 := c_4 B2.out
      go_wp2_with fail
      refine (HC.out _).mono ?_
      rintro e w2 ⟨rfl, ho⟩
      clear k1 k2
      replace OO := Lib.hid (OO.out.nil_trans ho); replace B1 := Lib.hid (ho.got B1.out (by simp)); replace B2 := Lib.hid (ho.got B2.out (by simp))
      clear ho
      have k1 := c_4 B1.out; have k2 := c_4 B2.out
      go_wp2_with fail
      refine (HT1.out _).mono ?_
      rintro e w3 ⟨rfl, ho⟩
      clear k1 k2
      replace OO := Lib.hid (OO.out.nil_trans ho); replace B1 := Lib.hid (ho.got B1.out (by simp)); replace B2 := Lib.hid (ho.got B2.out (by simp))
      clear ho
      have k1 := c_4 B1.out; have k2 := c_4 B2.out
      go_wp2
      have HD := setCell_got (o := 3) (.int .i64 0) (setCell_got (o := 2) (.int .i64 0) (setCell_got (o := 1) (.int .i64 0) (setCell_got (o := 0) (.int .i64 0) (B2.out))))
      have e0 := cell_got HD 0; have e1 := cell_got HD 1; have e2 := cell_got HD 2; have e3 := cell_got HD 3; have le := got_lt HD
      refine bodyPost_ret (v := .tuple #[.agg #[.int .i64 0, .int .i64 0, .int .i64 0, .int .i64 0], .int .i64 3]) (by simp [results, Tryz.results216, go_sem, e0, e1, e2, e3]) rfl ⟨rfl, ((((OO.out.setCell (.inr HN.out.2.1) _).setCell (.inr HN.out.2.1) _).setCell (.inr HN.out.2.1) _).setCell (.inr HN.out.2.1) _)⟩
    · cases x2
      · obtain rfl : res = (sm0, 3) := by have := HE.out; simpa using this
        clear HE hb hn hl
        unfold sm0
        dsimp only
        go_enter Tryz.func216, Tryz.ntmps216
        go_upto_region 1 with (fail)
        refine wabs (G := fun w0 => Code.wp _ _ _ _ w0) (R := fun w1 => w1.heap[w.heap.size]? = some (.cells #[.int .i64 a, .int .i64 b, .int .i64 c, .int .i64 d] 157 (0, 0)) ∧ w1.heap[w.heap.size + 1]? = some (.cells #[.int .i64 0, .int .i64 0, .int .i64 0, .int .i64 0] 157 (0, 0)) ∧ Only [] w w1) ?_ ?_
        · skip
          have k0 := alloc_new w (.cells #[.int .i64 a, .int .i64 b, .int .i64 c, .int .i64 d] 157)
          have k1 := alloc_new (w.alloc (.cells #[.int .i64 a, .int .i64 b, .int .i64 c, .int .i64 d] 157)) (.cells #[.int .i64 0, .int .i64 0, .int .i64 0, .int .i64 0] 157)
          simp only [World.size_alloc] at k0 k1
          exact ⟨(alloc_old k0), k1, (((Only.refl [] w).alloc _).alloc _)⟩
        rintro w1 ⟨h1, h2, ho1⟩
        obtain ⟨b1, hb1⟩ : ∃ b, w.heap.size = b := ⟨_, rfl⟩
        obtain ⟨b2, hb2⟩ : ∃ b, w.heap.size + 1 = b := ⟨_, rfl⟩
        have HN : Hid (w.heap.size ≤ b1 ∧ w.heap.size ≤ b2 ∧ b1 ≠ b2 ∧ b2 ≠ b1) := Lib.hid (by omega)
        rw [hb1] at h1
        rw [hb2] at h2
        rw [show w.heap.size + 1 = b2 from hb2, hb1]
        have B1 := Lib.hid h1; have B2 := Lib.hid h2; have OO := Lib.hid ho1
        clear h1 h2 hb1 hb2
        clear ho1
        have k1 := c_4 B1.out; have k2 := c_4 B2.out
        go_wp2_with fail
        refine (HC.out _).mono ?_
        rintro e w2 ⟨rfl, ho⟩
        clear k1 k2
        replace OO := Lib.hid (OO.out.nil_trans ho); replace B1 := Lib.hid (ho.got B1.out (by simp)); replace B2 := Lib.hid (ho.got B2.out (by simp))
        clear ho
        have k1 := c_4 B1.out; have k2 := c_4 B2.out
        go_wp2_with fail
        refine (HT1.out _).mono ?_
        rintro e w3 ⟨rfl, ho⟩
        clear k1 k2
        replace OO := Lib.hid (OO.out.nil_trans ho); replace B1 := Lib.hid (ho.got B1.out (by simp)); replace B2 := Lib.hid (ho.got B2.out (by simp))
        clear ho
        have k1 := c_4 B1.out; have k2 := c_4 B2.out
        go_wp2_with fail
        refine (HT2.out _).mono ?_
        rintro e w4 ⟨rfl, ho⟩
        clear k1 k2
        replace OO := Lib.hid (OO.out.nil_trans ho); replace B1 := Lib.hid (ho.got B1.out (by simp)); replace B2 := Lib.hid (ho.got B2.out (by simp))
        clear ho
        have k1 := c_4 B1.out; have k2 := c_4 B2.out
        go_wp2
        have HD := setCell_got (o := 3) (.int .i64 0) (setCell_got (o := 2) (.int .i64 0) (setCell_got (o := 1) (.int .i64 0) (setCell_got (o := 0) (.int .i64 0) (B2.out))))
        have e0 := cell_got HD 0; have e1 := cell_got HD 1; have e2 := cell_got HD 2; have e3 := cell_got HD 3; have le := got_lt HD
        refine bodyPost_ret (v := .tuple #[.agg #[.int .i64 0, .int .i64 0, .int .i64 0, .int .i64 0], .int .i64 3]) (by simp [results, Tryz.results216, go_sem, e0, e1, e2, e3]) rfl ⟨rfl, ((((OO.out.setCell (.inr HN.out.2.1) _).setCell (.inr HN.out.2.1) _).setCell (.inr HN.out.2.1) _).setCell (.inr HN.out.2.1) _)⟩
      · obtain ⟨n0, n1⟩ := hn rfl
        obtain ⟨l0, l1⟩ := hl rfl
        by_cases hlt : now < d
        · have q3 : decide (now < d) = true := decide_eq_true hlt
          obtain rfl : res = (sm0, 12) := by have := HE.out; simpa [hlt] using this
          clear HE hb hn hl
          unfold sm0
          dsimp only
          go_enter Tryz.func216, Tryz.ntmps216
          go_upto_region 1 with (fail)
          refine wabs (G := fun w0 => Code.wp _ _ _ _ w0) (R := fun w1 => w1.heap[w.heap.size]? = some (.cells #[.int .i64 a, .int .i64 b, .int .i64 c, .int .i64 d] 157 (0, 0)) ∧ w1.heap[w.heap.size + 1]? = some (.cells #[.int .i64 0, .int .i64 0, .int .i64 0, .int .i64 0] 157 (0, 0)) ∧ Only [] w w1) ?_ ?_
          · skip
            have k0 := alloc_new w (.cells #[.int .i64 a, .int .i64 b, .int .i64 c, .int .i64 d] 157)
            have k1 := alloc_new (w.alloc (.cells #[.int .i64 a, .int .i64 b, .int .i64 c, .int .i64 d] 157)) (.cells #[.int .i64 0, .int .i64 0, .int .i64 0, .int .i64 0] 157)
            simp only [World.size_alloc] at k0 k1
            exact ⟨(alloc_old k0), k1, (((Only.refl [] w).alloc _).alloc _)⟩
          rintro w1 ⟨h1, h2, ho1⟩
          obtain ⟨b1, hb1⟩ : ∃ b, w.heap.size = b := ⟨_, rfl⟩
          obtain ⟨b2, hb2⟩ : ∃ b, w.heap.size + 1 = b := ⟨_, rfl⟩
          have HN : Hid (w.heap.size ≤ b1 ∧ w.heap.size ≤ b2 ∧ b1 ≠ b2 ∧ b2 ≠ b1) := Lib.hid (by omega)
          rw [hb1] at h1
          rw [hb2] at h2
          rw [show w.heap.size + 1 = b2 from hb2, hb1]
          have B1 := Lib.hid h1; have B2 := Lib.hid h2; have OO := Lib.hid ho1
          clear h1 h2 hb1 hb2
          clear ho1
          have k1 := c_4 B1.out; have k2 := c_4 B2.out
          go_wp2_with fail
          refine (HC.out _).mono ?_
          rintro e w2 ⟨rfl, ho⟩
          clear k1 k2
          replace OO := Lib.hid (OO.out.nil_trans ho); replace B1 := Lib.hid (ho.got B1.out (by simp)); replace B2 := Lib.hid (ho.got B2.out (by simp))
          clear ho
          have k1 := c_4 B1.out; have k2 := c_4 B2.out
          go_wp2_with fail
          refine (HT1.out _).mono ?_
          rintro e w3 ⟨rfl, ho⟩
          clear k1 k2
          replace OO := Lib.hid (OO.out.nil_trans ho); replace B1 := Lib.hid (ho.got B1.out (by simp)); replace B2 := Lib.hid (ho.got B2.out (by simp))
          clear ho
          have k1 := c_4 B1.out; have k2 := c_4 B2.out
          go_wp2_with fail
          refine (HT2.out _).mono ?_
          rintro e w4 ⟨rfl, ho⟩
          clear k1 k2
          replace OO := Lib.hid (OO.out.nil_trans ho); replace B1 := Lib.hid (ho.got B1.out (by simp)); replace B2 := Lib.hid (ho.got B2.out (by simp))
          clear ho
          have k1 := c_4 B1.out; have k2 := c_4 B2.out
          go_wp2
          have HD := setCell_got (o := 3) (.int .i64 0) (setCell_got (o := 2) (.int .i64 0) (setCell_got (o := 1) (.int .i64 0) (setCell_got (o := 0) (.int .i64 0) (B2.out))))
          have e0 := cell_got HD 0; have e1 := cell_got HD 1; have e2 := cell_got HD 2; have e3 := cell_got HD 3; have le := got_lt HD
          refine bodyPost_ret (v := .tuple #[.agg #[.int .i64 0, .int .i64 0, .int .i64 0, .int .i64 0], .int .i64 12]) (by simp [results, Tryz.results216, go_sem, e0, e1, e2, e3]) rfl ⟨rfl, ((((OO.out.setCell (.inr HN.out.2.1) _).setCell (.inr HN.out.2.1) _).setCell (.inr HN.out.2.1) _).setCell (.inr HN.out.2.1) _)⟩
        · have q3 : decide (now < d) = false := decide_eq_false hlt
          have hgb := grw_bd (d := now - d) (tol := tol) (by omega) (by omega) l0 l1
          have HG := Lib.hid (fun w' => pGrowth (now - d) tol (by omega) (by omega) l0 l1 w')
          have w0' : IntKind.i64.wrap (now - d) = now - d := by rw [IntKind.wrap_i64]; omega
          generalize grwS (now - d) tol = g at HE HG hgb
          obtain ⟨v, hv⟩ : ∃ v, c + g = v := ⟨_, rfl⟩
          have w1' : IntKind.i64.wrap (c + g) = v := by rw [IntKind.wrap_i64]; omega
          rw [hv] at HE
          have HC2 := Lib.hid (fun w' => pSChk ⟨a, b, v, now⟩ w'); have ho3 := schk_or ⟨a, b, v, now⟩
          generalize schk ⟨a, b, v, now⟩ = er2 at HC2 HE ho3
          unfold smV at HC2
          dsimp only at HC2
          clear hb hn hl hv
          by_cases hz2 : er2 = 0
          · subst hz2
            obtain rfl : res = (⟨a, b, v, now⟩, 0) := by have := HE.out; simpa [hlt] using this
            dsimp only
            clear HE hlt
            go_enter Tryz.func216, Tryz.ntmps216
            go_upto_region 1 with (fail)
            refine wabs (G := fun w0 => Code.wp _ _ _ _ w0) (R := fun w1 => w1.heap[w.heap.size]? = some (.cells #[.int .i64 a, .int .i64 b, .int .i64 c, .int .i64 d] 157 (0, 0)) ∧ w1.heap[w.heap.size + 1]? = some (.cells #[.int .i64 0, .int .i64 0, .int .i64 0, .int .i64 0] 157 (0, 0)) ∧ Only [] w w1) ?_ ?_
            · skip
              have k0 := alloc_new w (.cells #[.int .i64 a, .int .i64 b, .int .i64 c, .int .i64 d] 157)
              have k1 := alloc_new (w.alloc (.cells #[.int .i64 a, .int .i64 b, .int .i64 c, .int .i64 d] 157)) (.cells #[.int .i64 0, .int .i64 0, .int .i64 0, .int .i64 0] 157)
              simp only [World.size_alloc] at k0 k1
              exact ⟨(alloc_old k0), k1, (((Only.refl [] w).alloc _).alloc _)⟩
            rintro w1 ⟨h1, h2, ho1⟩
            obtain ⟨b1, hb1⟩ : ∃ b, w.heap.size = b := ⟨_, rfl⟩
            obtain ⟨b2, hb2⟩ : ∃ b, w.heap.size + 1 = b := ⟨_, rfl⟩
            have HN : Hid (w.heap.size ≤ b1 ∧ w.heap.size ≤ b2 ∧ b1 ≠ b2 ∧ b2 ≠ b1) := Lib.hid (by omega)
            rw [hb1] at h1
            rw [hb2] at h2
            rw [show w.heap.size + 1 = b2 from hb2, hb1]
            have B1 := Lib.hid h1; have B2 := Lib.hid h2; have OO := Lib.hid ho1
            clear h1 h2 hb1 hb2
            clear ho1
            have k1 := c_4 B1.out; have k2 := c_4 B2.out
            go_wp2_with fail
            refine (HC.out _).mono ?_
            rintro e w2 ⟨rfl, ho⟩
            clear k1 k2
            replace OO := Lib.hid (OO.out.nil_trans ho); replace B1 := Lib.hid (ho.got B1.out (by simp)); replace B2 := Lib.hid (ho.got B2.out (by simp))
            clear ho
            have k1 := c_4 B1.out; have k2 := c_4 B2.out
            go_wp2_with fail
            refine (HT1.out _).mono ?_
            rintro e w3 ⟨rfl, ho⟩
            clear k1 k2
            replace OO := Lib.hid (OO.out.nil_trans ho); replace B1 := Lib.hid (ho.got B1.out (by simp)); replace B2 := Lib.hid (ho.got B2.out (by simp))
            clear ho
            have k1 := c_4 B1.out; have k2 := c_4 B2.out
            go_wp2_with fail
            refine (HT2.out _).mono ?_
            rintro e w4 ⟨rfl, ho⟩
            clear k1 k2
            replace OO := Lib.hid (OO.out.nil_trans ho); replace B1 := Lib.hid (ho.got B1.out (by simp)); replace B2 := Lib.hid (ho.got B2.out (by simp))
            clear ho
            have k1 := c_4 B1.out; have k2 := c_4 B2.out
            go_upto_region 5 with (fail)
            refine wp_region_grown [0, 1, 2, 3, 4, 5, 6, 7, 8] [9, 10] (by kernel_rfl) (by kernel_rfl) ?_
            simp only [pick, List.map_cons, List.map_nil, List.getD_cons_succ, List.getD_cons_zero]
            iterate 7 (refine wpQuiet_step (fun K hK => ?_); go_simp; refine hK _ ?_; clear hK K)
            refine wpQuiet_enter_w (by kernel_rfl) 147 #[.int .i64 (now - d), .int .i64 tol] (fun _ => by kernel_rfl) (.int .i64 g) (grown_only2 (fun w' hw' => HG.out w')) ?_
            iterate 1 (refine wpQuiet_step (fun K hK => ?_); go_simp; refine hK _ ?_; clear hK K)
            refine wpQuiet_nil ?_
            intro w5 hw
            have ho := only_of_plus hw
            clear hw
            clear k1 k2
            replace OO := Lib.hid (OO.out.nil_trans ho); replace B1 := Lib.hid (ho.got B1.out (by simp)); replace B2 := Lib.hid (ho.got B2.out (by simp))
            have k1 := c_4 B1.out; have k2 := c_4 B2.out
            clear ho
            go_upto_region 7 with (fail)
            refine wabs (G := fun w0 => Code.wp _ _ _ _ w0) (R := fun w6 => w6.heap[b1]? = some (.cells #[.int .i64 a, .int .i64 b, .int .i64 v, .int .i64 now] 157 (0, 0)) ∧ w6.heap[b2]? = some (.cells #[.int .i64 0, .int .i64 0, .int .i64 0, .int .i64 0] 157 (0, 0)) ∧ Only [] w w6) ⟨(setCell_got (o := 3) (.int .i64 now) (setCell_got (o := 2) (.int .i64 v) B1.out)), (setCell_oth (.int .i64 now) (setCell_oth (.int .i64 v) B2.out HN.out.2.2.2) HN.out.2.2.2), ((OO.out.setCell (.inr HN.out.1) _).setCell (.inr HN.out.1) _)⟩ ?_
            rintro w6 ⟨g1, g2, ho⟩
            clear k1 k2
            replace B1 := Lib.hid g1; replace B2 := Lib.hid g2; replace OO := Lib.hid ho
            clear ho g1 g2
            have k1 := c_4 B1.out; have k2 := c_4 B2.out
            go_wp2_with fail
            refine (HC2.out _).mono ?_
            rintro e w7 ⟨rfl, ho⟩
            clear k1 k2
            replace OO := Lib.hid (OO.out.nil_trans ho); replace B1 := Lib.hid (ho.got B1.out (by simp)); replace B2 := Lib.hid (ho.got B2.out (by simp))
            clear ho
            have k1 := c_4 B1.out; have k2 := c_4 B2.out
            go_wp2
            have HD := setCell_got (o := 3) (.int .i64 now) (setCell_got (o := 2) (.int .i64 v) (setCell_got (o := 1) (.int .i64 b) (setCell_got (o := 0) (.int .i64 a) (B2.out))))
            have e0 := cell_got HD 0; have e1 := cell_got HD 1; have e2 := cell_got HD 2; have e3 := cell_got HD 3; have le := got_lt HD
            refine bodyPost_ret (v := .tuple #[.agg #[.int .i64 a, .int .i64 b, .int .i64 v, .int .i64 now], .int .i64 0]) (by simp [results, Tryz.results216, go_sem, e0, e1, e2, e3]) rfl ⟨rfl, ((((OO.out.setCell (.inr HN.out.2.1) _).setCell (.inr HN.out.2.1) _).setCell (.inr HN.out.2.1) _).setCell (.inr HN.out.2.1) _)⟩
          · obtain rfl : er2 = 3 := by omega
            obtain rfl : res = (sm0, 3) := by have := HE.out; simpa [hlt] using this
            unfold sm0
            dsimp only
            clear HE hlt
            go_enter Tryz.func216, Tryz.ntmps216
            go_upto_region 1 with (fail)
            refine wabs (G := fun w0 => Code.wp _ _ _ _ w0) (R := fun w1 => w1.heap[w.heap.size]? = some (.cells #[.int .i64 a, .int .i64 b, .int .i64 c, .int .i64 d] 157 (0, 0)) ∧ w1.heap[w.heap.size + 1]? = some (.cells #[.int .i64 0, .int .i64 0, .int .i64 0, .int .i64 0] 157 (0, 0)) ∧ Only [] w w1) ?_ ?_
            · skip
              have k0 := alloc_new w (.cells #[.int .i64 a, .int .i64 b, .int .i64 c, .int .i64 d] 157)
              have k1 := alloc_new (w.alloc (.cells #[.int .i64 a, .int .i64 b, .int .i64 c, .int .i64 d] 157)) (.cells #[.int .i64 0, .int .i64 0, .int .i64 0, .int .i64 0] 157)
              simp only [World.size_alloc] at k0 k1
              exact ⟨(alloc_old k0), k1, (((Only.refl [] w).alloc _).alloc _)⟩
            rintro w1 ⟨h1, h2, ho1⟩
            obtain ⟨b1, hb1⟩ : ∃ b, w.heap.size = b := ⟨_, rfl⟩
            obtain ⟨b2, hb2⟩ : ∃ b, w.heap.size + 1 = b := ⟨_, rfl⟩
            have HN : Hid (w.heap.size ≤ b1 ∧ w.heap.size ≤ b2 ∧ b1 ≠ b2 ∧ b2 ≠ b1) := Lib.hid (by omega)
            rw [hb1] at h1
            rw [hb2] at h2
            rw [show w.heap.size + 1 = b2 from hb2, hb1]
            have B1 := Lib.hid h1; have B2 := Lib.hid h2; have OO := Lib.hid ho1
            clear h1 h2 hb1 hb2
            clear ho1
            have k1 := c_4 B1.out; have k2 := c_4 B2.out
            go_wp2_with fail
            refine (HC.out _).mono ?_
            rintro e w2 ⟨rfl, ho⟩
            clear k1 k2
            replace OO := Lib.hid (OO.out.nil_trans ho); replace B1 := Lib.hid (ho.got B1.out (by simp)); replace B2 := Lib.hid (ho.got B2.out (by simp))
            clear ho
            have k1 := c_4 B1.out; have k2 := c_4 B2.out
            go_wp2_with fail
            refine (HT1.out _).mono ?_
            rintro e w3 ⟨rfl, ho⟩
            clear k1 k2
            replace OO := Lib.hid (OO.out.nil_trans ho); replace B1 := Lib.hid (ho.got B1.out (by simp)); replace B2 := Lib.hid (ho.got B2.out (by simp))
            clear ho
            have k1 := c_4 B1.out; have k2 := c_4 B2.out
            go_wp2_with fail
            refine (HT2.out _).mono ?_
            rintro e w4 ⟨rfl, ho⟩
            clear k1 k2
            replace OO := Lib.hid (OO.out.nil_trans ho); replace B1 := Lib.hid (ho.got B1.out (by simp)); replace B2 := Lib.hid (ho.got B2.out (by simp))
            clear ho
            have k1 := c_4 B1.out; have k2 := c_4 B2.out
            go_upto_region 5 with (fail)
            refine wp_region_grown [0, 1, 2, 3, 4, 5, 6, 7, 8] [9, 10] (by kernel_rfl) (by kernel_rfl) ?_
            simp only [pick, List.map_cons, List.map_nil, List.getD_cons_succ, List.getD_cons_zero]
            iterate 7 (refine wpQuiet_step (fun K hK => ?_); go_simp; refine hK _ ?_; clear hK K)
            refine wpQuiet_enter_w (by kernel_rfl) 147 #[.int .i64 (now - d), .int .i64 tol] (fun _ => by kernel_rfl) (.int .i64 g) (grown_only2 (fun w' hw' => HG.out w')) ?_
            iterate 1 (refine wpQuiet_step (fun K hK => ?_); go_simp; refine hK _ ?_; clear hK K)
            refine wpQuiet_nil ?_
            intro w5 hw
            have ho := only_of_plus hw
            clear hw
            clear k1 k2
            replace OO := Lib.hid (OO.out.nil_trans ho); replace B1 := Lib.hid (ho.got B1.out (by simp)); replace B2 := Lib.hid (ho.got B2.out (by simp))
            have k1 := c_4 B1.out; have k2 := c_4 B2.out
            clear ho
            go_upto_region 7 with (fail)
            refine wabs (G := fun w0 => Code.wp _ _ _ _ w0) (R := fun w6 => w6.heap[b1]? = some (.cells #[.int .i64 a, .int .i64 b, .int .i64 v, .int .i64 now] 157 (0, 0)) ∧ w6.heap[b2]? = some (.cells #[.int .i64 0, .int .i64 0, .int .i64 0, .int .i64 0] 157 (0, 0)) ∧ Only [] w w6) ⟨(setCell_got (o := 3) (.int .i64 now) (setCell_got (o := 2) (.int .i64 v) B1.out)), (setCell_oth (.int .i64 now) (setCell_oth (.int .i64 v) B2.out HN.out.2.2.2) HN.out.2.2.2), ((OO.out.setCell (.inr HN.out.1) _).setCell (.inr HN.out.1) _)⟩ ?_
            rintro w6 ⟨g1, g2, ho⟩
            clear k1 k2
            replace B1 := Lib.hid g1; replace B2 := Lib.hid g2; replace OO := Lib.hid ho
            clear ho g1 g2
            have k1 := c_4 B1.out; have k2 := c_4 B2.out
            go_wp2_with fail
            refine (HC2.out _).mono ?_
            rintro e w7 ⟨rfl, ho⟩
            clear k1 k2
            replace OO := Lib.hid (OO.out.nil_trans ho); replace B1 := Lib.hid (ho.got B1.out (by simp)); replace B2 := Lib.hid (ho.got B2.out (by simp))
            clear ho
            have k1 := c_4 B1.out; have k2 := c_4 B2.out
            go_wp2
            have HD := setCell_got (o := 3) (.int .i64 0) (setCell_got (o := 2) (.int .i64 0) (setCell_got (o := 1) (.int .i64 0) (setCell_got (o := 0) (.int .i64 0) (B2.out))))
            have e0 := cell_got HD 0; have e1 := cell_got HD 1; have e2 := cell_got HD 2; have e3 := cell_got HD 3; have le := got_lt HD
            refine bodyPost_ret (v := .tuple #[.agg #[.int .i64 0, .int .i64 0, .int .i64 0, .int .i64 0], .int .i64 3]) (by simp [results, Tryz.results216, go_sem, e0, e1, e2, e3]) rfl ⟨rfl, ((((OO.out.setCell (.inr HN.out.2.1) _).setCell (.inr HN.out.2.1) _).setCell (.inr HN.out.2.1) _).setCell (.inr HN.out.2.1) _)⟩
  · have q1 : (er != 0) = true := by simpa using hz
    obtain rfl : res = (sm0, 3) := by have := HE.out; simpa [hz] using this
    clear HE hb hn hl
    unfold sm0
    dsimp only
    go_enter Tryz.func216, Tryz.ntmps216
    go_upto_region 1 with (fail)
    refine wabs (G := fun w0 => Code.wp _ _ _ _ w0) (R := fun w1 => w1.heap[w.heap.size]? = some (.cells #[.int .i64 a, .int .i64 b, .int .i64 c, .int .i64 d] 157 (0, 0)) ∧ w1.heap[w.heap.size + 1]? = some (.cells #[.int .i64 0, .int .i64 0, .int .i64 0, .int .i64 0] 157 (0, 0)) ∧ Only [] w w1) ?_ ?_
    · skip
      have k0 := alloc_new w (.cells #[.int .i64 a, .int .i64 b, .int .i64 c, .int .i64 d] 157)
      have k1 := alloc_new (w.alloc (.cells #[.int .i64 a, .int .i64 b, .int .i64 c, .int .i64 d] 157)) (.cells #[.int .i64 0, .int .i64 0, .int .i64 0, .int .i64 0] 157)
      simp only [World.size_alloc] at k0 k1
      exact ⟨(alloc_old k0), k1, (((Only.refl [] w).alloc _).alloc _)⟩
    rintro w1 ⟨h1, h2, ho1⟩
    obtain ⟨b1, hb1⟩ : ∃ b, w.heap.size = b := ⟨_, rfl⟩
    obtain ⟨b2, hb2⟩ : ∃ b, w.heap.size + 1 = b := ⟨_, rfl⟩
    have HN : Hid (w.heap.size ≤ b1 ∧ w.heap.size ≤ b2 ∧ b1 ≠ b2 ∧ b2 ≠ b1) := Lib.hid (by omega)
    rw [hb1] at h1
    rw [hb2] at h2
    rw [show w.heap.size + 1 = b2 from hb2, hb1]
    have B1 := Lib.hid h1; have B2 := Lib.hid h2; have OO := Lib.hid ho1
    clear h1 h2 hb1 hb2
    clear ho1
    have k1 := c_4 B1.out; have k2 := c_4 B2.out
    go_wp2_with fail
    refine (HC.out _).mono ?_
    rintro e w2 ⟨rfl, ho⟩
    clear k1 k2
    replace OO := Lib.hid (OO.out.nil_trans ho); replace B1 := Lib.hid (ho.got B1.out (by simp)); replace B2 := Lib.hid (ho.got B2.out (by simp))
    clear ho
    have k1 := c_4 B1.out; have k2 := c_4 B2.out
    go_wp2
    have HD := setCell_got (o := 3) (.int .i64 0) (setCell_got (o := 2) (.int .i64 0) (setCell_got (o := 1) (.int .i64 0) (setCell_got (o := 0) (.int .i64 0) (B2.out))))
    have e0 := cell_got HD 0; have e1 := cell_got HD 1; have e2 := cell_got HD 2; have e3 := cell_got HD 3; have le := got_lt HD
    refine bodyPost_ret (v := .tuple #[.agg #[.int .i64 0, .int .i64 0, .int .i64 0, .int .i64 0], .int .i64 3]) (by simp [results, Tryz.results216, go_sem, e0, e1, e2, e3]) rfl ⟨rfl, ((((OO.out.setCell (.inr HN.out.2.1) _).setCell (.inr HN.out.2.1) _).setCell (.inr HN.out.2.1) _).setCell (.inr HN.out.2.1) _)⟩
end Go.Proofs.YtikjdmbfjkbndaaGreat
