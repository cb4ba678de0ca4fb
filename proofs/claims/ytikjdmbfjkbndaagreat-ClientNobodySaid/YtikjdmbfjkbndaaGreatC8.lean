/- The walk of root.Join. Conditions: the header's words fit. -/
import Derived.Test.YtikjdmbfjkbndaaGreatC7
namespace Go.Proofs.YtikjdmbfjkbndaaGreat
open Go.RowKit

set_option maxRecDepth 100000 in
set_option maxHeartbeats 2000000 in
theorem pJoin (p : Np) (s : Smp) (id : Int) (hp : npOk p) (w : World) :
    Calls Tryz.prog 83 #[npV p, smV s, .int .u32 id] w fun e w' => e = .returned (.tuple #[roV (ojoin p s id).1, .int .i64 (ojoin p s id).2]) ∧ Only [] w w' := by
  obtain ⟨p1, p2, p3, p4, p5, p6, p7, p8, p9, pa, pb, pc, pd⟩ := p
  obtain ⟨a, b, c, d⟩ := s
  obtain ⟨⟨n1, n2⟩, ⟨n3, n4⟩, _⟩ := hp
  dsimp only at n1 n2 n3 n4
  have HN0 := Lib.hid (fun w' => pNChk ⟨p1, p2, p3, p4, p5, p6, p7, p8, p9, pa, pb, pc, pd⟩ w')
  have HS0 := Lib.hid (fun w' => pSChk ⟨a, b, c, d⟩ w')
  have HY0 := Lib.hid (fun w' => pNSync ⟨p1, p2, p3, p4, p5, p6, p7, p8, p9, pa, pb, pc, pd⟩ w')
  have hno : nchk ⟨p1, p2, p3, p4, p5, p6, p7, p8, p9, pa, pb, pc, pd⟩ = 0 ∨ nchk ⟨p1, p2, p3, p4, p5, p6, p7, p8, p9, pa, pb, pc, pd⟩ = 3 := by unfold nchk; split <;> simp
  have hnb := fun (h : nchk ⟨p1, p2, p3, p4, p5, p6, p7, p8, p9, pa, pb, pc, pd⟩ = 0) => show 0 ≤ p4 ∧ p4 ≤ 255 from (by
    unfold nchk at h
    split at h
    · rename_i hh
      simp only [Bool.and_eq_true, wth_iff] at hh
      exact hh.2.2.2.1
    · exact absurd h (by decide))
  have hso := schk_or ⟨a, b, c, d⟩
  have hsb := fun h => schk_ok.1 (show schk ⟨a, b, c, d⟩ = 0 from h)
  have HE : Hid (ojoin ⟨p1, p2, p3, p4, p5, p6, p7, p8, p9, pa, pb, pc, pd⟩ ⟨a, b, c, d⟩ id = if nchk ⟨p1, p2, p3, p4, p5, p6, p7, p8, p9, pa, pb, pc, pd⟩ = 0 ∧ schk ⟨a, b, c, d⟩ = 0 then (if nsync ⟨p1, p2, p3, p4, p5, p6, p7, p8, p9, pa, pb, pc, pd⟩ = true then (if ochk ⟨p4 + 1, lngS p7 + b, lngS p8 + c + max a (-a), id⟩ = 0 then (⟨p4 + 1, lngS p7 + b, lngS p8 + c + max a (-a), id⟩, 0) else (ro0, 3)) else (ro0, 15)) else (ro0, 2)) := Lib.hid rfl
  generalize ojoin ⟨p1, p2, p3, p4, p5, p6, p7, p8, p9, pa, pb, pc, pd⟩ ⟨a, b, c, d⟩ id = res at HE ⊢
  generalize nchk ⟨p1, p2, p3, p4, p5, p6, p7, p8, p9, pa, pb, pc, pd⟩ = en at HN0 HE hno hnb
  generalize nsync ⟨p1, p2, p3, p4, p5, p6, p7, p8, p9, pa, pb, pc, pd⟩ = sy at HY0 HE
  generalize schk ⟨a, b, c, d⟩ = es at HS0 HE hso hsb
  unfold npV at HN0 HY0 ⊢
  unfold smV at HS0 ⊢
  unfold roV
  dsimp only at HN0 HY0 HS0 hsb ⊢
  rcases hno with rfl | rfl
  rotate_left
  · obtain rfl : res = (ro0, 2) := by have := HE.out; simpa using this
    clear HE hnb hsb
    go_enter Tryz.func83, Tryz.ntmps83
    go_upto_region 1 with (fail)
    refine wabs (G := fun w0 => Code.wp _ _ _ _ w0) (R := fun w1 => w1.heap[w.heap.size]? = some (.cells #[.int .i64 p1, .int .i64 p2, .int .i64 p3, .int .i64 p4, .int .i64 p5, .int .i64 p6, .int .u32 p7, .int .u32 p8, .int .u32 p9, .int .u64 pa, .int .u64 pb, .int .u64 pc, .int .u64 pd] 33 (0, 0)) ∧ w1.heap[w.heap.size + 1]? = some (.cells #[.int .i64 a, .int .i64 b, .int .i64 c, .int .i64 d] 157 (0, 0)) ∧ w1.heap[w.heap.size + 2]? = some (.cells #[.int .i64 0, .int .i64 0, .int .i64 0, .int .u32 0] 88 (0, 0)) ∧ Only [] w w1) ?_ ?_
    · skip
      have k0 := alloc_new w (.cells #[.int .i64 p1, .int .i64 p2, .int .i64 p3, .int .i64 p4, .int .i64 p5, .int .i64 p6, .int .u32 p7, .int .u32 p8, .int .u32 p9, .int .u64 pa, .int .u64 pb, .int .u64 pc, .int .u64 pd] 33)
      have k1 := alloc_new (w.alloc (.cells #[.int .i64 p1, .int .i64 p2, .int .i64 p3, .int .i64 p4, .int .i64 p5, .int .i64 p6, .int .u32 p7, .int .u32 p8, .int .u32 p9, .int .u64 pa, .int .u64 pb, .int .u64 pc, .int .u64 pd] 33)) (.cells #[.int .i64 a, .int .i64 b, .int .i64 c, .int .i64 d] 157)
      have k2 := alloc_new ((w.alloc (.cells #[.int .i64 p1, .int .i64 p2, .int .i64 p3, .int .i64 p4, .int .i64 p5, .int .i64 p6, .int .u32 p7, .int .u32 p8, .int .u32 p9, .int .u64 pa, .int .u64 pb, .int .u64 pc, .int .u64 pd] 33)).alloc (.cells #[.int .i64 a, .int .i64 b, .int .i64 c, .int .i64 d] 157)) (.cells #[.int .i64 0, .int .i64 0, .int .i64 0, .int .u32 0] 88)
      simp only [World.size_alloc] at k0 k1 k2
      exact ⟨(alloc_old (alloc_old k0)), (alloc_old k1), k2, ((((Only.refl [] w).alloc _).alloc _).alloc _)⟩
    rintro w1 ⟨h1, h2, h3, ho1⟩
    obtain ⟨b1, hb1⟩ : ∃ b, w.heap.size = b := ⟨_, rfl⟩
    obtain ⟨b2, hb2⟩ : ∃ b, w.heap.size + 1 = b := ⟨_, rfl⟩
    obtain ⟨b3, hb3⟩ : ∃ b, w.heap.size + 2 = b := ⟨_, rfl⟩
    have HN : Hid (w.heap.size ≤ b1 ∧ w.heap.size ≤ b2 ∧ w.heap.size ≤ b3 ∧ b1 ≠ b2 ∧ b2 ≠ b1 ∧ b1 ≠ b3 ∧ b3 ≠ b1 ∧ b2 ≠ b3 ∧ b3 ≠ b2) := Lib.hid (by omega)
    rw [hb1] at h1
    rw [hb2] at h2
    rw [hb3] at h3
    rw [show w.heap.size + 1 + 1 = b3 from hb3, show w.heap.size + 1 = b2 from hb2, hb1]
    have B1 := Lib.hid h1; have B2 := Lib.hid h2; have B3 := Lib.hid h3; have OO := Lib.hid ho1
    clear h1 h2 h3 hb1 hb2 hb3
    clear ho1
    have k1 := c_13 B1.out; have k2 := c_4 B2.out; have k3 := c_4 B3.out
    go_wp2_with fail
    refine (HN0.out _).mono ?_
    rintro e w2 ⟨rfl, ho⟩
    clear k1 k2 k3
    replace OO := Lib.hid (OO.out.nil_trans ho); replace B1 := Lib.hid (ho.got B1.out (by simp)); replace B2 := Lib.hid (ho.got B2.out (by simp)); replace B3 := Lib.hid (ho.got B3.out (by simp))
    clear ho
    have k1 := c_13 B1.out; have k2 := c_4 B2.out; have k3 := c_4 B3.out
    go_wp2
    have HD := setCell_got (o := 3) (.int .u32 0) (setCell_got (o := 2) (.int .i64 0) (setCell_got (o := 1) (.int .i64 0) (setCell_got (o := 0) (.int .i64 0) (B3.out))))
    have e0 := cell_got HD 0; have e1 := cell_got HD 1; have e2 := cell_got HD 2; have e3 := cell_got HD 3; have le := got_lt HD
    refine bodyPost_ret (v := .tuple #[.agg #[.int .i64 0, .int .i64 0, .int .i64 0, .int .u32 0], .int .i64 2]) (by simp [results, Tryz.results83, go_sem, e0, e1, e2, e3]) rfl ⟨rfl, ((((OO.out.setCell (.inr HN.out.2.2.1) _).setCell (.inr HN.out.2.2.1) _).setCell (.inr HN.out.2.2.1) _).setCell (.inr HN.out.2.2.1) _)⟩
  obtain ⟨x0, x1⟩ := hnb rfl
  rcases hso with rfl | rfl
  rotate_left
  · obtain rfl : res = (ro0, 2) := by have := HE.out; simpa using this
    clear HE hnb hsb
    go_enter Tryz.func83, Tryz.ntmps83
    go_upto_region 1 with (fail)
    refine wabs (G := fun w0 => Code.wp _ _ _ _ w0) (R := fun w1 => w1.heap[w.heap.size]? = some (.cells #[.int .i64 p1, .int .i64 p2, .int .i64 p3, .int .i64 p4, .int .i64 p5, .int .i64 p6, .int .u32 p7, .int .u32 p8, .int .u32 p9, .int .u64 pa, .int .u64 pb, .int .u64 pc, .int .u64 pd] 33 (0, 0)) ∧ w1.heap[w.heap.size + 1]? = some (.cells #[.int .i64 a, .int .i64 b, .int .i64 c, .int .i64 d] 157 (0, 0)) ∧ w1.heap[w.heap.size + 2]? = some (.cells #[.int .i64 0, .int .i64 0, .int .i64 0, .int .u32 0] 88 (0, 0)) ∧ Only [] w w1) ?_ ?_
    · skip
      have k0 := alloc_new w (.cells #[.int .i64 p1, .int .i64 p2, .int .i64 p3, .int .i64 p4, .int .i64 p5, .int .i64 p6, .int .u32 p7, .int .u32 p8, .int .u32 p9, .int .u64 pa, .int .u64 pb, .int .u64 pc, .int .u64 pd] 33)
      have k1 := alloc_new (w.alloc (.cells #[.int .i64 p1, .int .i64 p2, .int .i64 p3, .int .i64 p4, .int .i64 p5, .int .i64 p6, .int .u32 p7, .int .u32 p8, .int .u32 p9, .int .u64 pa, .int .u64 pb, .int .u64 pc, .int .u64 pd] 33)) (.cells #[.int .i64 a, .int .i64 b, .int .i64 c, .int .i64 d] 157)
      have k2 := alloc_new ((w.alloc (.cells #[.int .i64 p1, .int .i64 p2, .int .i64 p3, .int .i64 p4, .int .i64 p5, .int .i64 p6, .int .u32 p7, .int .u32 p8, .int .u32 p9, .int .u64 pa, .int .u64 pb, .int .u64 pc, .int .u64 pd] 33)).alloc (.cells #[.int .i64 a, .int .i64 b, .int .i64 c, .int .i64 d] 157)) (.cells #[.int .i64 0, .int .i64 0, .int .i64 0, .int .u32 0] 88)
      simp only [World.size_alloc] at k0 k1 k2
      exact ⟨(alloc_old (alloc_old k0)), (alloc_old k1), k2, ((((Only.refl [] w).alloc _).alloc _).alloc _)⟩
    rintro w1 ⟨h1, h2, h3, ho1⟩
    obtain ⟨b1, hb1⟩ : ∃ b, w.heap.size = b := ⟨_, rfl⟩
    obtain ⟨b2, hb2⟩ : ∃ b, w.heap.size + 1 = b := ⟨_, rfl⟩
    obtain ⟨b3, hb3⟩ : ∃ b, w.heap.size + 2 = b := ⟨_, rfl⟩
    have HN : Hid (w.heap.size ≤ b1 ∧ w.heap.size ≤ b2 ∧ w.heap.size ≤ b3 ∧ b1 ≠ b2 ∧ b2 ≠ b1 ∧ b1 ≠ b3 ∧ b3 ≠ b1 ∧ b2 ≠ b3 ∧ b3 ≠ b2) := Lib.hid (by omega)
    rw [hb1] at h1
    rw [hb2] at h2
    rw [hb3] at h3
    rw [show w.heap.size + 1 + 1 = b3 from hb3, show w.heap.size + 1 = b2 from hb2, hb1]
    have B1 := Lib.hid h1; have B2 := Lib.hid h2; have B3 := Lib.hid h3; have OO := Lib.hid ho1
    clear h1 h2 h3 hb1 hb2 hb3
    clear ho1
    have k1 := c_13 B1.out; have k2 := c_4 B2.out; have k3 := c_4 B3.out
    go_wp2_with fail
    refine (HN0.out _).mono ?_
    rintro e w2 ⟨rfl, ho⟩
    clear k1 k2 k3
    replace OO := Lib.hid (OO.out.nil_trans ho); replace B1 := Lib.hid (ho.got B1.out (by simp)); replace B2 := Lib.hid (ho.got B2.out (by simp)); replace B3 := Lib.hid (ho.got B3.out (by simp))
    clear ho
    have k1 := c_13 B1.out; have k2 := c_4 B2.out; have k3 := c_4 B3.out
    go_wp2_with fail
    refine (HS0.out _).mono ?_
    rintro e w3 ⟨rfl, ho⟩
    clear k1 k2 k3
    replace OO := Lib.hid (OO.out.nil_trans ho); replace B1 := Lib.hid (ho.got B1.out (by simp)); replace B2 := Lib.hid (ho.got B2.out (by simp)); replace B3 := Lib.hid (ho.got B3.out (by simp))
    clear ho
    have k1 := c_13 B1.out; have k2 := c_4 B2.out; have k3 := c_4 B3.out
    go_wp2
    have HD := setCell_got (o := 3) (.int .u32 0) (setCell_got (o := 2) (.int .i64 0) (setCell_got (o := 1) (.int .i64 0) (setCell_got (o := 0) (.int .i64 0) (B3.out))))
    have e0 := cell_got HD 0; have e1 := cell_got HD 1; have e2 := cell_got HD 2; have e3 := cell_got HD 3; have le := got_lt HD
    refine bodyPost_ret (v := .tuple #[.agg #[.int .i64 0, .int .i64 0, .int .i64 0, .int .u32 0], .int .i64 2]) (by simp [results, Tryz.results83, go_sem, e0, e1, e2, e3]) rfl ⟨rfl, ((((OO.out.setCell (.inr HN.out.2.2.1) _).setCell (.inr HN.out.2.2.1) _).setCell (.inr HN.out.2.2.1) _).setCell (.inr HN.out.2.2.1) _)⟩
  obtain ⟨⟨a0, a1⟩, ⟨b0, b1⟩, ⟨c0, c1⟩, _, _⟩ := hsb rfl
  clear hnb hsb
  cases sy
  · obtain rfl : res = (ro0, 15) := by have := HE.out; simpa using this
    clear HE
    go_enter Tryz.func83, Tryz.ntmps83
    go_upto_region 1 with (fail)
    refine wabs (G := fun w0 => Code.wp _ _ _ _ w0) (R := fun w1 => w1.heap[w.heap.size]? = some (.cells #[.int .i64 p1, .int .i64 p2, .int .i64 p3, .int .i64 p4, .int .i64 p5, .int .i64 p6, .int .u32 p7, .int .u32 p8, .int .u32 p9, .int .u64 pa, .int .u64 pb, .int .u64 pc, .int .u64 pd] 33 (0, 0)) ∧ w1.heap[w.heap.size + 1]? = some (.cells #[.int .i64 a, .int .i64 b, .int .i64 c, .int .i64 d] 157 (0, 0)) ∧ w1.heap[w.heap.size + 2]? = some (.cells #[.int .i64 0, .int .i64 0, .int .i64 0, .int .u32 0] 88 (0, 0)) ∧ Only [] w w1) ?_ ?_
    · skip
      have k0 := alloc_new w (.cells #[.int .i64 p1, .int .i64 p2, .int .i64 p3, .int .i64 p4, .int .i64 p5, .int .i64 p6, .int .u32 p7, .int .u32 p8, .int .u32 p9, .int .u64 pa, .int .u64 pb, .int .u64 pc, .int .u64 pd] 33)
      have k1 := alloc_new (w.alloc (.cells #[.int .i64 p1, .int .i64 p2, .int .i64 p3, .int .i64 p4, .int .i64 p5, .int .i64 p6, .int .u32 p7, .int .u32 p8, .int .u32 p9, .int .u64 pa, .int .u64 pb, .int .u64 pc, .int .u64 pd] 33)) (.cells #[.int .i64 a, .int .i64 b, .int .i64 c, .int .i64 d] 157)
      have k2 := alloc_new ((w.alloc (.cells #[.int .i64 p1, .int .i64 p2, .int .i64 p3, .int .i64 p4, .int .i64 p5, .int .i64 p6, .int .u32 p7, .int .u32 p8, .int .u32 p9, .int .u64 pa, .int .u64 pb, .int .u64 pc, .int .u64 pd] 33)).alloc (.cells #[.int .i64 a, .int .i64 b, .int .i64 c, .int .i64 d] 157)) (.cells #[.int .i64 0, .int .i64 0, .int .i64 0, .int .u32 0] 88)
      simp only [World.size_alloc] at k0 k1 k2
      exact ⟨(alloc_old (alloc_old k0)), (alloc_old k1), k2, ((((Only.refl [] w).alloc _).alloc _).alloc _)⟩
    rintro w1 ⟨h1, h2, h3, ho1⟩
    obtain ⟨b1, hb1⟩ : ∃ b, w.heap.size = b := ⟨_, rfl⟩
    obtain ⟨b2, hb2⟩ : ∃ b, w.heap.size + 1 = b := ⟨_, rfl⟩
    obtain ⟨b3, hb3⟩ : ∃ b, w.heap.size + 2 = b := ⟨_, rfl⟩
    have HN : Hid (w.heap.size ≤ b1 ∧ w.heap.size ≤ b2 ∧ w.heap.size ≤ b3 ∧ b1 ≠ b2 ∧ b2 ≠ b1 ∧ b1 ≠ b3 ∧ b3 ≠ b1 ∧ b2 ≠ b3 ∧ b3 ≠ b2) := Lib.hid (by omega)
    rw [hb1] at h1
    rw [hb2] at h2
    rw [hb3] at h3
    rw [show w.heap.size + 1 + 1 = b3 from hb3, show w.heap.size + 1 = b2 from hb2, hb1]
    have B1 := Lib.hid h1; have B2 := Lib.hid h2; have B3 := Lib.hid h3; have OO := Lib.hid ho1
    clear h1 h2 h3 hb1 hb2 hb3
    clear ho1
    have k1 := c_13 B1.out; have k2 := c_4 B2.out; have k3 := c_4 B3.out
    go_wp2_with fail
    refine (HN0.out _).mono ?_
    rintro e w2 ⟨rfl, ho⟩
    clear k1 k2 k3
    replace OO := Lib.hid (OO.out.nil_trans ho); replace B1 := Lib.hid (ho.got B1.out (by simp)); replace B2 := Lib.hid (ho.got B2.out (by simp)); replace B3 := Lib.hid (ho.got B3.out (by simp))
    clear ho
    have k1 := c_13 B1.out; have k2 := c_4 B2.out; have k3 := c_4 B3.out
    go_wp2_with fail
    refine (HS0.out _).mono ?_
    rintro e w3 ⟨rfl, ho⟩
    clear k1 k2 k3
    replace OO := Lib.hid (OO.out.nil_trans ho); replace B1 := Lib.hid (ho.got B1.out (by simp)); replace B2 := Lib.hid (ho.got B2.out (by simp)); replace B3 := Lib.hid (ho.got B3.out (by simp))
    clear ho
    have k1 := c_13 B1.out; have k2 := c_4 B2.out; have k3 := c_4 B3.out
    go_wp2_with fail
    refine (HY0.out _).mono ?_
    rintro e w4 ⟨rfl, ho⟩
    clear k1 k2 k3
    replace OO := Lib.hid (OO.out.nil_trans ho); replace B1 := Lib.hid (ho.got B1.out (by simp)); replace B2 := Lib.hid (ho.got B2.out (by simp)); replace B3 := Lib.hid (ho.got B3.out (by simp))
    clear ho
    have k1 := c_13 B1.out; have k2 := c_4 B2.out; have k3 := c_4 B3.out
    go_wp2
    have HD := setCell_got (o := 3) (.int .u32 0) (setCell_got (o := 2) (.int .i64 0) (setCell_got (o := 1) (.int .i64 0) (setCell_got (o := 0) (.int .i64 0) (B3.out))))
    have e0 := cell_got HD 0; have e1 := cell_got HD 1; have e2 := cell_got HD 2; have e3 := cell_got HD 3; have le := got_lt HD
    refine bodyPost_ret (v := .tuple #[.agg #[.int .i64 0, .int .i64 0, .int .i64 0, .int .u32 0], .int .i64 15]) (by simp [results, Tryz.results83, go_sem, e0, e1, e2, e3]) rfl ⟨rfl, ((((OO.out.setCell (.inr HN.out.2.2.1) _).setCell (.inr HN.out.2.2.1) _).setCell (.inr HN.out.2.2.1) _).setCell (.inr HN.out.2.2.1) _)⟩
  · have l7 := lng_bd n1 n2
    have l8 := lng_bd n3 n4
    have HL7 := Lib.hid (fun w' => pLong p7 n1 n2 w')
    have HL8 := Lib.hid (fun w' => pLong p8 n3 n4 w')
    generalize lngS p7 = g7 at l7 HL7 HE
    generalize lngS p8 = g8 at l8 HL8 HE
    obtain ⟨m, hm⟩ : ∃ m, max a (-a) = m := ⟨_, rfl⟩
    obtain ⟨s1, hs1⟩ : ∃ s1, p4 + 1 = s1 := ⟨_, rfl⟩
    obtain ⟨s2, hs2⟩ : ∃ s2, g7 + b = s2 := ⟨_, rfl⟩
    obtain ⟨s3, hs3⟩ : ∃ s3, g8 + c = s3 := ⟨_, rfl⟩
    obtain ⟨s4, hs4⟩ : ∃ s4, s3 + m = s4 := ⟨_, rfl⟩
    rw [hm, hs1, hs2, hs3, hs4] at HE
    have r1 : IntKind.i64.wrap (p4 + 1) = s1 := by rw [IntKind.wrap_i64]; omega
    have r2 : IntKind.i64.wrap (g7 + b) = s2 := by rw [IntKind.wrap_i64]; omega
    have r3 : IntKind.i64.wrap (g8 + c) = s3 := by rw [IntKind.wrap_i64]; omega
    have r4 : IntKind.i64.wrap (s3 + m) = s4 := by rw [IntKind.wrap_i64]; omega
    have r5 : IntKind.i64.wrap (-a) = -a := by rw [IntKind.wrap_i64]; omega
    have HO := Lib.hid (fun w' => pOChecked ⟨s1, s2, s4, id⟩ w')
    have hres : res = (if ochk ⟨s1, s2, s4, id⟩ = 0 then ⟨s1, s2, s4, id⟩ else ro0, if ochk ⟨s1, s2, s4, id⟩ = 0 then 0 else 3) := by
      have := HE.out
      simp only [and_self, if_true] at this
      rw [this]
      split <;> rfl
    obtain ⟨⟨q1, q2, q3, q4⟩, qe⟩ := res
    simp only [Prod.mk.injEq] at hres
    rw [← hres.1, ← hres.2] at HO
    unfold roV at HO
    dsimp only at HO ⊢
    clear HE hres hs1 hs2 hs3 hs4
    go_enter Tryz.func83, Tryz.ntmps83
    go_upto_region 1 with (fail)
    refine wabs (G := fun w0 => Code.wp _ _ _ _ w0) (R := fun w1 => w1.heap[w.heap.size]? = some (.cells #[.int .i64 p1, .int .i64 p2, .int .i64 p3, .int .i64 p4, .int .i64 p5, .int .i64 p6, .int .u32 p7, .int .u32 p8, .int .u32 p9, .int .u64 pa, .int .u64 pb, .int .u64 pc, .int .u64 pd] 33 (0, 0)) ∧ w1.heap[w.heap.size + 1]? = some (.cells #[.int .i64 a, .int .i64 b, .int .i64 c, .int .i64 d] 157 (0, 0)) ∧ w1.heap[w.heap.size + 2]? = some (.cells #[.int .i64 0, .int .i64 0, .int .i64 0, .int .u32 0] 88 (0, 0)) ∧ Only [] w w1) ?_ ?_
    · skip
      have k0 := alloc_new w (.cells #[.int .i64 p1, .int .i64 p2, .int .i64 p3, .int .i64 p4, .int .i64 p5, .int .i64 p6, .int .u32 p7, .int .u32 p8, .int .u32 p9, .int .u64 pa, .int .u64 pb, .int .u64 pc, .int .u64 pd] 33)
      have k1 := alloc_new (w.alloc (.cells #[.int .i64 p1, .int .i64 p2, .int .i64 p3, .int .i64 p4, .int .i64 p5, .int .i64 p6, .int .u32 p7, .int .u32 p8, .int .u32 p9, .int .u64 pa, .int .u64 pb, .int .u64 pc, .int .u64 pd] 33)) (.cells #[.int .i64 a, .int .i64 b, .int .i64 c, .int .i64 d] 157)
      have k2 := alloc_new ((w.alloc (.cells #[.int .i64 p1, .int .i64 p2, .int .i64 p3, .int .i64 p4, .int .i64 p5, .int .i64 p6, .int .u32 p7, .int .u32 p8, .int .u32 p9, .int .u64 pa, .int .u64 pb, .int .u64 pc, .int .u64 pd] 33)).alloc (.cells #[.int .i64 a, .int .i64 b, .int .i64 c, .int .i64 d] 157)) (.cells #[.int .i64 0, .int .i64 0, .int .i64 0, .int .u32 0] 88)
      simp only [World.size_alloc] at k0 k1 k2
      exact ⟨(alloc_old (alloc_old k0)), (alloc_old k1), k2, ((((Only.refl [] w).alloc _).alloc _).alloc _)⟩
    rintro w1 ⟨h1, h2, h3, ho1⟩
    obtain ⟨b1, hb1⟩ : ∃ b, w.heap.size = b := ⟨_, rfl⟩
    obtain ⟨b2, hb2⟩ : ∃ b, w.heap.size + 1 = b := ⟨_, rfl⟩
    obtain ⟨b3, hb3⟩ : ∃ b, w.heap.size + 2 = b := ⟨_, rfl⟩
    have HN : Hid (w.heap.size ≤ b1 ∧ w.heap.size ≤ b2 ∧ w.heap.size ≤ b3 ∧ b1 ≠ b2 ∧ b2 ≠ b1 ∧ b1 ≠ b3 ∧ b3 ≠ b1 ∧ b2 ≠ b3 ∧ b3 ≠ b2) := Lib.hid (by omega)
    rw [hb1] at h1
    rw [hb2] at h2
    rw [hb3] at h3
    rw [show w.heap.size + 1 + 1 = b3 from hb3, show w.heap.size + 1 = b2 from hb2, hb1]
    have B1 := Lib.hid h1; have B2 := Lib.hid h2; have B3 := Lib.hid h3; have OO := Lib.hid ho1
    clear h1 h2 h3 hb1 hb2 hb3
    clear ho1
    have k1 := c_13 B1.out; have k2 := c_4 B2.out; have k3 := c_4 B3.out
    go_wp2_with fail
    refine (HN0.out _).mono ?_
    rintro e w2 ⟨rfl, ho⟩
    clear k1 k2 k3
    replace OO := Lib.hid (OO.out.nil_trans ho); replace B1 := Lib.hid (ho.got B1.out (by simp)); replace B2 := Lib.hid (ho.got B2.out (by simp)); replace B3 := Lib.hid (ho.got B3.out (by simp))
    clear ho
    have k1 := c_13 B1.out; have k2 := c_4 B2.out; have k3 := c_4 B3.out
    go_wp2_with fail
    refine (HS0.out _).mono ?_
    rintro e w3 ⟨rfl, ho⟩
    clear k1 k2 k3
    replace OO := Lib.hid (OO.out.nil_trans ho); replace B1 := Lib.hid (ho.got B1.out (by simp)); replace B2 := Lib.hid (ho.got B2.out (by simp)); replace B3 := Lib.hid (ho.got B3.out (by simp))
    clear ho
    have k1 := c_13 B1.out; have k2 := c_4 B2.out; have k3 := c_4 B3.out
    go_wp2_with fail
    refine (HY0.out _).mono ?_
    rintro e w4 ⟨rfl, ho⟩
    clear k1 k2 k3
    replace OO := Lib.hid (OO.out.nil_trans ho); replace B1 := Lib.hid (ho.got B1.out (by simp)); replace B2 := Lib.hid (ho.got B2.out (by simp)); replace B3 := Lib.hid (ho.got B3.out (by simp))
    clear ho
    have k1 := c_13 B1.out; have k2 := c_4 B2.out; have k3 := c_4 B3.out
    go_upto_region 5 with (fail)
    refine wp_region_grown [0, 1, 2, 3, 4, 5, 6, 7, 8, 9, 10, 11, 12, 13, 14, 15, 16, 17, 18, 19, 20, 21, 22, 23, 24, 25, 26] [27, 28] (by kernel_rfl) (by kernel_rfl) ?_
    simp only [pick, List.map_cons, List.map_nil, List.getD_cons_succ, List.getD_cons_zero]
    iterate 5 (refine wpQuiet_step (fun K hK => ?_); go_simp; refine hK _ ?_; clear hK K)
    refine wpQuiet_enter_w (by kernel_rfl) 130 #[.int .u32 p7] (fun _ => by kernel_rfl) (.int .i64 g7) (grown_only2 (fun w' hw' => HL7.out w')) ?_
    iterate 5 (refine wpQuiet_step (fun K hK => ?_); go_simp; refine hK _ ?_; clear hK K)
    refine wpQuiet_enter_w (by kernel_rfl) 130 #[.int .u32 p8] (fun _ => by kernel_rfl) (.int .i64 g8) (grown_only2 (fun w' hw' => HL8.out w')) ?_
    iterate 12 (refine wpQuiet_step (fun K hK => ?_); go_simp; refine hK _ ?_; clear hK K)
    refine wpQuiet_enter_w (by kernel_rfl) 149 #[.agg #[.int .i64 s1, .int .i64 s2, .int .i64 s4, .int .u32 id]] (fun _ => by kernel_rfl) (.tuple #[.agg #[.int .i64 q1, .int .i64 q2, .int .i64 q3, .int .u32 q4], .int .i64 qe]) (grown_only2 (fun w' hw' => HO.out w')) ?_
    iterate 2 (refine wpQuiet_step (fun K hK => ?_); go_simp; refine hK _ ?_; clear hK K)
    refine wpQuiet_nil ?_
    intro w5 hw
    have ho := only_of_plus hw
    clear hw
    clear k1 k2 k3
    replace OO := Lib.hid (OO.out.nil_trans ho); replace B1 := Lib.hid (ho.got B1.out (by simp)); replace B2 := Lib.hid (ho.got B2.out (by simp)); replace B3 := Lib.hid (ho.got B3.out (by simp))
    have k1 := c_13 B1.out; have k2 := c_4 B2.out; have k3 := c_4 B3.out
    clear ho
    go_wp2
    have HD := setCell_got (o := 3) (.int .u32 q4) (setCell_got (o := 2) (.int .i64 q3) (setCell_got (o := 1) (.int .i64 q2) (setCell_got (o := 0) (.int .i64 q1) (B3.out))))
    have e0 := cell_got HD 0; have e1 := cell_got HD 1; have e2 := cell_got HD 2; have e3 := cell_got HD 3; have le := got_lt HD
    refine bodyPost_ret (v := .tuple #[.agg #[.int .i64 q1, .int .i64 q2, .int .i64 q3, .int .u32 q4], .int .i64 qe]) (by simp [results, Tryz.results83, go_sem, e0, e1, e2, e3]) rfl ⟨rfl, ((((OO.out.setCell (.inr HN.out.2.2.1) _).setCell (.inr HN.out.2.2.1) _).setCell (.inr HN.out.2.2.1) _).setCell (.inr HN.out.2.2.1) _)⟩
end Go.Proofs.YtikjdmbfjkbndaaGreat
