/- The walks of drift.Meet and Width, and of package reach. No condition. -/
import Derived.Test.YtikjdmbfjkbndaaGreatC3
namespace Go.Proofs.YtikjdmbfjkbndaaGreat
open Go.RowKit

def meetV : Option Iv → Value
  | some x => .tuple #[.agg #[.int .i64 x.lo, .int .i64 x.hi], .bool true]
  | none => .tuple #[.agg #[.int .i64 0, .int .i64 0], .bool false]
set_option maxRecDepth 100000 in
set_option maxHeartbeats 1000000 in
theorem pMeet (a b : Iv) (w : World) :
    Calls Tryz.prog 86 #[ivV a, ivV b] w fun e w' => e = .returned (meetV (meetI a b)) ∧ Only [] w w' := by
  obtain ⟨al, ah⟩ := a
  obtain ⟨bl, bh⟩ := b
  have HA := Lib.hid (fun w' => pDriftCheck ⟨al, ah⟩ w')
  have HB := Lib.hid (fun w' => pDriftCheck ⟨bl, bh⟩ w')
  have HR : Hid (meetI ⟨al, ah⟩ ⟨bl, bh⟩ = if ivOk ⟨al, ah⟩ = true ∧ ivOk ⟨bl, bh⟩ = true ∧ max al bl ≤ min ah bh then some ⟨max al bl, min ah bh⟩ else none) := Lib.hid rfl
  generalize meetI ⟨al, ah⟩ ⟨bl, bh⟩ = res at HR ⊢
  generalize ivOk ⟨al, ah⟩ = oka at HA HR
  generalize ivOk ⟨bl, bh⟩ = okb at HB HR
  unfold ivV at HA HB ⊢
  dsimp only at HA HB ⊢
  cases oka
  · obtain rfl : res = none := by have := HR.out; simpa using this
    clear HR HB
    go_enter Tryz.func86, Tryz.ntmps86
    go_upto_region 1 with (fail)
    refine wabs (G := fun w0 => Code.wp _ _ _ _ w0) (R := fun w1 => w1.heap[w.heap.size]? = some (.cells #[.int .i64 al, .int .i64 ah] 45 (0, 0)) ∧ w1.heap[w.heap.size + 1]? = some (.cells #[.int .i64 bl, .int .i64 bh] 45 (0, 0)) ∧ w1.heap[w.heap.size + 2]? = some (.cells #[.int .i64 0, .int .i64 0] 45 (0, 0)) ∧ Only [] w w1) ?_ ?_
    · skip
      have k0 := alloc_new w (.cells #[.int .i64 al, .int .i64 ah] 45)
      have k1 := alloc_new (w.alloc (.cells #[.int .i64 al, .int .i64 ah] 45)) (.cells #[.int .i64 bl, .int .i64 bh] 45)
      have k2 := alloc_new ((w.alloc (.cells #[.int .i64 al, .int .i64 ah] 45)).alloc (.cells #[.int .i64 bl, .int .i64 bh] 45)) (.cells #[.int .i64 0, .int .i64 0] 45)
      simp only [World.size_alloc] at k0 k1 k2
      exact ⟨(alloc_old (alloc_old k0)), (alloc_old k1), k2, ((((Only.refl [] w).alloc _).alloc _).alloc _)⟩
    rintro w1 ⟨h1, h2, h3, ho1⟩
    obtain ⟨b1, hb1⟩ : ∃ b, w.heap.size = b := ⟨_, rfl⟩
    obtain ⟨b2, hb2⟩ : ∃ b, w.heap.size + 1 = b := ⟨_, rfl⟩
    obtain ⟨b3, hb3⟩ : ∃ b, w.heap.size + 2 = b := ⟨_, rfl⟩
    have HN : Hid (w.heap.size ≤ b1 ∧ w.heap.size ≤ b2 ∧ w.heap.size ≤ b3 ∧ b1 ≠ b2 ∧ b2 ≠ b1 ∧ b1 ≠ b3 ∧ b3 ≠ b1 ∧ b2 ≠ b3 ∧ b3 ≠ b2) := Lib.hid (by omega)
    rw [hb1] at h1
    rw [hb2] at h2
    rw [hb3] at h3
    rw [show w.heap.size + 1 + 1 = b3 from hb3, show w.heap.size + 1 = b2 from hb2, hb1]
    have B1 := Lib.hid h1; have B2 := Lib.hid h2; have B3 := Lib.hid h3; have OO := Lib.hid ho1
    clear h1 h2 h3 hb1 hb2 hb3
    clear ho1
    have k1 := c_2 B1.out; have k2 := c_2 B2.out; have k3 := c_2 B3.out
    go_wp2_with fail
    refine (HA.out _).mono ?_
    rintro e w2 ⟨rfl, ho⟩
    clear k1 k2 k3
    replace OO := Lib.hid (OO.out.nil_trans ho); replace B1 := Lib.hid (ho.got B1.out (by simp)); replace B2 := Lib.hid (ho.got B2.out (by simp)); replace B3 := Lib.hid (ho.got B3.out (by simp))
    clear ho
    have k1 := c_2 B1.out; have k2 := c_2 B2.out; have k3 := c_2 B3.out
    go_wp2
    have HD := setCell_got (o := 1) (.int .i64 0) (setCell_got (o := 0) (.int .i64 0) (B3.out))
    have e0 := cell_got HD 0; have e1 := cell_got HD 1; have le := got_lt HD
    refine bodyPost_ret (v := .tuple #[.agg #[.int .i64 0, .int .i64 0], .bool false]) (by simp [results, Tryz.results86, go_sem, e0, e1]) rfl ⟨rfl, ((OO.out.setCell (.inr HN.out.2.2.1) _).setCell (.inr HN.out.2.2.1) _)⟩
  · cases okb
    · obtain rfl : res = none := by have := HR.out; simpa using this
      clear HR
      go_enter Tryz.func86, Tryz.ntmps86
      go_upto_region 1 with (fail)
      refine wabs (G := fun w0 => Code.wp _ _ _ _ w0) (R := fun w1 => w1.heap[w.heap.size]? = some (.cells #[.int .i64 al, .int .i64 ah] 45 (0, 0)) ∧ w1.heap[w.heap.size + 1]? = some (.cells #[.int .i64 bl, .int .i64 bh] 45 (0, 0)) ∧ w1.heap[w.heap.size + 2]? = some (.cells #[.int .i64 0, .int .i64 0] 45 (0, 0)) ∧ Only [] w w1) ?_ ?_
      · skip
        have k0 := alloc_new w (.cells #[.int .i64 al, .int .i64 ah] 45)
        have k1 := alloc_new (w.alloc (.cells #[.int .i64 al, .int .i64 ah] 45)) (.cells #[.int .i64 bl, .int .i64 bh] 45)
        have k2 := alloc_new ((w.alloc (.cells #[.int .i64 al, .int .i64 ah] 45)).alloc (.cells #[.int .i64 bl, .int .i64 bh] 45)) (.cells #[.int .i64 0, .int .i64 0] 45)
        simp only [World.size_alloc] at k0 k1 k2
        exact ⟨(alloc_old (alloc_old k0)), (alloc_old k1), k2, ((((Only.refl [] w).alloc _).alloc _).alloc _)⟩
      rintro w1 ⟨h1, h2, h3, ho1⟩
      obtain ⟨b1, hb1⟩ : ∃ b, w.heap.size = b := ⟨_, rfl⟩
      obtain ⟨b2, hb2⟩ : ∃ b, w.heap.size + 1 = b := ⟨_, rfl⟩
      obtain ⟨b3, hb3⟩ : ∃ b, w.heap.size + 2 = b := ⟨_, rfl⟩
      have HN : Hid (w.heap.size ≤ b1 ∧ w.heap.size ≤ b2 ∧ w.heap.size ≤ b3 ∧ b1 ≠ b2 ∧ b2 ≠ b1 ∧ b1 ≠ b3 ∧ b3 ≠ b1 ∧ b2 ≠ b3 ∧ b3 ≠ b2) := Lib.hid (by omega)
      rw [hb1] at h1
      rw [hb2] at h2
      rw [hb3] at h3
      rw [show w.heap.size + 1 + 1 = b3 from hb3, show w.heap.size + 1 = b2 from hb2, hb1]
      have B1 := Lib.hid h1; have B2 := Lib.hid h2; have B3 := Lib.hid h3; have OO := Lib.hid ho1
      clear h1 h2 h3 hb1 hb2 hb3
      clear ho1
      have k1 := c_2 B1.out; have k2 := c_2 B2.out; have k3 := c_2 B3.out
      go_wp2_with fail
      refine (HA.out _).mono ?_
      rintro e w2 ⟨rfl, ho⟩
      clear k1 k2 k3
      replace OO := Lib.hid (OO.out.nil_trans ho); replace B1 := Lib.hid (ho.got B1.out (by simp)); replace B2 := Lib.hid (ho.got B2.out (by simp)); replace B3 := Lib.hid (ho.got B3.out (by simp))
      clear ho
      have k1 := c_2 B1.out; have k2 := c_2 B2.out; have k3 := c_2 B3.out
      go_wp2_with fail
      refine (HB.out _).mono ?_
      rintro e w3 ⟨rfl, ho⟩
      clear k1 k2 k3
      replace OO := Lib.hid (OO.out.nil_trans ho); replace B1 := Lib.hid (ho.got B1.out (by simp)); replace B2 := Lib.hid (ho.got B2.out (by simp)); replace B3 := Lib.hid (ho.got B3.out (by simp))
      clear ho
      have k1 := c_2 B1.out; have k2 := c_2 B2.out; have k3 := c_2 B3.out
      go_wp2
      have HD := setCell_got (o := 1) (.int .i64 0) (setCell_got (o := 0) (.int .i64 0) (B3.out))
      have e0 := cell_got HD 0; have e1 := cell_got HD 1; have le := got_lt HD
      refine bodyPost_ret (v := .tuple #[.agg #[.int .i64 0, .int .i64 0], .bool false]) (by simp [results, Tryz.results86, go_sem, e0, e1]) rfl ⟨rfl, ((OO.out.setCell (.inr HN.out.2.2.1) _).setCell (.inr HN.out.2.2.1) _)⟩
    · obtain ⟨m1, hm1⟩ : ∃ m1, max al bl = m1 := ⟨_, rfl⟩
      obtain ⟨m2, hm2⟩ : ∃ m2, min ah bh = m2 := ⟨_, rfl⟩
      rw [hm1, hm2] at HR
      by_cases hle : m1 ≤ m2
      · obtain rfl : res = some ⟨m1, m2⟩ := by rw [HR.out, if_pos ⟨rfl, rfl, hle⟩]
        have q1 : decide (m2 < m1) = false := by simp; omega
        clear HR hle
        go_enter Tryz.func86, Tryz.ntmps86
        go_upto_region 1 with (fail)
        refine wabs (G := fun w0 => Code.wp _ _ _ _ w0) (R := fun w1 => w1.heap[w.heap.size]? = some (.cells #[.int .i64 al, .int .i64 ah] 45 (0, 0)) ∧ w1.heap[w.heap.size + 1]? = some (.cells #[.int .i64 bl, .int .i64 bh] 45 (0, 0)) ∧ w1.heap[w.heap.size + 2]? = some (.cells #[.int .i64 0, .int .i64 0] 45 (0, 0)) ∧ Only [] w w1) ?_ ?_
        · skip
          have k0 := alloc_new w (.cells #[.int .i64 al, .int .i64 ah] 45)
          have k1 := alloc_new (w.alloc (.cells #[.int .i64 al, .int .i64 ah] 45)) (.cells #[.int .i64 bl, .int .i64 bh] 45)
          have k2 := alloc_new ((w.alloc (.cells #[.int .i64 al, .int .i64 ah] 45)).alloc (.cells #[.int .i64 bl, .int .i64 bh] 45)) (.cells #[.int .i64 0, .int .i64 0] 45)
          simp only [World.size_alloc] at k0 k1 k2
          exact ⟨(alloc_old (alloc_old k0)), (alloc_old k1), k2, ((((Only.refl [] w).alloc _).alloc _).alloc _)⟩
        rintro w1 ⟨h1, h2, h3, ho1⟩
        obtain ⟨b1, hb1⟩ : ∃ b, w.heap.size = b := ⟨_, rfl⟩
        obtain ⟨b2, hb2⟩ : ∃ b, w.heap.size + 1 = b := ⟨_, rfl⟩
        obtain ⟨b3, hb3⟩ : ∃ b, w.heap.size + 2 = b := ⟨_, rfl⟩
        have HN : Hid (w.heap.size ≤ b1 ∧ w.heap.size ≤ b2 ∧ w.heap.size ≤ b3 ∧ b1 ≠ b2 ∧ b2 ≠ b1 ∧ b1 ≠ b3 ∧ b3 ≠ b1 ∧ b2 ≠ b3 ∧ b3 ≠ b2) := Lib.hid (by omega)
        rw [hb1] at h1
        rw [hb2] at h2
        rw [hb3] at h3
        rw [show w.heap.size + 1 + 1 = b3 from hb3, show w.heap.size + 1 = b2 from hb2, hb1]
        have B1 := Lib.hid h1; have B2 := Lib.hid h2; have B3 := Lib.hid h3; have OO := Lib.hid ho1
        clear h1 h2 h3 hb1 hb2 hb3
        clear ho1
        have k1 := c_2 B1.out; have k2 := c_2 B2.out; have k3 := c_2 B3.out
        go_wp2_with fail
        refine (HA.out _).mono ?_
        rintro e w2 ⟨rfl, ho⟩
        clear k1 k2 k3
        replace OO := Lib.hid (OO.out.nil_trans ho); replace B1 := Lib.hid (ho.got B1.out (by simp)); replace B2 := Lib.hid (ho.got B2.out (by simp)); replace B3 := Lib.hid (ho.got B3.out (by simp))
        clear ho
        have k1 := c_2 B1.out; have k2 := c_2 B2.out; have k3 := c_2 B3.out
        go_wp2_with fail
        refine (HB.out _).mono ?_
        rintro e w3 ⟨rfl, ho⟩
        clear k1 k2 k3
        replace OO := Lib.hid (OO.out.nil_trans ho); replace B1 := Lib.hid (ho.got B1.out (by simp)); replace B2 := Lib.hid (ho.got B2.out (by simp)); replace B3 := Lib.hid (ho.got B3.out (by simp))
        clear ho
        have k1 := c_2 B1.out; have k2 := c_2 B2.out; have k3 := c_2 B3.out
        go_upto_region 4 with (fail)
        refine alloc_abs (G := fun w0 => Code.wp _ _ _ _ w0) ?_
        intro w4 hb ho hs
        obtain ⟨b4, hbe⟩ : ∃ b, w3.heap.size = b := ⟨_, rfl⟩
        rw [hbe] at hb
        rw [hbe]
        have HN4 : Hid (w.heap.size ≤ b4) := Lib.hid (by rw [← hbe]; exact OO.out.size)
        have HM4_1 : Hid (b1 ≠ b4) := Lib.hid (by omega)
        have HM4_2 : Hid (b2 ≠ b4) := Lib.hid (by omega)
        have HM4_3 : Hid (b3 ≠ b4) := Lib.hid (by omega)
        clear k1 k2 k3
        replace OO := Lib.hid (OO.out.nil_trans ho); replace B1 := Lib.hid (ho.got B1.out (by simp)); replace B2 := Lib.hid (ho.got B2.out (by simp)); replace B3 := Lib.hid (ho.got B3.out (by simp)); have B4 := Lib.hid hb
        clear hb ho hs hbe
        have k1 := c_2 B1.out; have k2 := c_2 B2.out; have k3 := c_2 B3.out; have k4 := c_2 B4.out
        go_wp2
        have HD := setCell_got (o := 1) (.int .i64 m2) (setCell_got (o := 0) (.int .i64 m1) (B3.out))
        have e0 := cell_got HD 0; have e1 := cell_got HD 1; have le := got_lt HD
        refine bodyPost_ret (v := .tuple #[.agg #[.int .i64 m1, .int .i64 m2], .bool true]) (by simp [results, Tryz.results86, go_sem, e0, e1]) rfl ⟨rfl, ((OO.out.setCell (.inr HN.out.2.2.1) _).setCell (.inr HN.out.2.2.1) _)⟩
      · obtain rfl : res = none := by rw [HR.out, if_neg (by rintro ⟨_, _, h⟩; exact hle h)]
        have q1 : decide (m2 < m1) = true := by simp; omega
        clear HR hle
        go_enter Tryz.func86, Tryz.ntmps86
        go_upto_region 1 with (fail)
        refine wabs (G := fun w0 => Code.wp _ _ _ _ w0) (R := fun w1 => w1.heap[w.heap.size]? = some (.cells #[.int .i64 al, .int .i64 ah] 45 (0, 0)) ∧ w1.heap[w.heap.size + 1]? = some (.cells #[.int .i64 bl, .int .i64 bh] 45 (0, 0)) ∧ w1.heap[w.heap.size + 2]? = some (.cells #[.int .i64 0, .int .i64 0] 45 (0, 0)) ∧ Only [] w w1) ?_ ?_
        · skip
          have k0 := alloc_new w (.cells #[.int .i64 al, .int .i64 ah] 45)
          have k1 := alloc_new (w.alloc (.cells #[.int .i64 al, .int .i64 ah] 45)) (.cells #[.int .i64 bl, .int .i64 bh] 45)
          have k2 := alloc_new ((w.alloc (.cells #[.int .i64 al, .int .i64 ah] 45)).alloc (.cells #[.int .i64 bl, .int .i64 bh] 45)) (.cells #[.int .i64 0, .int .i64 0] 45)
          simp only [World.size_alloc] at k0 k1 k2
          exact ⟨(alloc_old (alloc_old k0)), (alloc_old k1), k2, ((((Only.refl [] w).alloc _).alloc _).alloc _)⟩
        rintro w1 ⟨h1, h2, h3, ho1⟩
        obtain ⟨b1, hb1⟩ : ∃ b, w.heap.size = b := ⟨_, rfl⟩
        obtain ⟨b2, hb2⟩ : ∃ b, w.heap.size + 1 = b := ⟨_, rfl⟩
        obtain ⟨b3, hb3⟩ : ∃ b, w.heap.size + 2 = b := ⟨_, rfl⟩
        have HN : Hid (w.heap.size ≤ b1 ∧ w.heap.size ≤ b2 ∧ w.heap.size ≤ b3 ∧ b1 ≠ b2 ∧ b2 ≠ b1 ∧ b1 ≠ b3 ∧ b3 ≠ b1 ∧ b2 ≠ b3 ∧ b3 ≠ b2) := Lib.hid (by omega)
        rw [hb1] at h1
        rw [hb2] at h2
        rw [hb3] at h3
        rw [show w.heap.size + 1 + 1 = b3 from hb3, show w.heap.size + 1 = b2 from hb2, hb1]
        have B1 := Lib.hid h1; have B2 := Lib.hid h2; have B3 := Lib.hid h3; have OO := Lib.hid ho1
        clear h1 h2 h3 hb1 hb2 hb3
        clear ho1
        have k1 := c_2 B1.out; have k2 := c_2 B2.out; have k3 := c_2 B3.out
        go_wp2_with fail
        refine (HA.out _).mono ?_
        rintro e w2 ⟨rfl, ho⟩
        clear k1 k2 k3
        replace OO := Lib.hid (OO.out.nil_trans ho); replace B1 := Lib.hid (ho.got B1.out (by simp)); replace B2 := Lib.hid (ho.got B2.out (by simp)); replace B3 := Lib.hid (ho.got B3.out (by simp))
        clear ho
        have k1 := c_2 B1.out; have k2 := c_2 B2.out; have k3 := c_2 B3.out
        go_wp2_with fail
        refine (HB.out _).mono ?_
        rintro e w3 ⟨rfl, ho⟩
        clear k1 k2 k3
        replace OO := Lib.hid (OO.out.nil_trans ho); replace B1 := Lib.hid (ho.got B1.out (by simp)); replace B2 := Lib.hid (ho.got B2.out (by simp)); replace B3 := Lib.hid (ho.got B3.out (by simp))
        clear ho
        have k1 := c_2 B1.out; have k2 := c_2 B2.out; have k3 := c_2 B3.out
        go_upto_region 4 with (fail)
        refine alloc_abs (G := fun w0 => Code.wp _ _ _ _ w0) ?_
        intro w4 hb ho hs
        obtain ⟨b4, hbe⟩ : ∃ b, w3.heap.size = b := ⟨_, rfl⟩
        rw [hbe] at hb
        rw [hbe]
        have HN4 : Hid (w.heap.size ≤ b4) := Lib.hid (by rw [← hbe]; exact OO.out.size)
        have HM4_1 : Hid (b1 ≠ b4) := Lib.hid (by omega)
        have HM4_2 : Hid (b2 ≠ b4) := Lib.hid (by omega)
        have HM4_3 : Hid (b3 ≠ b4) := Lib.hid (by omega)
        clear k1 k2 k3
        replace OO := Lib.hid (OO.out.nil_trans ho); replace B1 := Lib.hid (ho.got B1.out (by simp)); replace B2 := Lib.hid (ho.got B2.out (by simp)); replace B3 := Lib.hid (ho.got B3.out (by simp)); have B4 := Lib.hid hb
        clear hb ho hs hbe
        have k1 := c_2 B1.out; have k2 := c_2 B2.out; have k3 := c_2 B3.out; have k4 := c_2 B4.out
        go_wp2
        have HD := setCell_got (o := 1) (.int .i64 0) (setCell_got (o := 0) (.int .i64 0) (B3.out))
        have e0 := cell_got HD 0; have e1 := cell_got HD 1; have le := got_lt HD
        refine bodyPost_ret (v := .tuple #[.agg #[.int .i64 0, .int .i64 0], .bool false]) (by simp [results, Tryz.results86, go_sem, e0, e1]) rfl ⟨rfl, ((OO.out.setCell (.inr HN.out.2.2.1) _).setCell (.inr HN.out.2.2.1) _)⟩
set_option maxRecDepth 100000 in
set_option maxHeartbeats 1000000 in
theorem pWidth (x : Iv) (w : World) :
    Calls Tryz.prog 80 #[ivV x] w fun e w' => e = .returned (.int .i64 (widI x)) ∧ Only [] w w' := by
  obtain ⟨lo, hi⟩ := x
  have HA := Lib.hid (fun w' => pDriftCheck ⟨lo, hi⟩ w')
  have hib := fun h => ivOk_iff.1 (show ivOk ⟨lo, hi⟩ = true from h)
  have HR : Hid (widI ⟨lo, hi⟩ = if ivOk ⟨lo, hi⟩ = true then (if hi - lo ≤ 9223372036854775807 then hi - lo else 9223372036854775807) else 0) := Lib.hid rfl
  generalize widI ⟨lo, hi⟩ = res at HR ⊢
  cases hok : ivOk ⟨lo, hi⟩
  · rw [hok] at HA HR
    obtain rfl : res = 0 := by have := HR.out; simpa using this
    unfold ivV at HA ⊢
    dsimp only at HA ⊢
    clear HR hib hok
    go_enter Tryz.func80, Tryz.ntmps80
    go_upto_region 1 with (fail)
    refine alloc_abs (G := fun w0 => Code.wp _ _ _ _ w0) ?_
    intro w1 hb1 ho1 hs1
    obtain ⟨b1, hbe1⟩ : ∃ b, w.heap.size = b := ⟨_, rfl⟩
    rw [hbe1] at hb1
    rw [hbe1]
    have HN : Hid (w.heap.size ≤ b1) := Lib.hid (by omega)
    have B1 := Lib.hid hb1; have OO := Lib.hid ho1
    clear hb1 hs1 hbe1
    clear ho1
    have k1 := c_2 B1.out
    go_wp2_with fail
    refine (HA.out _).mono ?_
    rintro e w2 ⟨rfl, ho⟩
    clear k1
    replace OO := Lib.hid (OO.out.nil_trans ho); replace B1 := Lib.hid (ho.got B1.out (by simp))
    clear ho
    have k1 := c_2 B1.out
    go_wp2
    go_ret
    exact ⟨rfl, OO.out⟩
  · obtain ⟨i0, i1, i2⟩ := hib hok
    rw [hok] at HA HR
    dsimp only at i0 i1 i2
    have HS := Lib.hid (fun w' => o_same (fsub hi lo w' (by omega) (by omega) (by omega) (by omega)))
    unfold ivV at HA ⊢
    dsimp only at HA ⊢
    clear hib hok
    by_cases hf : hi - lo ≤ 9223372036854775807
    · obtain rfl : res = hi - lo := by have := HR.out; rw [if_pos rfl, if_pos hf] at this; exact this
      rw [orZ_yes (by omega) hf, inI_yes (by omega) hf] at HS
      clear HR
      go_enter Tryz.func80, Tryz.ntmps80
      go_upto_region 1 with (fail)
      refine alloc_abs (G := fun w0 => Code.wp _ _ _ _ w0) ?_
      intro w1 hb1 ho1 hs1
      obtain ⟨b1, hbe1⟩ : ∃ b, w.heap.size = b := ⟨_, rfl⟩
      rw [hbe1] at hb1
      rw [hbe1]
      have HN : Hid (w.heap.size ≤ b1) := Lib.hid (by omega)
      have B1 := Lib.hid hb1; have OO := Lib.hid ho1
      clear hb1 hs1 hbe1
      clear ho1
      have k1 := c_2 B1.out
      go_wp2_with fail
      refine (HA.out _).mono ?_
      rintro e w2 ⟨rfl, ho⟩
      clear k1
      replace OO := Lib.hid (OO.out.nil_trans ho); replace B1 := Lib.hid (ho.got B1.out (by simp))
      clear ho
      have k1 := c_2 B1.out
      go_wp2_with fail
      refine (HS.out _).mono ?_
      rintro e w3 ⟨rfl, ho⟩
      clear k1
      replace OO := Lib.hid (OO.out.nil_trans ho); replace B1 := Lib.hid (ho.got B1.out (by simp))
      clear ho
      have k1 := c_2 B1.out
      go_wp2
      go_ret
      exact ⟨rfl, OO.out⟩
    · obtain rfl : res = 9223372036854775807 := by have := HR.out; rw [if_pos rfl, if_neg hf] at this; exact this
      rw [orZ_no (by omega), inI_no (by omega)] at HS
      clear HR
      go_enter Tryz.func80, Tryz.ntmps80
      go_upto_region 1 with (fail)
      refine alloc_abs (G := fun w0 => Code.wp _ _ _ _ w0) ?_
      intro w1 hb1 ho1 hs1
      obtain ⟨b1, hbe1⟩ : ∃ b, w.heap.size = b := ⟨_, rfl⟩
      rw [hbe1] at hb1
      rw [hbe1]
      have HN : Hid (w.heap.size ≤ b1) := Lib.hid (by omega)
      have B1 := Lib.hid hb1; have OO := Lib.hid ho1
      clear hb1 hs1 hbe1
      clear ho1
      have k1 := c_2 B1.out
      go_wp2_with fail
      refine (HA.out _).mono ?_
      rintro e w2 ⟨rfl, ho⟩
      clear k1
      replace OO := Lib.hid (OO.out.nil_trans ho); replace B1 := Lib.hid (ho.got B1.out (by simp))
      clear ho
      have k1 := c_2 B1.out
      go_wp2_with fail
      refine (HS.out _).mono ?_
      rintro e w3 ⟨rfl, ho⟩
      clear k1
      replace OO := Lib.hid (OO.out.nil_trans ho); replace B1 := Lib.hid (ho.got B1.out (by simp))
      clear ho
      have k1 := c_2 B1.out
      go_wp2
      go_ret
      exact ⟨rfl, OO.out⟩
set_option maxRecDepth 100000 in
set_option maxHeartbeats 1000000 in
theorem pWithin (n lo hi : Int) (w : World) :
    Calls Tryz.prog 134 #[.int .i64 n, .int .i64 lo, .int .i64 hi] w fun e w' => e = .returned (.bool (wth n lo hi)) ∧ Only [] w w' := by
  by_cases h1 : lo ≤ n
  · have a1 : decide (lo ≤ n) = true := decide_eq_true h1
    obtain ⟨r, hr⟩ : ∃ r, decide (n ≤ hi) = r := ⟨_, rfl⟩
    rw [show wth n lo hi = r from by unfold wth; rw [a1, hr]; rfl]
    go_enter Tryz.func134, Tryz.ntmps134
    have OO := Lib.hid (Only.refl [] w)
    go_wp2
    go_ret
    exact ⟨rfl, OO.out⟩
  · have a1 : decide (lo ≤ n) = false := decide_eq_false h1
    rw [show wth n lo hi = false from by unfold wth; rw [a1]; rfl]
    go_enter Tryz.func134, Tryz.ntmps134
    have OO := Lib.hid (Only.refl [] w)
    go_wp2
    go_ret
    exact ⟨rfl, OO.out⟩
set_option maxRecDepth 100000 in
set_option maxHeartbeats 1000000 in
theorem pRChk (r : Rch) (w : World) :
    Calls Tryz.prog 74 #[rcV r] w fun e w' => e = .returned (.int .i64 (rchk r)) ∧ Only [] w w' := by
  obtain ⟨bi, po, mn, mx, cn⟩ := r
  have HE : Hid (rchk ⟨bi, po, mn, mx, cn⟩ = if wth bi 0 255 && (wth mn 3 17 && wth mx 3 17) then (if mx < mn then 12 else if wth po mn mx && wth cn (-30) 30 then 0 else 3) else 3) := Lib.hid rfl
  generalize rchk ⟨bi, po, mn, mx, cn⟩ = res at HE ⊢
  unfold rcV
  dsimp only
  have H1 := Lib.hid (fun w' => pWithin bi 0 255 w')
  have H2 := Lib.hid (fun w' => pWithin mn 3 17 w')
  have H3 := Lib.hid (fun w' => pWithin mx 3 17 w')
  have H4 := Lib.hid (fun w' => pWithin po mn mx w')
  have H5 := Lib.hid (fun w' => pWithin cn (-30) 30 w')
  generalize wth bi 0 255 = x1 at H1 HE
  generalize wth mn 3 17 = x2 at H2 HE
  generalize wth mx 3 17 = x3 at H3 HE
  generalize wth po mn mx = x4 at H4 HE
  generalize wth cn (-30) 30 = x5 at H5 HE
  cases x1
  · obtain rfl : res = 3 := by have := HE.out; simpa using this
    clear HE
    go_enter Tryz.func74, Tryz.ntmps74
    go_upto_region 1 with (fail)
    refine alloc_abs (G := fun w0 => Code.wp _ _ _ _ w0) ?_
    intro w1 hb1 ho1 hs1
    obtain ⟨b1, hbe1⟩ : ∃ b, w.heap.size = b := ⟨_, rfl⟩
    rw [hbe1] at hb1
    rw [hbe1]
    have HN : Hid (w.heap.size ≤ b1) := Lib.hid (by omega)
    have B1 := Lib.hid hb1; have OO := Lib.hid ho1
    clear hb1 hs1 hbe1
    clear ho1
    have k1 := c_5 B1.out
    go_wp2_with fail
    refine (H1.out _).mono ?_
    rintro e w2 ⟨rfl, ho⟩
    clear k1
    replace OO := Lib.hid (OO.out.nil_trans ho); replace B1 := Lib.hid (ho.got B1.out (by simp))
    clear ho
    have k1 := c_5 B1.out
    go_wp2
    go_ret
    exact ⟨rfl, OO.out⟩
  · cases x2
    · obtain rfl : res = 3 := by have := HE.out; simpa using this
      clear HE
      go_enter Tryz.func74, Tryz.ntmps74
      go_upto_region 1 with (fail)
      refine alloc_abs (G := fun w0 => Code.wp _ _ _ _ w0) ?_
      intro w1 hb1 ho1 hs1
      obtain ⟨b1, hbe1⟩ : ∃ b, w.heap.size = b := ⟨_, rfl⟩
      rw [hbe1] at hb1
      rw [hbe1]
      have HN : Hid (w.heap.size ≤ b1) := Lib.hid (by omega)
      have B1 := Lib.hid hb1; have OO := Lib.hid ho1
      clear hb1 hs1 hbe1
      clear ho1
      have k1 := c_5 B1.out
      go_wp2_with fail
      refine (H1.out _).mono ?_
      rintro e w2 ⟨rfl, ho⟩
      clear k1
      replace OO := Lib.hid (OO.out.nil_trans ho); replace B1 := Lib.hid (ho.got B1.out (by simp))
      clear ho
      have k1 := c_5 B1.out
      go_wp2_with fail
      refine (H2.out _).mono ?_
      rintro e w3 ⟨rfl, ho⟩
      clear k1
      replace OO := Lib.hid (OO.out.nil_trans ho); replace B1 := Lib.hid (ho.got B1.out (by simp))
      clear ho
      have k1 := c_5 B1.out
      go_wp2
      go_ret
      exact ⟨rfl, OO.out⟩
    · cases x3
      · obtain rfl : res = 3 := by have := HE.out; simpa using this
        clear HE
        go_enter Tryz.func74, Tryz.ntmps74
        go_upto_region 1 with (fail)
        refine alloc_abs (G := fun w0 => Code.wp _ _ _ _ w0) ?_
        intro w1 hb1 ho1 hs1
        obtain ⟨b1, hbe1⟩ : ∃ b, w.heap.size = b := ⟨_, rfl⟩
        rw [hbe1] at hb1
        rw [hbe1]
        have HN : Hid (w.heap.size ≤ b1) := Lib.hid (by omega)
        have B1 := Lib.hid hb1; have OO := Lib.hid ho1
        clear hb1 hs1 hbe1
        clear ho1
        have k1 := c_5 B1.out
        go_wp2_with fail
        refine (H1.out _).mono ?_
        rintro e w2 ⟨rfl, ho⟩
        clear k1
        replace OO := Lib.hid (OO.out.nil_trans ho); replace B1 := Lib.hid (ho.got B1.out (by simp))
        clear ho
        have k1 := c_5 B1.out
        go_wp2_with fail
        refine (H2.out _).mono ?_
        rintro e w3 ⟨rfl, ho⟩
        clear k1
        replace OO := Lib.hid (OO.out.nil_trans ho); replace B1 := Lib.hid (ho.got B1.out (by simp))
        clear ho
        have k1 := c_5 B1.out
        go_wp2_with fail
        refine (H3.out _).mono ?_
        rintro e w4 ⟨rfl, ho⟩
        clear k1
        replace OO := Lib.hid (OO.out.nil_trans ho); replace B1 := Lib.hid (ho.got B1.out (by simp))
        clear ho
        have k1 := c_5 B1.out
        go_wp2
        go_ret
        exact ⟨rfl, OO.out⟩
      · by_cases hlt : mx < mn
        · have d1 : decide (mx < mn) = true := decide_eq_true hlt
          obtain rfl : res = 12 := by have := HE.out; simpa [hlt] using this
          clear HE
          go_enter Tryz.func74, Tryz.ntmps74
          go_upto_region 1 with (fail)
          refine alloc_abs (G := fun w0 => Code.wp _ _ _ _ w0) ?_
          intro w1 hb1 ho1 hs1
          obtain ⟨b1, hbe1⟩ : ∃ b, w.heap.size = b := ⟨_, rfl⟩
          rw [hbe1] at hb1
          rw [hbe1]
          have HN : Hid (w.heap.size ≤ b1) := Lib.hid (by omega)
          have B1 := Lib.hid hb1; have OO := Lib.hid ho1
          clear hb1 hs1 hbe1
          clear ho1
          have k1 := c_5 B1.out
          go_wp2_with fail
          refine (H1.out _).mono ?_
          rintro e w2 ⟨rfl, ho⟩
          clear k1
          replace OO := Lib.hid (OO.out.nil_trans ho); replace B1 := Lib.hid (ho.got B1.out (by simp))
          clear ho
          have k1 := c_5 B1.out
          go_wp2_with fail
          refine (H2.out _).mono ?_
          rintro e w3 ⟨rfl, ho⟩
          clear k1
          replace OO := Lib.hid (OO.out.nil_trans ho); replace B1 := Lib.hid (ho.got B1.out (by simp))
          clear ho
          have k1 := c_5 B1.out
          go_wp2_with fail
          refine (H3.out _).mono ?_
          rintro e w4 ⟨rfl, ho⟩
          clear k1
          replace OO := Lib.hid (OO.out.nil_trans ho); replace B1 := Lib.hid (ho.got B1.out (by simp))
          clear ho
          have k1 := c_5 B1.out
          go_wp2
          go_ret
          exact ⟨rfl, OO.out⟩
        · have d1 : decide (mx < mn) = false := decide_eq_false hlt
          cases x4
          · obtain rfl : res = 3 := by have := HE.out; simpa [hlt] using this
            clear HE
            go_enter Tryz.func74, Tryz.ntmps74
            go_upto_region 1 with (fail)
            refine alloc_abs (G := fun w0 => Code.wp _ _ _ _ w0) ?_
            intro w1 hb1 ho1 hs1
            obtain ⟨b1, hbe1⟩ : ∃ b, w.heap.size = b := ⟨_, rfl⟩
            rw [hbe1] at hb1
            rw [hbe1]
            have HN : Hid (w.heap.size ≤ b1) := Lib.hid (by omega)
            have B1 := Lib.hid hb1; have OO := Lib.hid ho1
            clear hb1 hs1 hbe1
            clear ho1
            have k1 := c_5 B1.out
            go_wp2_with fail
            refine (H1.out _).mono ?_
            rintro e w2 ⟨rfl, ho⟩
            clear k1
            replace OO := Lib.hid (OO.out.nil_trans ho); replace B1 := Lib.hid (ho.got B1.out (by simp))
            clear ho
            have k1 := c_5 B1.out
            go_wp2_with fail
            refine (H2.out _).mono ?_
            rintro e w3 ⟨rfl, ho⟩
            clear k1
            replace OO := Lib.hid (OO.out.nil_trans ho); replace B1 := Lib.hid (ho.got B1.out (by simp))
            clear ho
            have k1 := c_5 B1.out
            go_wp2_with fail
            refine (H3.out _).mono ?_
            rintro e w4 ⟨rfl, ho⟩
            clear k1
            replace OO := Lib.hid (OO.out.nil_trans ho); replace B1 := Lib.hid (ho.got B1.out (by simp))
            clear ho
            have k1 := c_5 B1.out
            go_wp2_with fail
            refine (H4.out _).mono ?_
            rintro e w5 ⟨rfl, ho⟩
            clear k1
            replace OO := Lib.hid (OO.out.nil_trans ho); replace B1 := Lib.hid (ho.got B1.out (by simp))
            clear ho
            have k1 := c_5 B1.out
            go_wp2
            go_ret
            exact ⟨rfl, OO.out⟩
          · cases x5
            · obtain rfl : res = 3 := by have := HE.out; simpa [hlt] using this
              clear HE
              go_enter Tryz.func74, Tryz.ntmps74
              go_upto_region 1 with (fail)
              refine alloc_abs (G := fun w0 => Code.wp _ _ _ _ w0) ?_
              intro w1 hb1 ho1 hs1
              obtain ⟨b1, hbe1⟩ : ∃ b, w.heap.size = b := ⟨_, rfl⟩
              rw [hbe1] at hb1
              rw [hbe1]
              have HN : Hid (w.heap.size ≤ b1) := Lib.hid (by omega)
              have B1 := Lib.hid hb1; have OO := Lib.hid ho1
              clear hb1 hs1 hbe1
              clear ho1
              have k1 := c_5 B1.out
              go_wp2_with fail
              refine (H1.out _).mono ?_
              rintro e w2 ⟨rfl, ho⟩
              clear k1
              replace OO := Lib.hid (OO.out.nil_trans ho); replace B1 := Lib.hid (ho.got B1.out (by simp))
              clear ho
              have k1 := c_5 B1.out
              go_wp2_with fail
              refine (H2.out _).mono ?_
              rintro e w3 ⟨rfl, ho⟩
              clear k1
              replace OO := Lib.hid (OO.out.nil_trans ho); replace B1 := Lib.hid (ho.got B1.out (by simp))
              clear ho
              have k1 := c_5 B1.out
              go_wp2_with fail
              refine (H3.out _).mono ?_
              rintro e w4 ⟨rfl, ho⟩
              clear k1
              replace OO := Lib.hid (OO.out.nil_trans ho); replace B1 := Lib.hid (ho.got B1.out (by simp))
              clear ho
              have k1 := c_5 B1.out
              go_wp2_with fail
              refine (H4.out _).mono ?_
              rintro e w5 ⟨rfl, ho⟩
              clear k1
              replace OO := Lib.hid (OO.out.nil_trans ho); replace B1 := Lib.hid (ho.got B1.out (by simp))
              clear ho
              have k1 := c_5 B1.out
              go_wp2_with fail
              refine (H5.out _).mono ?_
              rintro e w6 ⟨rfl, ho⟩
              clear k1
              replace OO := Lib.hid (OO.out.nil_trans ho); replace B1 := Lib.hid (ho.got B1.out (by simp))
              clear ho
              have k1 := c_5 B1.out
              go_wp2
              go_ret
              exact ⟨rfl, OO.out⟩
            · obtain rfl : res = 0 := by have := HE.out; simpa [hlt] using this
              clear HE
              go_enter Tryz.func74, Tryz.ntmps74
              go_upto_region 1 with (fail)
              refine alloc_abs (G := fun w0 => Code.wp _ _ _ _ w0) ?_
              intro w1 hb1 ho1 hs1
              obtain ⟨b1, hbe1⟩ : ∃ b, w.heap.size = b := ⟨_, rfl⟩
              rw [hbe1] at hb1
              rw [hbe1]
              have HN : Hid (w.heap.size ≤ b1) := Lib.hid (by omega)
              have B1 := Lib.hid hb1; have OO := Lib.hid ho1
              clear hb1 hs1 hbe1
              clear ho1
              have k1 := c_5 B1.out
              go_wp2_with fail
              refine (H1.out _).mono ?_
              rintro e w2 ⟨rfl, ho⟩
              clear k1
              replace OO := Lib.hid (OO.out.nil_trans ho); replace B1 := Lib.hid (ho.got B1.out (by simp))
              clear ho
              have k1 := c_5 B1.out
              go_wp2_with fail
              refine (H2.out _).mono ?_
              rintro e w3 ⟨rfl, ho⟩
              clear k1
              replace OO := Lib.hid (OO.out.nil_trans ho); replace B1 := Lib.hid (ho.got B1.out (by simp))
              clear ho
              have k1 := c_5 B1.out
              go_wp2_with fail
              refine (H3.out _).mono ?_
              rintro e w4 ⟨rfl, ho⟩
              clear k1
              replace OO := Lib.hid (OO.out.nil_trans ho); replace B1 := Lib.hid (ho.got B1.out (by simp))
              clear ho
              have k1 := c_5 B1.out
              go_wp2_with fail
              refine (H4.out _).mono ?_
              rintro e w5 ⟨rfl, ho⟩
              clear k1
              replace OO := Lib.hid (OO.out.nil_trans ho); replace B1 := Lib.hid (ho.got B1.out (by simp))
              clear ho
              have k1 := c_5 B1.out
              go_wp2_with fail
              refine (H5.out _).mono ?_
              rintro e w6 ⟨rfl, ho⟩
              clear k1
              replace OO := Lib.hid (OO.out.nil_trans ho); replace B1 := Lib.hid (ho.got B1.out (by simp))
              clear ho
              have k1 := c_5 B1.out
              go_wp2
              go_ret
              exact ⟨rfl, OO.out⟩
set_option maxRecDepth 100000 in
set_option maxHeartbeats 1000000 in
theorem pShift (r : Rch) (w : World) :
    Calls Tryz.prog 40 #[rcV r, .bool false] w fun e w' => e = .returned (rcV (rshift r)) ∧ Only [] w w' := by
  obtain ⟨bi, po, mn, mx, cn⟩ := r
  have HC := Lib.hid (fun w' => pRChk ⟨bi, po, mn, mx, cn⟩ w')
  have hb := fun h => rchk_ok.1 (show rchk ⟨bi, po, mn, mx, cn⟩ = 0 from h)
  have HE : Hid (rshift ⟨bi, po, mn, mx, cn⟩ = if rchk ⟨bi, po, mn, mx, cn⟩ = 0 then ⟨bi * 2 % 256, po, mn, mx, cn⟩ else rc0) := Lib.hid rfl
  generalize rshift ⟨bi, po, mn, mx, cn⟩ = res at HE ⊢
  obtain ⟨er, her⟩ : ∃ er, rchk ⟨bi, po, mn, mx, cn⟩ = er := ⟨_, rfl⟩
  rw [her] at HC HE hb
  clear her
  unfold rcV at HC ⊢
  dsimp only at HC hb ⊢
  by_cases h0 : er = 0
  · obtain ⟨⟨x1, x2⟩, ⟨x3, x4⟩, ⟨x5, x6⟩, x7, ⟨x8, x9⟩, x10, x11⟩ := hb h0
    subst h0
    obtain ⟨v, hv⟩ : ∃ v, bi * 2 % 256 = v := ⟨_, rfl⟩
    obtain ⟨v2, hv2⟩ : ∃ v, bi * 2 = v := ⟨_, rfl⟩
    have hvb : 0 ≤ v2 ∧ v2 ≤ 510 := by omega
    have hwr : IntKind.i64.wrap v2 = v2 := by rw [IntKind.wrap_i64]; omega
    have htm : v2.tmod 256 = v := by rw [Int.tmod_eq_emod_of_nonneg hvb.1, ← hv2]; exact hv
    rw [hv] at HE
    obtain rfl : res = ⟨v, po, mn, mx, cn⟩ := by rw [HE.out, if_pos rfl]
    dsimp only
    clear HE hb hv
    go_enter Tryz.func40, Tryz.ntmps40
    go_upto_region 1 with (fail)
    refine wabs (G := fun w0 => Code.wp _ _ _ _ w0) (R := fun w1 => w1.heap[w.heap.size]? = some (.cells #[.int .i64 bi, .int .i64 po, .int .i64 mn, .int .i64 mx, .int .i64 cn] 91 (0, 0)) ∧ w1.heap[w.heap.size + 1]? = some (.cells #[.int .i64 0, .int .i64 0, .int .i64 0, .int .i64 0, .int .i64 0] 91 (0, 0)) ∧ Only [] w w1) ?_ ?_
    · skip
      have k0 := alloc_new w (.cells #[.int .i64 bi, .int .i64 po, .int .i64 mn, .int .i64 mx, .int .i64 cn] 91)
      have k1 := alloc_new (w.alloc (.cells #[.int .i64 bi, .int .i64 po, .int .i64 mn, .int .i64 mx, .int .i64 cn] 91)) (.cells #[.int .i64 0, .int .i64 0, .int .i64 0, .int .i64 0, .int .i64 0] 91)
      simp only [World.size_alloc] at k0 k1
      exact ⟨(alloc_old k0), k1, (((Only.refl [] w).alloc _).alloc _)⟩
    rintro w1 ⟨h1, h2, ho1⟩
    obtain ⟨b1, hb1⟩ : ∃ b, w.heap.size = b := ⟨_, rfl⟩
    obtain ⟨b2, hb2⟩ : ∃ b, w.heap.size + 1 = b := ⟨_, rfl⟩
    have HN : Hid (w.heap.size ≤ b1 ∧ w.heap.size ≤ b2 ∧ b1 ≠ b2 ∧ b2 ≠ b1) := Lib.hid (by omega)
    rw [hb1] at h1
    rw [hb2] at h2
    rw [show w.heap.size + 1 = b2 from hb2, hb1]
    have B1 := Lib.hid h1; have B2 := Lib.hid h2; have OO := Lib.hid ho1
    clear h1 h2 hb1 hb2
    clear ho1
    have k1 := c_5 B1.out; have k2 := c_5 B2.out
    go_wp2_with fail
    refine (HC.out _).mono ?_
    rintro e w2 ⟨rfl, ho⟩
    clear k1 k2
    replace OO := Lib.hid (OO.out.nil_trans ho); replace B1 := Lib.hid (ho.got B1.out (by simp)); replace B2 := Lib.hid (ho.got B2.out (by simp))
    clear ho
    have k1 := c_5 B1.out; have k2 := c_5 B2.out
    go_upto_region 6 with (fail)
    refine wabs (G := fun w0 => Code.wp _ _ _ _ w0) (R := fun w3 => w3.heap[b1]? = some (.cells #[.int .i64 v, .int .i64 po, .int .i64 mn, .int .i64 mx, .int .i64 cn] 91 (0, 0)) ∧ w3.heap[b2]? = some (.cells #[.int .i64 0, .int .i64 0, .int .i64 0, .int .i64 0, .int .i64 0] 91 (0, 0)) ∧ Only [] w w3) ⟨(setCell_got (o := 0) (.int .i64 v) B1.out), (setCell_oth (.int .i64 v) B2.out HN.out.2.2.2), (OO.out.setCell (.inr HN.out.1) _)⟩ ?_
    rintro w3 ⟨g1, g2, ho⟩
    clear k1 k2
    replace B1 := Lib.hid g1; replace B2 := Lib.hid g2; replace OO := Lib.hid ho
    clear ho g1 g2
    have k1 := c_5 B1.out; have k2 := c_5 B2.out
    go_wp2
    have HD := setCell_got (o := 4) (.int .i64 cn) (setCell_got (o := 3) (.int .i64 mx) (setCell_got (o := 2) (.int .i64 mn) (setCell_got (o := 1) (.int .i64 po) (setCell_got (o := 0) (.int .i64 v) (B2.out)))))
    have e0 := cell_got HD 0; have e1 := cell_got HD 1; have e2 := cell_got HD 2; have e3 := cell_got HD 3; have e4 := cell_got HD 4; have le := got_lt HD
    refine bodyPost_ret (v := .agg #[.int .i64 v, .int .i64 po, .int .i64 mn, .int .i64 mx, .int .i64 cn]) (by simp [results, Tryz.results40, go_sem, e0, e1, e2, e3, e4]) rfl ⟨rfl, (((((OO.out.setCell (.inr HN.out.2.1) _).setCell (.inr HN.out.2.1) _).setCell (.inr HN.out.2.1) _).setCell (.inr HN.out.2.1) _).setCell (.inr HN.out.2.1) _)⟩
  · have q1 : (er != 0) = true := by simpa using h0
    have q2 : (er == 0) = false := by simpa using h0
    obtain rfl : res = rc0 := by rw [HE.out, if_neg h0]
    unfold rc0
    dsimp only
    clear HE hb h0
    go_enter Tryz.func40, Tryz.ntmps40
    go_upto_region 1 with (fail)
    refine wabs (G := fun w0 => Code.wp _ _ _ _ w0) (R := fun w1 => w1.heap[w.heap.size]? = some (.cells #[.int .i64 bi, .int .i64 po, .int .i64 mn, .int .i64 mx, .int .i64 cn] 91 (0, 0)) ∧ w1.heap[w.heap.size + 1]? = some (.cells #[.int .i64 0, .int .i64 0, .int .i64 0, .int .i64 0, .int .i64 0] 91 (0, 0)) ∧ Only [] w w1) ?_ ?_
    · skip
      have k0 := alloc_new w (.cells #[.int .i64 bi, .int .i64 po, .int .i64 mn, .int .i64 mx, .int .i64 cn] 91)
      have k1 := alloc_new (w.alloc (.cells #[.int .i64 bi, .int .i64 po, .int .i64 mn, .int .i64 mx, .int .i64 cn] 91)) (.cells #[.int .i64 0, .int .i64 0, .int .i64 0, .int .i64 0, .int .i64 0] 91)
      simp only [World.size_alloc] at k0 k1
      exact ⟨(alloc_old k0), k1, (((Only.refl [] w).alloc _).alloc _)⟩
    rintro w1 ⟨h1, h2, ho1⟩
    obtain ⟨b1, hb1⟩ : ∃ b, w.heap.size = b := ⟨_, rfl⟩
    obtain ⟨b2, hb2⟩ : ∃ b, w.heap.size + 1 = b := ⟨_, rfl⟩
    have HN : Hid (w.heap.size ≤ b1 ∧ w.heap.size ≤ b2 ∧ b1 ≠ b2 ∧ b2 ≠ b1) := Lib.hid (by omega)
    rw [hb1] at h1
    rw [hb2] at h2
    rw [show w.heap.size + 1 = b2 from hb2, hb1]
    have B1 := Lib.hid h1; have B2 := Lib.hid h2; have OO := Lib.hid ho1
    clear h1 h2 hb1 hb2
    clear ho1
    have k1 := c_5 B1.out; have k2 := c_5 B2.out
    go_wp2_with fail
    refine (HC.out _).mono ?_
    rintro e w2 ⟨rfl, ho⟩
    clear k1 k2
    replace OO := Lib.hid (OO.out.nil_trans ho); replace B1 := Lib.hid (ho.got B1.out (by simp)); replace B2 := Lib.hid (ho.got B2.out (by simp))
    clear ho
    have k1 := c_5 B1.out; have k2 := c_5 B2.out
    go_wp2
    have HD := setCell_got (o := 4) (.int .i64 0) (setCell_got (o := 3) (.int .i64 0) (setCell_got (o := 2) (.int .i64 0) (setCell_got (o := 1) (.int .i64 0) (setCell_got (o := 0) (.int .i64 0) (B2.out)))))
    have e0 := cell_got HD 0; have e1 := cell_got HD 1; have e2 := cell_got HD 2; have e3 := cell_got HD 3; have e4 := cell_got HD 4; have le := got_lt HD
    refine bodyPost_ret (v := .agg #[.int .i64 0, .int .i64 0, .int .i64 0, .int .i64 0, .int .i64 0]) (by simp [results, Tryz.results40, go_sem, e0, e1, e2, e3, e4]) rfl ⟨rfl, (((((OO.out.setCell (.inr HN.out.2.1) _).setCell (.inr HN.out.2.1) _).setCell (.inr HN.out.2.1) _).setCell (.inr HN.out.2.1) _).setCell (.inr HN.out.2.1) _)⟩
set_option maxRecDepth 100000 in
set_option maxHeartbeats 1000000 in
theorem pBack (r : Rch) (w : World) :
    Calls Tryz.prog 42 #[rcV r] w fun e w' => e = .returned (rcV (rback r)) ∧ Only [] w w' := by
  obtain ⟨bi, po, mn, mx, cn⟩ := r
  have HC := Lib.hid (fun w' => pRChk ⟨bi, po, mn, mx, cn⟩ w')
  have hb := fun h => rchk_ok.1 (show rchk ⟨bi, po, mn, mx, cn⟩ = 0 from h)
  have HE : Hid (rback ⟨bi, po, mn, mx, cn⟩ = if rchk ⟨bi, po, mn, mx, cn⟩ = 0 then ⟨bi, min (po + 2) mx, mn, mx, 0⟩ else rc0) := Lib.hid rfl
  generalize rback ⟨bi, po, mn, mx, cn⟩ = res at HE ⊢
  obtain ⟨er, her⟩ : ∃ er, rchk ⟨bi, po, mn, mx, cn⟩ = er := ⟨_, rfl⟩
  rw [her] at HC HE hb
  clear her
  unfold rcV at HC ⊢
  dsimp only at HC hb ⊢
  by_cases h0 : er = 0
  · obtain ⟨⟨x1, x2⟩, ⟨x3, x4⟩, ⟨x5, x6⟩, x7, ⟨x8, x9⟩, x10, x11⟩ := hb h0
    subst h0
    obtain ⟨v, hv⟩ : ∃ v, min (po + 2) mx = v := ⟨_, rfl⟩
    have hwr : IntKind.i64.wrap (po + 2) = po + 2 := by rw [IntKind.wrap_i64]; omega
    rw [hv] at HE
    obtain rfl : res = ⟨bi, v, mn, mx, 0⟩ := by rw [HE.out, if_pos rfl]
    dsimp only
    clear HE hb
    go_enter Tryz.func42, Tryz.ntmps42
    go_upto_region 1 with (fail)
    refine wabs (G := fun w0 => Code.wp _ _ _ _ w0) (R := fun w1 => w1.heap[w.heap.size]? = some (.cells #[.int .i64 bi, .int .i64 po, .int .i64 mn, .int .i64 mx, .int .i64 cn] 91 (0, 0)) ∧ w1.heap[w.heap.size + 1]? = some (.cells #[.int .i64 0, .int .i64 0, .int .i64 0, .int .i64 0, .int .i64 0] 91 (0, 0)) ∧ Only [] w w1) ?_ ?_
    · skip
      have k0 := alloc_new w (.cells #[.int .i64 bi, .int .i64 po, .int .i64 mn, .int .i64 mx, .int .i64 cn] 91)
      have k1 := alloc_new (w.alloc (.cells #[.int .i64 bi, .int .i64 po, .int .i64 mn, .int .i64 mx, .int .i64 cn] 91)) (.cells #[.int .i64 0, .int .i64 0, .int .i64 0, .int .i64 0, .int .i64 0] 91)
      simp only [World.size_alloc] at k0 k1
      exact ⟨(alloc_old k0), k1, (((Only.refl [] w).alloc _).alloc _)⟩
    rintro w1 ⟨h1, h2, ho1⟩
    obtain ⟨b1, hb1⟩ : ∃ b, w.heap.size = b := ⟨_, rfl⟩
    obtain ⟨b2, hb2⟩ : ∃ b, w.heap.size + 1 = b := ⟨_, rfl⟩
    have HN : Hid (w.heap.size ≤ b1 ∧ w.heap.size ≤ b2 ∧ b1 ≠ b2 ∧ b2 ≠ b1) := Lib.hid (by omega)
    rw [hb1] at h1
    rw [hb2] at h2
    rw [show w.heap.size + 1 = b2 from hb2, hb1]
    have B1 := Lib.hid h1; have B2 := Lib.hid h2; have OO := Lib.hid ho1
    clear h1 h2 hb1 hb2
    clear ho1
    have k1 := c_5 B1.out; have k2 := c_5 B2.out
    go_wp2_with fail
    refine (HC.out _).mono ?_
    rintro e w2 ⟨rfl, ho⟩
    clear k1 k2
    replace OO := Lib.hid (OO.out.nil_trans ho); replace B1 := Lib.hid (ho.got B1.out (by simp)); replace B2 := Lib.hid (ho.got B2.out (by simp))
    clear ho
    have k1 := c_5 B1.out; have k2 := c_5 B2.out
    go_upto_region 5 with (fail)
    refine wabs (G := fun w0 => Code.wp _ _ _ _ w0) (R := fun w3 => w3.heap[b1]? = some (.cells #[.int .i64 bi, .int .i64 v, .int .i64 mn, .int .i64 mx, .int .i64 0] 91 (0, 0)) ∧ w3.heap[b2]? = some (.cells #[.int .i64 0, .int .i64 0, .int .i64 0, .int .i64 0, .int .i64 0] 91 (0, 0)) ∧ Only [] w w3) ⟨(setCell_got (o := 4) (.int .i64 0) (setCell_got (o := 1) (.int .i64 v) B1.out)), (setCell_oth (.int .i64 0) (setCell_oth (.int .i64 v) B2.out HN.out.2.2.2) HN.out.2.2.2), ((OO.out.setCell (.inr HN.out.1) _).setCell (.inr HN.out.1) _)⟩ ?_
    rintro w3 ⟨g1, g2, ho⟩
    clear k1 k2
    replace B1 := Lib.hid g1; replace B2 := Lib.hid g2; replace OO := Lib.hid ho
    clear ho g1 g2
    have k1 := c_5 B1.out; have k2 := c_5 B2.out
    go_wp2
    have HD := setCell_got (o := 4) (.int .i64 0) (setCell_got (o := 3) (.int .i64 mx) (setCell_got (o := 2) (.int .i64 mn) (setCell_got (o := 1) (.int .i64 v) (setCell_got (o := 0) (.int .i64 bi) (B2.out)))))
    have e0 := cell_got HD 0; have e1 := cell_got HD 1; have e2 := cell_got HD 2; have e3 := cell_got HD 3; have e4 := cell_got HD 4; have le := got_lt HD
    refine bodyPost_ret (v := .agg #[.int .i64 bi, .int .i64 v, .int .i64 mn, .int .i64 mx, .int .i64 0]) (by simp [results, Tryz.results42, go_sem, e0, e1, e2, e3, e4]) rfl ⟨rfl, (((((OO.out.setCell (.inr HN.out.2.1) _).setCell (.inr HN.out.2.1) _).setCell (.inr HN.out.2.1) _).setCell (.inr HN.out.2.1) _).setCell (.inr HN.out.2.1) _)⟩
  · have q1 : (er != 0) = true := by simpa using h0
    have q2 : (er == 0) = false := by simpa using h0
    obtain rfl : res = rc0 := by rw [HE.out, if_neg h0]
    unfold rc0
    dsimp only
    clear HE hb h0
    go_enter Tryz.func42, Tryz.ntmps42
    go_upto_region 1 with (fail)
    refine wabs (G := fun w0 => Code.wp _ _ _ _ w0) (R := fun w1 => w1.heap[w.heap.size]? = some (.cells #[.int .i64 bi, .int .i64 po, .int .i64 mn, .int .i64 mx, .int .i64 cn] 91 (0, 0)) ∧ w1.heap[w.heap.size + 1]? = some (.cells #[.int .i64 0, .int .i64 0, .int .i64 0, .int .i64 0, .int .i64 0] 91 (0, 0)) ∧ Only [] w w1) ?_ ?_
    · skip
      have k0 := alloc_new w (.cells #[.int .i64 bi, .int .i64 po, .int .i64 mn, .int .i64 mx, .int .i64 cn] 91)
      have k1 := alloc_new (w.alloc (.cells #[.int .i64 bi, .int .i64 po, .int .i64 mn, .int .i64 mx, .int .i64 cn] 91)) (.cells #[.int .i64 0, .int .i64 0, .int .i64 0, .int .i64 0, .int .i64 0] 91)
      simp only [World.size_alloc] at k0 k1
      exact ⟨(alloc_old k0), k1, (((Only.refl [] w).alloc _).alloc _)⟩
    rintro w1 ⟨h1, h2, ho1⟩
    obtain ⟨b1, hb1⟩ : ∃ b, w.heap.size = b := ⟨_, rfl⟩
    obtain ⟨b2, hb2⟩ : ∃ b, w.heap.size + 1 = b := ⟨_, rfl⟩
    have HN : Hid (w.heap.size ≤ b1 ∧ w.heap.size ≤ b2 ∧ b1 ≠ b2 ∧ b2 ≠ b1) := Lib.hid (by omega)
    rw [hb1] at h1
    rw [hb2] at h2
    rw [show w.heap.size + 1 = b2 from hb2, hb1]
    have B1 := Lib.hid h1; have B2 := Lib.hid h2; have OO := Lib.hid ho1
    clear h1 h2 hb1 hb2
    clear ho1
    have k1 := c_5 B1.out; have k2 := c_5 B2.out
    go_wp2_with fail
    refine (HC.out _).mono ?_
    rintro e w2 ⟨rfl, ho⟩
    clear k1 k2
    replace OO := Lib.hid (OO.out.nil_trans ho); replace B1 := Lib.hid (ho.got B1.out (by simp)); replace B2 := Lib.hid (ho.got B2.out (by simp))
    clear ho
    have k1 := c_5 B1.out; have k2 := c_5 B2.out
    go_wp2
    have HD := setCell_got (o := 4) (.int .i64 0) (setCell_got (o := 3) (.int .i64 0) (setCell_got (o := 2) (.int .i64 0) (setCell_got (o := 1) (.int .i64 0) (setCell_got (o := 0) (.int .i64 0) (B2.out)))))
    have e0 := cell_got HD 0; have e1 := cell_got HD 1; have e2 := cell_got HD 2; have e3 := cell_got HD 3; have e4 := cell_got HD 4; have le := got_lt HD
    refine bodyPost_ret (v := .agg #[.int .i64 0, .int .i64 0, .int .i64 0, .int .i64 0, .int .i64 0]) (by simp [results, Tryz.results42, go_sem, e0, e1, e2, e3, e4]) rfl ⟨rfl, (((((OO.out.setCell (.inr HN.out.2.1) _).setCell (.inr HN.out.2.1) _).setCell (.inr HN.out.2.1) _).setCell (.inr HN.out.2.1) _).setCell (.inr HN.out.2.1) _)⟩
set_option maxRecDepth 100000 in
set_option maxHeartbeats 1000000 in
theorem pReach (r : Rch) (w : World) :
    Calls Tryz.prog 128 #[rcV r] w fun e w' => e = .returned (.bool (rreach r)) ∧ Only [] w w' := by
  obtain ⟨bi, po, mn, mx, cn⟩ := r
  have HC := Lib.hid (fun w' => pRChk ⟨bi, po, mn, mx, cn⟩ w')
  have hb := fun h => rchk_ok.1 (show rchk ⟨bi, po, mn, mx, cn⟩ = 0 from h)
  have HE : Hid (rreach ⟨bi, po, mn, mx, cn⟩ = (decide (rchk ⟨bi, po, mn, mx, cn⟩ = 0) && !decide (bi = 0))) := Lib.hid rfl
  generalize rreach ⟨bi, po, mn, mx, cn⟩ = res at HE ⊢
  clear hb
  generalize rchk ⟨bi, po, mn, mx, cn⟩ = er at HC HE
  unfold rcV at HC ⊢
  dsimp only at HC ⊢
  by_cases h0 : er = 0
  · subst h0
    by_cases hz : bi = 0
    · subst hz
      obtain rfl : res = false := by rw [HE.out]; rfl
      clear HE
      go_enter Tryz.func128, Tryz.ntmps128
      go_upto_region 1 with (fail)
      refine alloc_abs (G := fun w0 => Code.wp _ _ _ _ w0) ?_
      intro w1 hb1 ho1 hs1
      obtain ⟨b1, hbe1⟩ : ∃ b, w.heap.size = b := ⟨_, rfl⟩
      rw [hbe1] at hb1
      rw [hbe1]
      have HN : Hid (w.heap.size ≤ b1) := Lib.hid (by omega)
      have B1 := Lib.hid hb1; have OO := Lib.hid ho1
      clear hb1 hs1 hbe1
      clear ho1
      have k1 := c_5 B1.out
      go_wp2_with fail
      refine (HC.out _).mono ?_
      rintro e w2 ⟨rfl, ho⟩
      clear k1
      replace OO := Lib.hid (OO.out.nil_trans ho); replace B1 := Lib.hid (ho.got B1.out (by simp))
      clear ho
      have k1 := c_5 B1.out
      go_wp2
      go_ret
      exact ⟨rfl, OO.out⟩
    · have q1 : (bi != 0) = true := by simpa using hz
      have q2 : (bi == 0) = false := by simpa using hz
      obtain rfl : res = true := by rw [HE.out, decide_eq_false hz]; rfl
      clear HE hz
      go_enter Tryz.func128, Tryz.ntmps128
      go_upto_region 1 with (fail)
      refine alloc_abs (G := fun w0 => Code.wp _ _ _ _ w0) ?_
      intro w1 hb1 ho1 hs1
      obtain ⟨b1, hbe1⟩ : ∃ b, w.heap.size = b := ⟨_, rfl⟩
      rw [hbe1] at hb1
      rw [hbe1]
      have HN : Hid (w.heap.size ≤ b1) := Lib.hid (by omega)
      have B1 := Lib.hid hb1; have OO := Lib.hid ho1
      clear hb1 hs1 hbe1
      clear ho1
      have k1 := c_5 B1.out
      go_wp2_with fail
      refine (HC.out _).mono ?_
      rintro e w2 ⟨rfl, ho⟩
      clear k1
      replace OO := Lib.hid (OO.out.nil_trans ho); replace B1 := Lib.hid (ho.got B1.out (by simp))
      clear ho
      have k1 := c_5 B1.out
      go_wp2
      go_ret
      exact ⟨rfl, OO.out⟩
  · have q2 : (er == 0) = false := by simpa using h0
    obtain rfl : res = false := by rw [HE.out, decide_eq_false h0]; rfl
    clear HE h0
    go_enter Tryz.func128, Tryz.ntmps128
    go_upto_region 1 with (fail)
    refine alloc_abs (G := fun w0 => Code.wp _ _ _ _ w0) ?_
    intro w1 hb1 ho1 hs1
    obtain ⟨b1, hbe1⟩ : ∃ b, w.heap.size = b := ⟨_, rfl⟩
    rw [hbe1] at hb1
    rw [hbe1]
    have HN : Hid (w.heap.size ≤ b1) := Lib.hid (by omega)
    have B1 := Lib.hid hb1; have OO := Lib.hid ho1
    clear hb1 hs1 hbe1
    clear ho1
    have k1 := c_5 B1.out
    go_wp2_with fail
    refine (HC.out _).mono ?_
    rintro e w2 ⟨rfl, ho⟩
    clear k1
    replace OO := Lib.hid (OO.out.nil_trans ho); replace B1 := Lib.hid (ho.got B1.out (by simp))
    clear ho
    have k1 := c_5 B1.out
    go_wp2
    go_ret
    exact ⟨rfl, OO.out⟩
end Go.Proofs.YtikjdmbfjkbndaaGreat
