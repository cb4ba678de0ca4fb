/- The walks of package drift. No condition. -/
import Derived.Test.YtikjdmbfjkbndaaGreatC1
namespace Go.Proofs.YtikjdmbfjkbndaaGreat
open Go.RowKit

theorem two_eq {a b c d : Value} (h : a = c) (h2 : b = d) : Ending.returned (.tuple #[a, b]) = .returned (.tuple #[c, d]) := by rw [h, h2]
set_option maxRecDepth 100000 in
set_option maxHeartbeats 1000000 in
theorem pChecked (lo hi : Int) (w : World) :
    Calls Tryz.prog 141 #[.int .i64 lo, .int .i64 hi] w fun e w' => e = .returned (.tuple #[ivV (ckd lo hi).1, .int .i64 (ckd lo hi).2]) ∧ Only [] w w' := by
  have HC := Lib.hid (fun w' => pDriftCheck ⟨lo, hi⟩ w')
  have HR : Hid (ckd lo hi = if ivOk ⟨lo, hi⟩ = true then (⟨lo, hi⟩, 0) else (⟨0, 0⟩, 3)) := Lib.hid rfl
  generalize ckd lo hi = res at HR ⊢
  obtain ⟨⟨r0, r1⟩, re⟩ := res
  cases hok : ivOk ⟨lo, hi⟩
  · rw [hok] at HC HR
    obtain ⟨⟨rfl, rfl⟩, rfl⟩ : (r0 = 0 ∧ r1 = 0) ∧ re = 3 := by have := HR.out; simpa using this
    unfold ivV at HC ⊢
    dsimp only at HC ⊢
    clear HR hok
    go_enter Tryz.func141, Tryz.ntmps141
    go_upto_region 2 with (fail)
    refine wabs (G := fun w0 => Code.wp _ _ _ _ w0) (R := fun w1 => w1.heap[w.heap.size]? = some (.cells #[.int .i64 0, .int .i64 0] 45 (0, 0)) ∧ w1.heap[w.heap.size + 1]? = some (.cells #[.int .i64 lo, .int .i64 hi] 45 (0, 0)) ∧ Only [] w w1) ?_ ?_
    · skip
      have k0 := alloc_new w (.cells #[.int .i64 0, .int .i64 0] 45)
      have k1 := alloc_new (w.alloc (.cells #[.int .i64 0, .int .i64 0] 45)) (.cells #[.int .i64 lo, .int .i64 hi] 45)
      simp only [World.size_alloc] at k0 k1
      exact ⟨(alloc_old k0), k1, (((Only.refl [] w).alloc _).alloc _)⟩
    rintro w1 ⟨h1, h2, ho1⟩
    obtain ⟨b1, hb1⟩ : ∃ b, w.heap.size = b := ⟨_, rfl⟩
    obtain ⟨b2, hb2⟩ : ∃ b, w.heap.size + 1 = b := ⟨_, rfl⟩
    have HN : Hid (w.heap.size ≤ b1 ∧ w.heap.size ≤ b2 ∧ b1 ≠ b2 ∧ b2 ≠ b1) := Lib.hid (by omega)
    rw [hb1] at h1
    rw [hb2] at h2
    rw [show w.heap.size + 1 = b2 from hb2, hb1]
    have B1 := Lib.hid h1; have B2 := Lib.hid h2; have OO := Lib.hid ho1
    clear h1 h2 hb1 hb2
    clear ho1
    have k1 := c_2 B1.out; have k2 := c_2 B2.out
    go_wp2_with fail
    refine (HC.out _).mono ?_
    rintro e w2 ⟨rfl, ho⟩
    clear k1 k2
    replace OO := Lib.hid (OO.out.nil_trans ho); replace B1 := Lib.hid (ho.got B1.out (by simp)); replace B2 := Lib.hid (ho.got B2.out (by simp))
    clear ho
    have k1 := c_2 B1.out; have k2 := c_2 B2.out
    go_wp2
    have HD := setCell_got (o := 1) (.int .i64 0) (setCell_got (o := 0) (.int .i64 0) (B1.out))
    have e0 := cell_got HD 0; have e1 := cell_got HD 1; have le := got_lt HD
    refine bodyPost_ret (v := .tuple #[.agg #[.int .i64 0, .int .i64 0], .int .i64 3]) (by simp [results, Tryz.results141, go_sem, e0, e1]) rfl ⟨rfl, ((OO.out.setCell (.inr HN.out.1) _).setCell (.inr HN.out.1) _)⟩
  · rw [hok] at HC HR
    obtain ⟨⟨rfl, rfl⟩, rfl⟩ : (r0 = lo ∧ r1 = hi) ∧ re = 0 := by have := HR.out; simpa using this
    unfold ivV at HC ⊢
    dsimp only at HC ⊢
    clear HR hok
    go_enter Tryz.func141, Tryz.ntmps141
    go_upto_region 2 with (fail)
    refine wabs (G := fun w0 => Code.wp _ _ _ _ w0) (R := fun w1 => w1.heap[w.heap.size]? = some (.cells #[.int .i64 0, .int .i64 0] 45 (0, 0)) ∧ w1.heap[w.heap.size + 1]? = some (.cells #[.int .i64 r0, .int .i64 r1] 45 (0, 0)) ∧ Only [] w w1) ?_ ?_
    · skip
      have k0 := alloc_new w (.cells #[.int .i64 0, .int .i64 0] 45)
      have k1 := alloc_new (w.alloc (.cells #[.int .i64 0, .int .i64 0] 45)) (.cells #[.int .i64 r0, .int .i64 r1] 45)
      simp only [World.size_alloc] at k0 k1
      exact ⟨(alloc_old k0), k1, (((Only.refl [] w).alloc _).alloc _)⟩
    rintro w1 ⟨h1, h2, ho1⟩
    obtain ⟨b1, hb1⟩ : ∃ b, w.heap.size = b := ⟨_, rfl⟩
    obtain ⟨b2, hb2⟩ : ∃ b, w.heap.size + 1 = b := ⟨_, rfl⟩
    have HN : Hid (w.heap.size ≤ b1 ∧ w.heap.size ≤ b2 ∧ b1 ≠ b2 ∧ b2 ≠ b1) := Lib.hid (by omega)
    rw [hb1] at h1
    rw [hb2] at h2
    rw [show w.heap.size + 1 = b2 from hb2, hb1]
    have B1 := Lib.hid h1; have B2 := Lib.hid h2; have OO := Lib.hid ho1
    clear h1 h2 hb1 hb2
    clear ho1
    have k1 := c_2 B1.out; have k2 := c_2 B2.out
    go_wp2_with fail
    refine (HC.out _).mono ?_
    rintro e w2 ⟨rfl, ho⟩
    clear k1 k2
    replace OO := Lib.hid (OO.out.nil_trans ho); replace B1 := Lib.hid (ho.got B1.out (by simp)); replace B2 := Lib.hid (ho.got B2.out (by simp))
    clear ho
    have k1 := c_2 B1.out; have k2 := c_2 B2.out
    go_wp2
    have HD := setCell_got (o := 1) (.int .i64 r1) (setCell_got (o := 0) (.int .i64 r0) (B1.out))
    have e0 := cell_got HD 0; have e1 := cell_got HD 1; have le := got_lt HD
    refine bodyPost_ret (v := .tuple #[.agg #[.int .i64 r0, .int .i64 r1], .int .i64 0]) (by simp [results, Tryz.results141, go_sem, e0, e1]) rfl ⟨rfl, ((OO.out.setCell (.inr HN.out.1) _).setCell (.inr HN.out.1) _)⟩
set_option maxRecDepth 100000 in
set_option maxHeartbeats 1000000 in
theorem pElapsed (raw tol : Int) (w : World) :
    Calls Tryz.prog 140 #[.int .i64 raw, .int .i64 tol] w fun e w' => e = .returned (.tuple (if elOk raw tol = true then #[.int .i64 (elLo raw tol), .int .i64 (elHi raw tol), .int .i64 0] else #[.int .i64 0, .int .i64 0, .int .i64 3])) ∧ Only [] w w' := by
  by_cases h0 : raw < 0

  · have a0 : decide (raw < 0) = true := decide_eq_true h0
    rw [show elOk raw tol = false from by unfold elOk; rw [decide_eq_false_iff_not]; omega]
    go_enter Tryz.func140, Tryz.ntmps140
    have OO := Lib.hid (Only.refl [] w)
    go_wp2
    go_ret3
    exact ⟨rfl, OO.out⟩
  · have a0 : decide (raw < 0) = false := decide_eq_false h0
    by_cases h1 : 2251799813685248 < raw
    · have a1 : decide (2251799813685248 < raw) = true := decide_eq_true h1
      rw [show elOk raw tol = false from by unfold elOk; rw [decide_eq_false_iff_not]; omega]
      go_enter Tryz.func140, Tryz.ntmps140
      have OO := Lib.hid (Only.refl [] w)
      go_wp2
      go_ret3
      exact ⟨rfl, OO.out⟩
    · have a1 : decide (2251799813685248 < raw) = false := decide_eq_false h1
      by_cases h2 : tol < 0
      · have a2 : decide (tol < 0) = true := decide_eq_true h2
        rw [show elOk raw tol = false from by unfold elOk; rw [decide_eq_false_iff_not]; omega]
        go_enter Tryz.func140, Tryz.ntmps140
        have OO := Lib.hid (Only.refl [] w)
        go_wp2
        go_ret3
        exact ⟨rfl, OO.out⟩
      · have a2 : decide (tol < 0) = false := decide_eq_false h2
        by_cases h3 : 500000 < tol
        · have a3 : decide (500000 < tol) = true := decide_eq_true h3
          rw [show elOk raw tol = false from by unfold elOk; rw [decide_eq_false_iff_not]; omega]
          go_enter Tryz.func140, Tryz.ntmps140
          have OO := Lib.hid (Only.refl [] w)
          go_wp2
          go_ret3
          exact ⟨rfl, OO.out⟩
        · have a3 : decide (500000 < tol) = false := decide_eq_false h3
          have hok : elOk raw tol = true := elOk_iff.2 (by omega)
          have hl := lo_bd hok
          have hh := hi_bd hok
          have HE : Hid (elLo raw tol = max 0 ((raw - 1) * 1000000000 / (1000000000 + tol) + 1) ∧ elHi raw tol = -(-(raw + 1) * 1000000000 / (1000000000 - tol)) - 1) := Lib.hid ⟨rfl, rfl⟩
          have HM1 := Lib.hid (fun w' => o_drew (fmuldiv (raw - 1) 1000000000 (1000000000 + tol) w' (by omega) (by omega) (by omega) (by omega) (by omega) (by omega)))
          have HM2 := Lib.hid (fun w' => o_drew (fmuldiv (-(raw + 1)) 1000000000 (1000000000 - tol) w' (by omega) (by omega) (by omega) (by omega) (by omega) (by omega)))
          generalize (raw - 1) * 1000000000 / (1000000000 + tol) = x1 at hl HE HM1
          generalize -(raw + 1) * 1000000000 / (1000000000 - tol) = x2 at hh HE HM2
          rw [orZ_yes (by omega) (by omega), inI_yes (by omega) (by omega)] at HM1 HM2
          rw [hok]
          generalize elLo raw tol = y1 at HE ⊢
          generalize elHi raw tol = y2 at HE ⊢
          obtain ⟨l1, l2⟩ := hl
          obtain ⟨g1, g2⟩ := hh
          clear hok
          go_enter Tryz.func140, Tryz.ntmps140
          have OO := Lib.hid (Only.refl [] w)
          go_wp2_with fail
          refine (HM1.out _).mono ?_
          rintro e w2 ⟨rfl, ho⟩
          replace OO := Lib.hid (OO.out.nil_trans ho)
          clear ho
          go_wp2_with fail
          refine (HM2.out _).mono ?_
          rintro e w3 ⟨rfl, ho⟩
          replace OO := Lib.hid (OO.out.nil_trans ho)
          clear ho
          go_wp2
          go_ret3
          exact ⟨by rw [HE.out.1, HE.out.2]; rfl, OO.out⟩
set_option maxRecDepth 100000 in
set_option maxHeartbeats 1000000 in
theorem pAge (x : Iv) (raw tol : Int) (w : World) :
    Calls Tryz.prog 142 #[ivV x, .int .i64 raw, .int .i64 tol] w fun e w' => e = .returned (.tuple #[ivV (ageI x raw tol).1, .int .i64 (ageI x raw tol).2]) ∧ Only [] w w' := by
  obtain ⟨lo, hi⟩ := x
  have HC := Lib.hid (fun w' => pDriftCheck ⟨lo, hi⟩ w')
  have HE := Lib.hid (fun w' => pElapsed raw tol w')
  have hib := fun h => ivOk_iff.1 (show ivOk ⟨lo, hi⟩ = true from h)
  have heb := fun h => el_bd (show elOk raw tol = true from h)
  have HR : Hid (ageI ⟨lo, hi⟩ raw tol = if ivOk ⟨lo, hi⟩ = true then (if elOk raw tol = true then ckd (lo + elLo raw tol) (hi + elHi raw tol) else (⟨0, 0⟩, 3)) else (⟨0, 0⟩, 2)) := Lib.hid rfl
  generalize ageI ⟨lo, hi⟩ raw tol = res at HR ⊢
  cases hok : ivOk ⟨lo, hi⟩
  · rw [hok] at HC HR
    obtain rfl : res = (⟨0, 0⟩, 2) := by have := HR.out; simpa using this
    unfold ivV at HC ⊢
    dsimp only at HC ⊢
    clear HR hok hib heb HE
    go_enter Tryz.func142, Tryz.ntmps142
    go_upto_region 1 with (fail)
    refine wabs (G := fun w0 => Code.wp _ _ _ _ w0) (R := fun w1 => w1.heap[w.heap.size]? = some (.cells #[.int .i64 lo, .int .i64 hi] 45 (0, 0)) ∧ w1.heap[w.heap.size + 1]? = some (.cells #[.int .i64 0, .int .i64 0] 45 (0, 0)) ∧ Only [] w w1) ?_ ?_
    · skip
      have k0 := alloc_new w (.cells #[.int .i64 lo, .int .i64 hi] 45)
      have k1 := alloc_new (w.alloc (.cells #[.int .i64 lo, .int .i64 hi] 45)) (.cells #[.int .i64 0, .int .i64 0] 45)
      simp only [World.size_alloc] at k0 k1
      exact ⟨(alloc_old k0), k1, (((Only.refl [] w).alloc _).alloc _)⟩
    rintro w1 ⟨h1, h2, ho1⟩
    obtain ⟨b1, hb1⟩ : ∃ b, w.heap.size = b := ⟨_, rfl⟩
    obtain ⟨b2, hb2⟩ : ∃ b, w.heap.size + 1 = b := ⟨_, rfl⟩
    have HN : Hid (w.heap.size ≤ b1 ∧ w.heap.size ≤ b2 ∧ b1 ≠ b2 ∧ b2 ≠ b1) := Lib.hid (by omega)
    rw [hb1] at h1
    rw [hb2] at h2
    rw [show w.heap.size + 1 = b2 from hb2, hb1]
    have B1 := Lib.hid h1; have B2 := Lib.hid h2; have OO := Lib.hid ho1
    clear h1 h2 hb1 hb2
    clear ho1
    have k1 := c_2 B1.out; have k2 := c_2 B2.out
    go_wp2_with fail
    refine (HC.out _).mono ?_
    rintro e w2 ⟨rfl, ho⟩
    clear k1 k2
    replace OO := Lib.hid (OO.out.nil_trans ho); replace B1 := Lib.hid (ho.got B1.out (by simp)); replace B2 := Lib.hid (ho.got B2.out (by simp))
    clear ho
    have k1 := c_2 B1.out; have k2 := c_2 B2.out
    go_wp2
    have HD := setCell_got (o := 1) (.int .i64 0) (setCell_got (o := 0) (.int .i64 0) (B2.out))
    have e0 := cell_got HD 0; have e1 := cell_got HD 1; have le := got_lt HD
    refine bodyPost_ret (v := .tuple #[.agg #[.int .i64 0, .int .i64 0], .int .i64 2]) (by simp [results, Tryz.results142, go_sem, e0, e1]) rfl ⟨rfl, ((OO.out.setCell (.inr HN.out.2.1) _).setCell (.inr HN.out.2.1) _)⟩
  · obtain ⟨i0, i1, i2⟩ := hib hok
    rw [hok] at HC HR
    clear hib hok
    dsimp only at i0 i1 i2
    cases hel : elOk raw tol
    · rw [hel] at HE HR
      obtain rfl : res = (⟨0, 0⟩, 3) := by have := HR.out; simpa using this
      unfold ivV at HC ⊢
      dsimp only at HC ⊢
      clear HR hel heb
      go_enter Tryz.func142, Tryz.ntmps142
      go_upto_region 1 with (fail)
      refine wabs (G := fun w0 => Code.wp _ _ _ _ w0) (R := fun w1 => w1.heap[w.heap.size]? = some (.cells #[.int .i64 lo, .int .i64 hi] 45 (0, 0)) ∧ w1.heap[w.heap.size + 1]? = some (.cells #[.int .i64 0, .int .i64 0] 45 (0, 0)) ∧ Only [] w w1) ?_ ?_
      · skip
        have k0 := alloc_new w (.cells #[.int .i64 lo, .int .i64 hi] 45)
        have k1 := alloc_new (w.alloc (.cells #[.int .i64 lo, .int .i64 hi] 45)) (.cells #[.int .i64 0, .int .i64 0] 45)
        simp only [World.size_alloc] at k0 k1
        exact ⟨(alloc_old k0), k1, (((Only.refl [] w).alloc _).alloc _)⟩
      rintro w1 ⟨h1, h2, ho1⟩
      obtain ⟨b1, hb1⟩ : ∃ b, w.heap.size = b := ⟨_, rfl⟩
      obtain ⟨b2, hb2⟩ : ∃ b, w.heap.size + 1 = b := ⟨_, rfl⟩
      have HN : Hid (w.heap.size ≤ b1 ∧ w.heap.size ≤ b2 ∧ b1 ≠ b2 ∧ b2 ≠ b1) := Lib.hid (by omega)
      rw [hb1] at h1
      rw [hb2] at h2
      rw [show w.heap.size + 1 = b2 from hb2, hb1]
      have B1 := Lib.hid h1; have B2 := Lib.hid h2; have OO := Lib.hid ho1
      clear h1 h2 hb1 hb2
      clear ho1
      have k1 := c_2 B1.out; have k2 := c_2 B2.out
      go_wp2_with fail
      refine (HC.out _).mono ?_
      rintro e w2 ⟨rfl, ho⟩
      clear k1 k2
      replace OO := Lib.hid (OO.out.nil_trans ho); replace B1 := Lib.hid (ho.got B1.out (by simp)); replace B2 := Lib.hid (ho.got B2.out (by simp))
      clear ho
      have k1 := c_2 B1.out; have k2 := c_2 B2.out
      go_wp2_with fail
      refine (HE.out _).mono ?_
      rintro e w3 ⟨rfl, ho⟩
      clear k1 k2
      replace OO := Lib.hid (OO.out.nil_trans ho); replace B1 := Lib.hid (ho.got B1.out (by simp)); replace B2 := Lib.hid (ho.got B2.out (by simp))
      clear ho
      have k1 := c_2 B1.out; have k2 := c_2 B2.out
      go_wp2
      have HD := setCell_got (o := 1) (.int .i64 0) (setCell_got (o := 0) (.int .i64 0) (B2.out))
      have e0 := cell_got HD 0; have e1 := cell_got HD 1; have le := got_lt HD
      refine bodyPost_ret (v := .tuple #[.agg #[.int .i64 0, .int .i64 0], .int .i64 3]) (by simp [results, Tryz.results142, go_sem, e0, e1]) rfl ⟨rfl, ((OO.out.setCell (.inr HN.out.2.1) _).setCell (.inr HN.out.2.1) _)⟩
    · obtain ⟨e0, e1, e2, e3⟩ := heb hel
      rw [hel] at HE HR
      clear hel heb
      generalize elLo raw tol = x1 at e0 e1 HE HR
      generalize elHi raw tol = x2 at e2 e3 HE HR
      have HK := Lib.hid (fun w' => pChecked (lo + x1) (hi + x2) w')
      obtain rfl : res = ckd (lo + x1) (hi + x2) := by have := HR.out; simpa using this
      generalize ckd (lo + x1) (hi + x2) = res at HK ⊢
      obtain ⟨⟨r0, r1⟩, re⟩ := res
      have w1' : IntKind.i64.wrap (lo + x1) = lo + x1 := by rw [IntKind.wrap_i64]; omega
      have w2' : IntKind.i64.wrap (hi + x2) = hi + x2 := by rw [IntKind.wrap_i64]; omega
      have d1 : decide (x2 < 0) = false := by simp; omega
      unfold ivV at HC HK ⊢
      dsimp only at HC HK ⊢
      clear HR
      go_enter Tryz.func142, Tryz.ntmps142
      go_upto_region 1 with (fail)
      refine wabs (G := fun w0 => Code.wp _ _ _ _ w0) (R := fun w1 => w1.heap[w.heap.size]? = some (.cells #[.int .i64 lo, .int .i64 hi] 45 (0, 0)) ∧ w1.heap[w.heap.size + 1]? = some (.cells #[.int .i64 0, .int .i64 0] 45 (0, 0)) ∧ Only [] w w1) ?_ ?_
      · skip
        have k0 := alloc_new w (.cells #[.int .i64 lo, .int .i64 hi] 45)
        have k1 := alloc_new (w.alloc (.cells #[.int .i64 lo, .int .i64 hi] 45)) (.cells #[.int .i64 0, .int .i64 0] 45)
        simp only [World.size_alloc] at k0 k1
        exact ⟨(alloc_old k0), k1, (((Only.refl [] w).alloc _).alloc _)⟩
      rintro w1 ⟨h1, h2, ho1⟩
      obtain ⟨b1, hb1⟩ : ∃ b, w.heap.size = b := ⟨_, rfl⟩
      obtain ⟨b2, hb2⟩ : ∃ b, w.heap.size + 1 = b := ⟨_, rfl⟩
      have HN : Hid (w.heap.size ≤ b1 ∧ w.heap.size ≤ b2 ∧ b1 ≠ b2 ∧ b2 ≠ b1) := Lib.hid (by omega)
      rw [hb1] at h1
      rw [hb2] at h2
      rw [show w.heap.size + 1 = b2 from hb2, hb1]
      have B1 := Lib.hid h1; have B2 := Lib.hid h2; have OO := Lib.hid ho1
      clear h1 h2 hb1 hb2
      clear ho1
      have k1 := c_2 B1.out; have k2 := c_2 B2.out
      go_wp2_with fail
      refine (HC.out _).mono ?_
      rintro e w2 ⟨rfl, ho⟩
      clear k1 k2
      replace OO := Lib.hid (OO.out.nil_trans ho); replace B1 := Lib.hid (ho.got B1.out (by simp)); replace B2 := Lib.hid (ho.got B2.out (by simp))
      clear ho
      have k1 := c_2 B1.out; have k2 := c_2 B2.out
      go_wp2_with fail
      refine (HE.out _).mono ?_
      rintro e w3 ⟨rfl, ho⟩
      clear k1 k2
      replace OO := Lib.hid (OO.out.nil_trans ho); replace B1 := Lib.hid (ho.got B1.out (by simp)); replace B2 := Lib.hid (ho.got B2.out (by simp))
      clear ho
      have k1 := c_2 B1.out; have k2 := c_2 B2.out
      go_wp2_with fail
      refine (HK.out _).mono ?_
      rintro e w4 ⟨rfl, ho⟩
      clear k1 k2
      replace OO := Lib.hid (OO.out.nil_trans ho); replace B1 := Lib.hid (ho.got B1.out (by simp)); replace B2 := Lib.hid (ho.got B2.out (by simp))
      clear ho
      have k1 := c_2 B1.out; have k2 := c_2 B2.out
      go_wp2
      have HD := setCell_got (o := 1) (.int .i64 r1) (setCell_got (o := 0) (.int .i64 r0) (B2.out))
      have e0 := cell_got HD 0; have e1 := cell_got HD 1; have le := got_lt HD
      refine bodyPost_ret (v := .tuple #[.agg #[.int .i64 r0, .int .i64 r1], .int .i64 re]) (by simp [results, Tryz.results142, go_sem, e0, e1]) rfl ⟨rfl, ((OO.out.setCell (.inr HN.out.2.1) _).setCell (.inr HN.out.2.1) _)⟩
set_option maxRecDepth 100000 in
set_option maxHeartbeats 1000000 in
theorem pTrip (x : Iv) (raw tol : Int) (w : World) :
    Calls Tryz.prog 77 #[ivV x, .int .i64 raw, .int .i64 0, .int .i64 tol] w fun e w' => e = .returned (.tuple #[ivV (tripI x raw tol).1, .int .i64 (tripI x raw tol).2]) ∧ Only [] w w' := by
  obtain ⟨lo, hi⟩ := x
  have HC := Lib.hid (fun w' => pDriftCheck ⟨lo, hi⟩ w')
  have HE := Lib.hid (fun w' => pElapsed raw tol w')
  have hib := fun h => ivOk_iff.1 (show ivOk ⟨lo, hi⟩ = true from h)
  have heb := fun h => el_bd (show elOk raw tol = true from h)
  have HR : Hid (tripI ⟨lo, hi⟩ raw tol = if ivOk ⟨lo, hi⟩ = true then (if elOk raw tol = true then ckd lo (hi + elHi raw tol) else (⟨0, 0⟩, 3)) else (⟨0, 0⟩, 2)) := Lib.hid rfl
  generalize tripI ⟨lo, hi⟩ raw tol = res at HR ⊢
  cases hok : ivOk ⟨lo, hi⟩
  · rw [hok] at HC HR
    obtain rfl : res = (⟨0, 0⟩, 2) := by have := HR.out; simpa using this
    unfold ivV at HC ⊢
    dsimp only at HC ⊢
    clear HR hok hib heb HE
    go_enter Tryz.func77, Tryz.ntmps77
    go_upto_region 1 with (fail)
    refine wabs (G := fun w0 => Code.wp _ _ _ _ w0) (R := fun w1 => w1.heap[w.heap.size]? = some (.cells #[.int .i64 lo, .int .i64 hi] 45 (0, 0)) ∧ w1.heap[w.heap.size + 1]? = some (.cells #[.int .i64 0, .int .i64 0] 45 (0, 0)) ∧ Only [] w w1) ?_ ?_
    · skip
      have k0 := alloc_new w (.cells #[.int .i64 lo, .int .i64 hi] 45)
      have k1 := alloc_new (w.alloc (.cells #[.int .i64 lo, .int .i64 hi] 45)) (.cells #[.int .i64 0, .int .i64 0] 45)
      simp only [World.size_alloc] at k0 k1
      exact ⟨(alloc_old k0), k1, (((Only.refl [] w).alloc _).alloc _)⟩
    rintro w1 ⟨h1, h2, ho1⟩
    obtain ⟨b1, hb1⟩ : ∃ b, w.heap.size = b := ⟨_, rfl⟩
    obtain ⟨b2, hb2⟩ : ∃ b, w.heap.size + 1 = b := ⟨_, rfl⟩
    have HN : Hid (w.heap.size ≤ b1 ∧ w.heap.size ≤ b2 ∧ b1 ≠ b2 ∧ b2 ≠ b1) := Lib.hid (by omega)
    rw [hb1] at h1
    rw [hb2] at h2
    rw [show w.heap.size + 1 = b2 from hb2, hb1]
    have B1 := Lib.hid h1; have B2 := Lib.hid h2; have OO := Lib.hid ho1
    clear h1 h2 hb1 hb2
    clear ho1
    have k1 := c_2 B1.out; have k2 := c_2 B2.out
    go_wp2_with fail
    refine (HC.out _).mono ?_
    rintro e w2 ⟨rfl, ho⟩
    clear k1 k2
    replace OO := Lib.hid (OO.out.nil_trans ho); replace B1 := Lib.hid (ho.got B1.out (by simp)); replace B2 := Lib.hid (ho.got B2.out (by simp))
    clear ho
    have k1 := c_2 B1.out; have k2 := c_2 B2.out
    go_wp2
    have HD := setCell_got (o := 1) (.int .i64 0) (setCell_got (o := 0) (.int .i64 0) (B2.out))
    have e0 := cell_got HD 0; have e1 := cell_got HD 1; have le := got_lt HD
    refine bodyPost_ret (v := .tuple #[.agg #[.int .i64 0, .int .i64 0], .int .i64 2]) (by simp [results, Tryz.results77, go_sem, e0, e1]) rfl ⟨rfl, ((OO.out.setCell (.inr HN.out.2.1) _).setCell (.inr HN.out.2.1) _)⟩
  · obtain ⟨i0, i1, i2⟩ := hib hok
    rw [hok] at HC HR
    clear hib hok
    dsimp only at i0 i1 i2
    cases hel : elOk raw tol
    · rw [hel] at HE HR
      obtain rfl : res = (⟨0, 0⟩, 3) := by have := HR.out; simpa using this
      unfold ivV at HC ⊢
      dsimp only at HC ⊢
      clear HR hel heb
      go_enter Tryz.func77, Tryz.ntmps77
      go_upto_region 1 with (fail)
      refine wabs (G := fun w0 => Code.wp _ _ _ _ w0) (R := fun w1 => w1.heap[w.heap.size]? = some (.cells #[.int .i64 lo, .int .i64 hi] 45 (0, 0)) ∧ w1.heap[w.heap.size + 1]? = some (.cells #[.int .i64 0, .int .i64 0] 45 (0, 0)) ∧ Only [] w w1) ?_ ?_
      · skip
        have k0 := alloc_new w (.cells #[.int .i64 lo, .int .i64 hi] 45)
        have k1 := alloc_new (w.alloc (.cells #[.int .i64 lo, .int .i64 hi] 45)) (.cells #[.int .i64 0, .int .i64 0] 45)
        simp only [World.size_alloc] at k0 k1
        exact ⟨(alloc_old k0), k1, (((Only.refl [] w).alloc _).alloc _)⟩
      rintro w1 ⟨h1, h2, ho1⟩
      obtain ⟨b1, hb1⟩ : ∃ b, w.heap.size = b := ⟨_, rfl⟩
      obtain ⟨b2, hb2⟩ : ∃ b, w.heap.size + 1 = b := ⟨_, rfl⟩
      have HN : Hid (w.heap.size ≤ b1 ∧ w.heap.size ≤ b2 ∧ b1 ≠ b2 ∧ b2 ≠ b1) := Lib.hid (by omega)
      rw [hb1] at h1
      rw [hb2] at h2
      rw [show w.heap.size + 1 = b2 from hb2, hb1]
      have B1 := Lib.hid h1; have B2 := Lib.hid h2; have OO := Lib.hid ho1
      clear h1 h2 hb1 hb2
      clear ho1
      have k1 := c_2 B1.out; have k2 := c_2 B2.out
      go_wp2_with fail
      refine (HC.out _).mono ?_
      rintro e w2 ⟨rfl, ho⟩
      clear k1 k2
      replace OO := Lib.hid (OO.out.nil_trans ho); replace B1 := Lib.hid (ho.got B1.out (by simp)); replace B2 := Lib.hid (ho.got B2.out (by simp))
      clear ho
      have k1 := c_2 B1.out; have k2 := c_2 B2.out
      go_wp2_with fail
      refine (HE.out _).mono ?_
      rintro e w3 ⟨rfl, ho⟩
      clear k1 k2
      replace OO := Lib.hid (OO.out.nil_trans ho); replace B1 := Lib.hid (ho.got B1.out (by simp)); replace B2 := Lib.hid (ho.got B2.out (by simp))
      clear ho
      have k1 := c_2 B1.out; have k2 := c_2 B2.out
      go_wp2
      have HD := setCell_got (o := 1) (.int .i64 0) (setCell_got (o := 0) (.int .i64 0) (B2.out))
      have e0 := cell_got HD 0; have e1 := cell_got HD 1; have le := got_lt HD
      refine bodyPost_ret (v := .tuple #[.agg #[.int .i64 0, .int .i64 0], .int .i64 3]) (by simp [results, Tryz.results77, go_sem, e0, e1]) rfl ⟨rfl, ((OO.out.setCell (.inr HN.out.2.1) _).setCell (.inr HN.out.2.1) _)⟩
    · obtain ⟨e0, e1, e2, e3⟩ := heb hel
      rw [hel] at HE HR
      clear hel heb
      generalize elLo raw tol = x1 at e0 e1 HE HR
      generalize elHi raw tol = x2 at e2 e3 HE HR
      have HK := Lib.hid (fun w' => pChecked lo (hi + x2) w')
      obtain rfl : res = ckd lo (hi + x2) := by have := HR.out; simpa using this
      generalize ckd lo (hi + x2) = res at HK ⊢
      obtain ⟨⟨r0, r1⟩, re⟩ := res
      have w1' : IntKind.i64.wrap (lo + x1) = lo + x1 := by rw [IntKind.wrap_i64]; omega
      have w2' : IntKind.i64.wrap (hi + x2) = hi + x2 := by rw [IntKind.wrap_i64]; omega
      have d1 : decide (x2 < 0) = false := by simp; omega
      unfold ivV at HC HK ⊢
      dsimp only at HC HK ⊢
      clear HR
      go_enter Tryz.func77, Tryz.ntmps77
      go_upto_region 1 with (fail)
      refine wabs (G := fun w0 => Code.wp _ _ _ _ w0) (R := fun w1 => w1.heap[w.heap.size]? = some (.cells #[.int .i64 lo, .int .i64 hi] 45 (0, 0)) ∧ w1.heap[w.heap.size + 1]? = some (.cells #[.int .i64 0, .int .i64 0] 45 (0, 0)) ∧ Only [] w w1) ?_ ?_
      · skip
        have k0 := alloc_new w (.cells #[.int .i64 lo, .int .i64 hi] 45)
        have k1 := alloc_new (w.alloc (.cells #[.int .i64 lo, .int .i64 hi] 45)) (.cells #[.int .i64 0, .int .i64 0] 45)
        simp only [World.size_alloc] at k0 k1
        exact ⟨(alloc_old k0), k1, (((Only.refl [] w).alloc _).alloc _)⟩
      rintro w1 ⟨h1, h2, ho1⟩
      obtain ⟨b1, hb1⟩ : ∃ b, w.heap.size = b := ⟨_, rfl⟩
      obtain ⟨b2, hb2⟩ : ∃ b, w.heap.size + 1 = b := ⟨_, rfl⟩
      have HN : Hid (w.heap.size ≤ b1 ∧ w.heap.size ≤ b2 ∧ b1 ≠ b2 ∧ b2 ≠ b1) := Lib.hid (by omega)
      rw [hb1] at h1
      rw [hb2] at h2
      rw [show w.heap.size + 1 = b2 from hb2, hb1]
      have B1 := Lib.hid h1; have B2 := Lib.hid h2; have OO := Lib.hid ho1
      clear h1 h2 hb1 hb2
      clear ho1
      have k1 := c_2 B1.out; have k2 := c_2 B2.out
      go_wp2_with fail
      refine (HC.out _).mono ?_
      rintro e w2 ⟨rfl, ho⟩
      clear k1 k2
      replace OO := Lib.hid (OO.out.nil_trans ho); replace B1 := Lib.hid (ho.got B1.out (by simp)); replace B2 := Lib.hid (ho.got B2.out (by simp))
      clear ho
      have k1 := c_2 B1.out; have k2 := c_2 B2.out
      go_wp2_with fail
      refine (HE.out _).mono ?_
      rintro e w3 ⟨rfl, ho⟩
      clear k1 k2
      replace OO := Lib.hid (OO.out.nil_trans ho); replace B1 := Lib.hid (ho.got B1.out (by simp)); replace B2 := Lib.hid (ho.got B2.out (by simp))
      clear ho
      have k1 := c_2 B1.out; have k2 := c_2 B2.out
      go_wp2_with fail
      refine (HK.out _).mono ?_
      rintro e w4 ⟨rfl, ho⟩
      clear k1 k2
      replace OO := Lib.hid (OO.out.nil_trans ho); replace B1 := Lib.hid (ho.got B1.out (by simp)); replace B2 := Lib.hid (ho.got B2.out (by simp))
      clear ho
      have k1 := c_2 B1.out; have k2 := c_2 B2.out
      go_wp2
      have HD := setCell_got (o := 1) (.int .i64 r1) (setCell_got (o := 0) (.int .i64 r0) (B2.out))
      have e0 := cell_got HD 0; have e1 := cell_got HD 1; have le := got_lt HD
      refine bodyPost_ret (v := .tuple #[.agg #[.int .i64 r0, .int .i64 r1], .int .i64 re]) (by simp [results, Tryz.results77, go_sem, e0, e1]) rfl ⟨rfl, ((OO.out.setCell (.inr HN.out.2.1) _).setCell (.inr HN.out.2.1) _)⟩
end Go.Proofs.YtikjdmbfjkbndaaGreat
