/- The walks of reach.Adapt, of packages sample and root, of ntpmsg.Check and Synced, stamp.Long. No condition. -/
import Derived.Test.YtikjdmbfjkbndaaGreatC4
namespace Go.Proofs.YtikjdmbfjkbndaaGreat
open Go.RowKit

set_option maxRecDepth 100000 in
set_option maxHeartbeats 1000000 in
theorem pIsTime (n : Int) (w : World) :
    Calls Tryz.prog 144 #[.int .i64 n] w fun e w' => e = .returned (.bool (isT n)) ∧ Only [] w w' := by
  by_cases h1 : (-4503599627370496 : Int) ≤ n
  · have a1 : decide ((-4503599627370496 : Int) ≤ n) = true := decide_eq_true h1
    obtain ⟨r, hr⟩ : ∃ r, decide (n ≤ (4503599627370496 : Int)) = r := ⟨_, rfl⟩
    rw [show isT n = r from by unfold isT wth; rw [a1, hr]; rfl]
    go_enter Tryz.func144, Tryz.ntmps144
    have OO := Lib.hid (Only.refl [] w)
    go_wp2
    go_ret
    exact ⟨rfl, OO.out⟩
  · have a1 : decide ((-4503599627370496 : Int) ≤ n) = false := decide_eq_false h1
    rw [show isT n = false from by unfold isT wth; rw [a1]; rfl]
    go_enter Tryz.func144, Tryz.ntmps144
    have OO := Lib.hid (Only.refl [] w)
    go_wp2
    go_ret
    exact ⟨rfl, OO.out⟩
set_option maxRecDepth 100000 in
set_option maxHeartbeats 1000000 in
theorem pIsTol (n : Int) (w : World) :
    Calls Tryz.prog 145 #[.int .i64 n] w fun e w' => e = .returned (.bool (isTl n)) ∧ Only [] w w' := by
  by_cases h1 : (0 : Int) ≤ n
  · have a1 : decide ((0 : Int) ≤ n) = true := decide_eq_true h1
    obtain ⟨r, hr⟩ : ∃ r, decide (n ≤ (500000 : Int)) = r := ⟨_, rfl⟩
    rw [show isTl n = r from by unfold isTl wth; rw [a1, hr]; rfl]
    go_enter Tryz.func145, Tryz.ntmps145
    have OO := Lib.hid (Only.refl [] w)
    go_wp2
    go_ret
    exact ⟨rfl, OO.out⟩
  · have a1 : decide ((0 : Int) ≤ n) = false := decide_eq_false h1
    rw [show isTl n = false from by unfold isTl wth; rw [a1]; rfl]
    go_enter Tryz.func145, Tryz.ntmps145
    have OO := Lib.hid (Only.refl [] w)
    go_wp2
    go_ret
    exact ⟨rfl, OO.out⟩
set_option maxRecDepth 100000 in
set_option maxHeartbeats 1000000 in
theorem pIsSpan (n : Int) (w : World) :
    Calls Tryz.prog 281 #[.int .i64 n] w fun e w' => e = .returned (.bool (isSp n)) ∧ Only [] w w' := by
  by_cases h1 : (0 : Int) ≤ n
  · have a1 : decide ((0 : Int) ≤ n) = true := decide_eq_true h1
    obtain ⟨r, hr⟩ : ∃ r, decide (n ≤ (9007199254740992 : Int)) = r := ⟨_, rfl⟩
    rw [show isSp n = r from by unfold isSp wth; rw [a1, hr]; rfl]
    go_enter Tryz.func281, Tryz.ntmps281
    have OO := Lib.hid (Only.refl [] w)
    go_wp2
    go_ret
    exact ⟨rfl, OO.out⟩
  · have a1 : decide ((0 : Int) ≤ n) = false := decide_eq_false h1
    rw [show isSp n = false from by unfold isSp wth; rw [a1]; rfl]
    go_enter Tryz.func281, Tryz.ntmps281
    have OO := Lib.hid (Only.refl [] w)
    go_wp2
    go_ret
    exact ⟨rfl, OO.out⟩
set_option maxRecDepth 100000 in
set_option maxHeartbeats 1000000 in
theorem pWithinN (n lo hi : Int) (w : World) :
    Calls Tryz.prog 219 #[.int .i64 n, .int .i64 lo, .int .i64 hi] w fun e w' => e = .returned (.bool (wth n lo hi)) ∧ Only [] w w' := by
  by_cases h1 : lo ≤ n
  · have a1 : decide (lo ≤ n) = true := decide_eq_true h1
    obtain ⟨r, hr⟩ : ∃ r, decide (n ≤ hi) = r := ⟨_, rfl⟩
    rw [show wth n lo hi = r from by unfold wth; rw [a1, hr]; rfl]
    go_enter Tryz.func219, Tryz.ntmps219
    have OO := Lib.hid (Only.refl [] w)
    go_wp2
    go_ret
    exact ⟨rfl, OO.out⟩
  · have a1 : decide (lo ≤ n) = false := decide_eq_false h1
    rw [show wth n lo hi = false from by unfold wth; rw [a1]; rfl]
    go_enter Tryz.func219, Tryz.ntmps219
    have OO := Lib.hid (Only.refl [] w)
    go_wp2
    go_ret
    exact ⟨rfl, OO.out⟩
set_option maxRecDepth 100000 in
set_option maxHeartbeats 1000000 in
theorem pSmall (off jit : Int) (h0 : -9223372036854775807 ≤ off) (h1 : off ≤ 9223372036854775807) (h2 : jit ≤ 9223372036854775807) (w : World) :
    Calls Tryz.prog 172 #[.int .i64 off, .int .i64 jit] w fun e w' => e = .returned (.bool (rsmall off jit)) ∧ Only [] w w' := by
  have HE : Hid (rsmall off jit = decide ((off.natAbs : Int) / 4 < max jit 0)) := Lib.hid rfl
  generalize rsmall off jit = res at HE ⊢
  obtain ⟨a, ha⟩ : ∃ a, off.natAbs = a := ⟨_, rfl⟩
  rw [ha] at HE
  obtain ⟨j, hj⟩ : ∃ j, max jit 0 = j := ⟨_, rfl⟩
  have hjb : 0 ≤ j ∧ j ≤ 9223372036854775807 := by omega
  have hjw : IntKind.u64.wrap j = j := by rw [IntKind.wrap_u64]; omega
  rw [hj] at HE
  have haw : IntKind.u64.wrap (a : Int) = (a : Int) := by rw [IntKind.wrap_u64]; omega
  have haq : IntKind.u64.wrap ((a : Int) / 4) = (a : Int) / 4 := by rw [IntKind.wrap_u64]; omega
  have HR := Lib.hid HE.out.symm
  by_cases hn : off < 0
  · obtain ⟨u, hu⟩ : ∃ u, IntKind.u64.wrap off = u := ⟨_, rfl⟩
    have huw : IntKind.u64.wrap (-u) = (a : Int) := by rw [← hu, IntKind.wrap_u64, IntKind.wrap_u64]; omega
    have d1 : decide (off < 0) = true := decide_eq_true hn
    clear ha HE
    go_enter Tryz.func172, Tryz.ntmps172
    have OO := Lib.hid (Only.refl [] w)
    go_wp2
    go_ret
    exact ⟨by rw [← HR.out]; rfl, OO.out⟩
  · have hu : IntKind.u64.wrap off = (a : Int) := by rw [IntKind.wrap_u64]; omega
    have d1 : decide (off < 0) = false := decide_eq_false hn
    clear ha HE
    go_enter Tryz.func172, Tryz.ntmps172
    have OO := Lib.hid (Only.refl [] w)
    go_wp2
    go_ret
    exact ⟨by rw [← HR.out]; rfl, OO.out⟩
set_option maxRecDepth 100000 in
set_option maxHeartbeats 1000000 in
theorem pAdapt (r : Rch) (off jit : Int) (h0 : -9223372036854775807 ≤ off) (h1 : off ≤ 9223372036854775807) (h2 : jit ≤ 9223372036854775807) (w : World) :
    Calls Tryz.prog 103 #[rcV r, .int .i64 off, .int .i64 jit] w fun e w' => e = .returned (rcV (radapt r off jit)) ∧ Only [] w w' := by
  obtain ⟨bi, po, mn, mx, cn⟩ := r
  have HC := Lib.hid (fun w' => pRChk ⟨bi, po, mn, mx, cn⟩ w')
  have HS := Lib.hid (fun w' => pSmall off jit h0 h1 h2 w')
  have hb := fun h => rchk_ok.1 (show rchk ⟨bi, po, mn, mx, cn⟩ = 0 from h)
  have HE : Hid (radapt ⟨bi, po, mn, mx, cn⟩ off jit = if rchk ⟨bi, po, mn, mx, cn⟩ = 0 then (if rsmall off jit = true then (if 30 < cn + po then ⟨bi, min (po + 1) mx, mn, mx, 0⟩ else ⟨bi, po, mn, mx, cn + po⟩) else (if cn - 2 * po < -30 then ⟨bi, max (po - 1) mn, mn, mx, 0⟩ else ⟨bi, po, mn, mx, cn - 2 * po⟩)) else rc0) := Lib.hid rfl
  generalize radapt ⟨bi, po, mn, mx, cn⟩ off jit = res at HE ⊢
  obtain ⟨er, her⟩ : ∃ er, rchk ⟨bi, po, mn, mx, cn⟩ = er := ⟨_, rfl⟩
  rw [her] at HC HE hb
  clear her
  generalize rsmall off jit = sm at HS HE
  unfold rcV at HC ⊢
  dsimp only at HC hb ⊢
  by_cases hz : er = 0
  · obtain ⟨⟨x1, x2⟩, ⟨x3, x4⟩, ⟨x5, x6⟩, x7, ⟨x8, x9⟩, x10, x11⟩ := hb hz
    subst hz
    clear hb
    cases sm
    · obtain ⟨v, hv⟩ : ∃ v, cn - 2 * po = v := ⟨_, rfl⟩
      have w0' : IntKind.i64.wrap (2 * po) = 2 * po := by rw [IntKind.wrap_i64]; omega
      have w1' : IntKind.i64.wrap (cn - 2 * po) = v := by rw [IntKind.wrap_i64]; omega
      have hp1 : IntKind.i64.wrap (po - 1) = po - 1 := by rw [IntKind.wrap_i64]; omega
      obtain ⟨pp, hpp⟩ : ∃ pp, max (po - 1) mn = pp := ⟨_, rfl⟩
      rw [hv, hpp] at HE
      by_cases hgt : v < -30
      · have d1 : decide (v < -30) = true := decide_eq_true hgt
        obtain rfl : res = ⟨bi, pp, mn, mx, 0⟩ := by rw [HE.out, if_pos rfl, if_neg (by simp), if_pos hgt]
        clear hv
        dsimp only
        clear HE
        go_enter Tryz.func103, Tryz.ntmps103
        go_upto_region 1 with (fail)
        refine wabs (G := fun w0 => Code.wp _ _ _ _ w0) (R := fun w1 => w1.heap[w.heap.size]? = some (.cells #[.int .i64 bi, .int .i64 po, .int .i64 mn, .int .i64 mx, .int .i64 cn] 91 (0, 0)) ∧ w1.heap[w.heap.size + 1]? = some (.cells #[.int .i64 0, .int .i64 0, .int .i64 0, .int .i64 0, .int .i64 0] 91 (0, 0)) ∧ Only [] w w1) ?_ ?_
        · skip
          have k0 := alloc_new w (.cells #[.int .i64 bi, .int .i64 po, .int .i64 mn, .int .i64 mx, .int .i64 cn] 91)
          have k1 := alloc_new (w.alloc (.cells #[.int .i64 bi, .int .i64 po, .int .i64 mn, .int .i64 mx, .int .i64 cn] 91)) (.cells #[.int .i64 0, .int .i64 0, .int .i64 0, .int .i64 0, .int .i64 0] 91)
          simp only [World.size_alloc] at k0 k1
          exact ⟨(alloc_old k0), k1, (((Only.refl [] w).alloc _).alloc _)⟩
        rintro w1 ⟨h1, h2, ho1⟩
        obtain ⟨b1, hb1⟩ : ∃ b, w.heap.size = b := ⟨_, rfl⟩
        obtain ⟨b2, hb2⟩ : ∃ b, w.heap.size + 1 = b := ⟨_, rfl⟩
        have HN : Hid (w.heap.size ≤ b1 ∧ w.heap.size ≤ b2 ∧ b1 ≠ b2 ∧ b2 ≠ b1) := Lib.hid (by omega)
        rw [hb1] at h1
        rw [hb2] at h2
        rw [show w.heap.size + 1 = b2 from hb2, hb1]
        have B1 := Lib.hid h1; have B2 := Lib.hid h2; have OO := Lib.hid ho1
        clear h1 h2 hb1 hb2
        clear ho1
        have k1 := c_5 B1.out; have k2 := c_5 B2.out
        go_wp2_with fail
        refine (HC.out _).mono ?_
        rintro e w2 ⟨rfl, ho⟩
        clear k1 k2
        replace OO := Lib.hid (OO.out.nil_trans ho); replace B1 := Lib.hid (ho.got B1.out (by simp)); replace B2 := Lib.hid (ho.got B2.out (by simp))
        clear ho
        have k1 := c_5 B1.out; have k2 := c_5 B2.out
        go_wp2_with fail
        refine (HS.out _).mono ?_
        rintro e w3 ⟨rfl, ho⟩
        clear k1 k2
        replace OO := Lib.hid (OO.out.nil_trans ho); replace B1 := Lib.hid (ho.got B1.out (by simp)); replace B2 := Lib.hid (ho.got B2.out (by simp))
        clear ho
        have k1 := c_5 B1.out; have k2 := c_5 B2.out
        go_upto_region 10 with (fail)
        refine wabs (G := fun w0 => Code.wp _ _ _ _ w0) (R := fun w4 => w4.heap[b1]? = some (.cells #[.int .i64 bi, .int .i64 po, .int .i64 mn, .int .i64 mx, .int .i64 v] 91 (0, 0)) ∧ w4.heap[b2]? = some (.cells #[.int .i64 0, .int .i64 0, .int .i64 0, .int .i64 0, .int .i64 0] 91 (0, 0)) ∧ Only [] w w4) ⟨(setCell_got (o := 4) (.int .i64 v) B1.out), (setCell_oth (.int .i64 v) B2.out HN.out.2.2.2), (OO.out.setCell (.inr HN.out.1) _)⟩ ?_
        rintro w4 ⟨g1, g2, ho⟩
        clear k1 k2
        replace B1 := Lib.hid g1; replace B2 := Lib.hid g2; replace OO := Lib.hid ho
        clear ho g1 g2
        have k1 := c_5 B1.out; have k2 := c_5 B2.out
        go_upto_region 13 with (fail)
        refine wabs (G := fun w0 => Code.wp _ _ _ _ w0) (R := fun w5 => w5.heap[b1]? = some (.cells #[.int .i64 bi, .int .i64 pp, .int .i64 mn, .int .i64 mx, .int .i64 0] 91 (0, 0)) ∧ w5.heap[b2]? = some (.cells #[.int .i64 0, .int .i64 0, .int .i64 0, .int .i64 0, .int .i64 0] 91 (0, 0)) ∧ Only [] w w5) ⟨(setCell_got (o := 1) (.int .i64 pp) (setCell_got (o := 4) (.int .i64 0) B1.out)), (setCell_oth (.int .i64 pp) (setCell_oth (.int .i64 0) B2.out HN.out.2.2.2) HN.out.2.2.2), ((OO.out.setCell (.inr HN.out.1) _).setCell (.inr HN.out.1) _)⟩ ?_
        rintro w5 ⟨g1, g2, ho⟩
        clear k1 k2
        replace B1 := Lib.hid g1; replace B2 := Lib.hid g2; replace OO := Lib.hid ho
        clear ho g1 g2
        have k1 := c_5 B1.out; have k2 := c_5 B2.out
        go_wp2
        have HD := setCell_got (o := 4) (.int .i64 0) (setCell_got (o := 3) (.int .i64 mx) (setCell_got (o := 2) (.int .i64 mn) (setCell_got (o := 1) (.int .i64 pp) (setCell_got (o := 0) (.int .i64 bi) (B2.out)))))
        have e0 := cell_got HD 0; have e1 := cell_got HD 1; have e2 := cell_got HD 2; have e3 := cell_got HD 3; have e4 := cell_got HD 4; have le := got_lt HD
        refine bodyPost_ret (v := .agg #[.int .i64 bi, .int .i64 pp, .int .i64 mn, .int .i64 mx, .int .i64 0]) (by simp [results, Tryz.results103, go_sem, e0, e1, e2, e3, e4]) rfl ⟨rfl, (((((OO.out.setCell (.inr HN.out.2.1) _).setCell (.inr HN.out.2.1) _).setCell (.inr HN.out.2.1) _).setCell (.inr HN.out.2.1) _).setCell (.inr HN.out.2.1) _)⟩
      · have d1 : decide (v < -30) = false := decide_eq_false hgt
        obtain rfl : res = ⟨bi, po, mn, mx, v⟩ := by rw [HE.out, if_pos rfl, if_neg (by simp), if_neg hgt]
        clear hv
        dsimp only
        clear HE
        go_enter Tryz.func103, Tryz.ntmps103
        go_upto_region 1 with (fail)
        refine wabs (G := fun w0 => Code.wp _ _ _ _ w0) (R := fun w1 => w1.heap[w.heap.size]? = some (.cells #[.int .i64 bi, .int .i64 po, .int .i64 mn, .int .i64 mx, .int .i64 cn] 91 (0, 0)) ∧ w1.heap[w.heap.size + 1]? = some (.cells #[.int .i64 0, .int .i64 0, .int .i64 0, .int .i64 0, .int .i64 0] 91 (0, 0)) ∧ Only [] w w1) ?_ ?_
        · skip
          have k0 := alloc_new w (.cells #[.int .i64 bi, .int .i64 po, .int .i64 mn, .int .i64 mx, .int .i64 cn] 91)
          have k1 := alloc_new (w.alloc (.cells #[.int .i64 bi, .int .i64 po, .int .i64 mn, .int .i64 mx, .int .i64 cn] 91)) (.cells #[.int .i64 0, .int .i64 0, .int .i64 0, .int .i64 0, .int .i64 0] 91)
          simp only [World.size_alloc] at k0 k1
          exact ⟨(alloc_old k0), k1, (((Only.refl [] w).alloc _).alloc _)⟩
        rintro w1 ⟨h1, h2, ho1⟩
        obtain ⟨b1, hb1⟩ : ∃ b, w.heap.size = b := ⟨_, rfl⟩
        obtain ⟨b2, hb2⟩ : ∃ b, w.heap.size + 1 = b := ⟨_, rfl⟩
        have HN : Hid (w.heap.size ≤ b1 ∧ w.heap.size ≤ b2 ∧ b1 ≠ b2 ∧ b2 ≠ b1) := Lib.hid (by omega)
        rw [hb1] at h1
        rw [hb2] at h2
        rw [show w.heap.size + 1 = b2 from hb2, hb1]
        have B1 := Lib.hid h1; have B2 := Lib.hid h2; have OO := Lib.hid ho1
        clear h1 h2 hb1 hb2
        clear ho1
        have k1 := c_5 B1.out; have k2 := c_5 B2.out
        go_wp2_with fail
        refine (HC.out _).mono ?_
        rintro e w2 ⟨rfl, ho⟩
        clear k1 k2
        replace OO := Lib.hid (OO.out.nil_trans ho); replace B1 := Lib.hid (ho.got B1.out (by simp)); replace B2 := Lib.hid (ho.got B2.out (by simp))
        clear ho
        have k1 := c_5 B1.out; have k2 := c_5 B2.out
        go_wp2_with fail
        refine (HS.out _).mono ?_
        rintro e w3 ⟨rfl, ho⟩
        clear k1 k2
        replace OO := Lib.hid (OO.out.nil_trans ho); replace B1 := Lib.hid (ho.got B1.out (by simp)); replace B2 := Lib.hid (ho.got B2.out (by simp))
        clear ho
        have k1 := c_5 B1.out; have k2 := c_5 B2.out
        go_upto_region 10 with (fail)
        refine wabs (G := fun w0 => Code.wp _ _ _ _ w0) (R := fun w4 => w4.heap[b1]? = some (.cells #[.int .i64 bi, .int .i64 po, .int .i64 mn, .int .i64 mx, .int .i64 v] 91 (0, 0)) ∧ w4.heap[b2]? = some (.cells #[.int .i64 0, .int .i64 0, .int .i64 0, .int .i64 0, .int .i64 0] 91 (0, 0)) ∧ Only [] w w4) ⟨(setCell_got (o := 4) (.int .i64 v) B1.out), (setCell_oth (.int .i64 v) B2.out HN.out.2.2.2), (OO.out.setCell (.inr HN.out.1) _)⟩ ?_
        rintro w4 ⟨g1, g2, ho⟩
        clear k1 k2
        replace B1 := Lib.hid g1; replace B2 := Lib.hid g2; replace OO := Lib.hid ho
        clear ho g1 g2
        have k1 := c_5 B1.out; have k2 := c_5 B2.out
        go_wp2
        have HD := setCell_got (o := 4) (.int .i64 v) (setCell_got (o := 3) (.int .i64 mx) (setCell_got (o := 2) (.int .i64 mn) (setCell_got (o := 1) (.int .i64 po) (setCell_got (o := 0) (.int .i64 bi) (B2.out)))))
        have e0 := cell_got HD 0; have e1 := cell_got HD 1; have e2 := cell_got HD 2; have e3 := cell_got HD 3; have e4 := cell_got HD 4; have le := got_lt HD
        refine bodyPost_ret (v := .agg #[.int .i64 bi, .int .i64 po, .int .i64 mn, .int .i64 mx, .int .i64 v]) (by simp [results, Tryz.results103, go_sem, e0, e1, e2, e3, e4]) rfl ⟨rfl, (((((OO.out.setCell (.inr HN.out.2.1) _).setCell (.inr HN.out.2.1) _).setCell (.inr HN.out.2.1) _).setCell (.inr HN.out.2.1) _).setCell (.inr HN.out.2.1) _)⟩
    · obtain ⟨v, hv⟩ : ∃ v, cn + po = v := ⟨_, rfl⟩
      have w1' : IntKind.i64.wrap (cn + po) = v := by rw [IntKind.wrap_i64]; omega
      have hp1 : IntKind.i64.wrap (po + 1) = po + 1 := by rw [IntKind.wrap_i64]; omega
      obtain ⟨pp, hpp⟩ : ∃ pp, min (po + 1) mx = pp := ⟨_, rfl⟩
      rw [hv, hpp] at HE
      by_cases hgt : 30 < v
      · have d1 : decide (30 < v) = true := decide_eq_true hgt
        obtain rfl : res = ⟨bi, pp, mn, mx, 0⟩ := by rw [HE.out, if_pos rfl, if_pos rfl, if_pos hgt]
        clear hv
        dsimp only
        clear HE
        go_enter Tryz.func103, Tryz.ntmps103
        go_upto_region 1 with (fail)
        refine wabs (G := fun w0 => Code.wp _ _ _ _ w0) (R := fun w1 => w1.heap[w.heap.size]? = some (.cells #[.int .i64 bi, .int .i64 po, .int .i64 mn, .int .i64 mx, .int .i64 cn] 91 (0, 0)) ∧ w1.heap[w.heap.size + 1]? = some (.cells #[.int .i64 0, .int .i64 0, .int .i64 0, .int .i64 0, .int .i64 0] 91 (0, 0)) ∧ Only [] w w1) ?_ ?_
        · skip
          have k0 := alloc_new w (.cells #[.int .i64 bi, .int .i64 po, .int .i64 mn, .int .i64 mx, .int .i64 cn] 91)
          have k1 := alloc_new (w.alloc (.cells #[.int .i64 bi, .int .i64 po, .int .i64 mn, .int .i64 mx, .int .i64 cn] 91)) (.cells #[.int .i64 0, .int .i64 0, .int .i64 0, .int .i64 0, .int .i64 0] 91)
          simp only [World.size_alloc] at k0 k1
          exact ⟨(alloc_old k0), k1, (((Only.refl [] w).alloc _).alloc _)⟩
        rintro w1 ⟨h1, h2, ho1⟩
        obtain ⟨b1, hb1⟩ : ∃ b, w.heap.size = b := ⟨_, rfl⟩
        obtain ⟨b2, hb2⟩ : ∃ b, w.heap.size + 1 = b := ⟨_, rfl⟩
        have HN : Hid (w.heap.size ≤ b1 ∧ w.heap.size ≤ b2 ∧ b1 ≠ b2 ∧ b2 ≠ b1) := Lib.hid (by omega)
        rw [hb1] at h1
        rw [hb2] at h2
        rw [show w.heap.size + 1 = b2 from hb2, hb1]
        have B1 := Lib.hid h1; have B2 := Lib.hid h2; have OO := Lib.hid ho1
        clear h1 h2 hb1 hb2
        clear ho1
        have k1 := c_5 B1.out; have k2 := c_5 B2.out
        go_wp2_with fail
        refine (HC.out _).mono ?_
        rintro e w2 ⟨rfl, ho⟩
        clear k1 k2
        replace OO := Lib.hid (OO.out.nil_trans ho); replace B1 := Lib.hid (ho.got B1.out (by simp)); replace B2 := Lib.hid (ho.got B2.out (by simp))
        clear ho
        have k1 := c_5 B1.out; have k2 := c_5 B2.out
        go_wp2_with fail
        refine (HS.out _).mono ?_
        rintro e w3 ⟨rfl, ho⟩
        clear k1 k2
        replace OO := Lib.hid (OO.out.nil_trans ho); replace B1 := Lib.hid (ho.got B1.out (by simp)); replace B2 := Lib.hid (ho.got B2.out (by simp))
        clear ho
        have k1 := c_5 B1.out; have k2 := c_5 B2.out
        go_upto_region 5 with (fail)
        refine wabs (G := fun w0 => Code.wp _ _ _ _ w0) (R := fun w4 => w4.heap[b1]? = some (.cells #[.int .i64 bi, .int .i64 po, .int .i64 mn, .int .i64 mx, .int .i64 v] 91 (0, 0)) ∧ w4.heap[b2]? = some (.cells #[.int .i64 0, .int .i64 0, .int .i64 0, .int .i64 0, .int .i64 0] 91 (0, 0)) ∧ Only [] w w4) ⟨(setCell_got (o := 4) (.int .i64 v) B1.out), (setCell_oth (.int .i64 v) B2.out HN.out.2.2.2), (OO.out.setCell (.inr HN.out.1) _)⟩ ?_
        rintro w4 ⟨g1, g2, ho⟩
        clear k1 k2
        replace B1 := Lib.hid g1; replace B2 := Lib.hid g2; replace OO := Lib.hid ho
        clear ho g1 g2
        have k1 := c_5 B1.out; have k2 := c_5 B2.out
        go_upto_region 8 with (fail)
        refine wabs (G := fun w0 => Code.wp _ _ _ _ w0) (R := fun w5 => w5.heap[b1]? = some (.cells #[.int .i64 bi, .int .i64 pp, .int .i64 mn, .int .i64 mx, .int .i64 0] 91 (0, 0)) ∧ w5.heap[b2]? = some (.cells #[.int .i64 0, .int .i64 0, .int .i64 0, .int .i64 0, .int .i64 0] 91 (0, 0)) ∧ Only [] w w5) ⟨(setCell_got (o := 1) (.int .i64 pp) (setCell_got (o := 4) (.int .i64 0) B1.out)), (setCell_oth (.int .i64 pp) (setCell_oth (.int .i64 0) B2.out HN.out.2.2.2) HN.out.2.2.2), ((OO.out.setCell (.inr HN.out.1) _).setCell (.inr HN.out.1) _)⟩ ?_
        rintro w5 ⟨g1, g2, ho⟩
        clear k1 k2
        replace B1 := Lib.hid g1; replace B2 := Lib.hid g2; replace OO := Lib.hid ho
        clear ho g1 g2
        have k1 := c_5 B1.out; have k2 := c_5 B2.out
        go_wp2
        have HD := setCell_got (o := 4) (.int .i64 0) (setCell_got (o := 3) (.int .i64 mx) (setCell_got (o := 2) (.int .i64 mn) (setCell_got (o := 1) (.int .i64 pp) (setCell_got (o := 0) (.int .i64 bi) (B2.out)))))
        have e0 := cell_got HD 0; have e1 := cell_got HD 1; have e2 := cell_got HD 2; have e3 := cell_got HD 3; have e4 := cell_got HD 4; have le := got_lt HD
        refine bodyPost_ret (v := .agg #[.int .i64 bi, .int .i64 pp, .int .i64 mn, .int .i64 mx, .int .i64 0]) (by simp [results, Tryz.results103, go_sem, e0, e1, e2, e3, e4]) rfl ⟨rfl, (((((OO.out.setCell (.inr HN.out.2.1) _).setCell (.inr HN.out.2.1) _).setCell (.inr HN.out.2.1) _).setCell (.inr HN.out.2.1) _).setCell (.inr HN.out.2.1) _)⟩
      · have d1 : decide (30 < v) = false := decide_eq_false hgt
        obtain rfl : res = ⟨bi, po, mn, mx, v⟩ := by rw [HE.out, if_pos rfl, if_pos rfl, if_neg hgt]
        clear hv
        dsimp only
        clear HE
        go_enter Tryz.func103, Tryz.ntmps103
        go_upto_region 1 with (fail)
        refine wabs (G := fun w0 => Code.wp _ _ _ _ w0) (R := fun w1 => w1.heap[w.heap.size]? = some (.cells #[.int .i64 bi, .int .i64 po, .int .i64 mn, .int .i64 mx, .int .i64 cn] 91 (0, 0)) ∧ w1.heap[w.heap.size + 1]? = some (.cells #[.int .i64 0, .int .i64 0, .int .i64 0, .int .i64 0, .int .i64 0] 91 (0, 0)) ∧ Only [] w w1) ?_ ?_
        · skip
          have k0 := alloc_new w (.cells #[.int .i64 bi, .int .i64 po, .int .i64 mn, .int .i64 mx, .int .i64 cn] 91)
          have k1 := alloc_new (w.alloc (.cells #[.int .i64 bi, .int .i64 po, .int .i64 mn, .int .i64 mx, .int .i64 cn] 91)) (.cells #[.int .i64 0, .int .i64 0, .int .i64 0, .int .i64 0, .int .i64 0] 91)
          simp only [World.size_alloc] at k0 k1
          exact ⟨(alloc_old k0), k1, (((Only.refl [] w).alloc _).alloc _)⟩
        rintro w1 ⟨h1, h2, ho1⟩
        obtain ⟨b1, hb1⟩ : ∃ b, w.heap.size = b := ⟨_, rfl⟩
        obtain ⟨b2, hb2⟩ : ∃ b, w.heap.size + 1 = b := ⟨_, rfl⟩
        have HN : Hid (w.heap.size ≤ b1 ∧ w.heap.size ≤ b2 ∧ b1 ≠ b2 ∧ b2 ≠ b1) := Lib.hid (by omega)
        rw [hb1] at h1
        rw [hb2] at h2
        rw [show w.heap.size + 1 = b2 from hb2, hb1]
        have B1 := Lib.hid h1; have B2 := Lib.hid h2; have OO := Lib.hid ho1
        clear h1 h2 hb1 hb2
        clear ho1
        have k1 := c_5 B1.out; have k2 := c_5 B2.out
        go_wp2_with fail
        refine (HC.out _).mono ?_
        rintro e w2 ⟨rfl, ho⟩
        clear k1 k2
        replace OO := Lib.hid (OO.out.nil_trans ho); replace B1 := Lib.hid (ho.got B1.out (by simp)); replace B2 := Lib.hid (ho.got B2.out (by simp))
        clear ho
        have k1 := c_5 B1.out; have k2 := c_5 B2.out
        go_wp2_with fail
        refine (HS.out _).mono ?_
        rintro e w3 ⟨rfl, ho⟩
        clear k1 k2
        replace OO := Lib.hid (OO.out.nil_trans ho); replace B1 := Lib.hid (ho.got B1.out (by simp)); replace B2 := Lib.hid (ho.got B2.out (by simp))
        clear ho
        have k1 := c_5 B1.out; have k2 := c_5 B2.out
        go_upto_region 5 with (fail)
        refine wabs (G := fun w0 => Code.wp _ _ _ _ w0) (R := fun w4 => w4.heap[b1]? = some (.cells #[.int .i64 bi, .int .i64 po, .int .i64 mn, .int .i64 mx, .int .i64 v] 91 (0, 0)) ∧ w4.heap[b2]? = some (.cells #[.int .i64 0, .int .i64 0, .int .i64 0, .int .i64 0, .int .i64 0] 91 (0, 0)) ∧ Only [] w w4) ⟨(setCell_got (o := 4) (.int .i64 v) B1.out), (setCell_oth (.int .i64 v) B2.out HN.out.2.2.2), (OO.out.setCell (.inr HN.out.1) _)⟩ ?_
        rintro w4 ⟨g1, g2, ho⟩
        clear k1 k2
        replace B1 := Lib.hid g1; replace B2 := Lib.hid g2; replace OO := Lib.hid ho
        clear ho g1 g2
        have k1 := c_5 B1.out; have k2 := c_5 B2.out
        go_wp2
        have HD := setCell_got (o := 4) (.int .i64 v) (setCell_got (o := 3) (.int .i64 mx) (setCell_got (o := 2) (.int .i64 mn) (setCell_got (o := 1) (.int .i64 po) (setCell_got (o := 0) (.int .i64 bi) (B2.out)))))
        have e0 := cell_got HD 0; have e1 := cell_got HD 1; have e2 := cell_got HD 2; have e3 := cell_got HD 3; have e4 := cell_got HD 4; have le := got_lt HD
        refine bodyPost_ret (v := .agg #[.int .i64 bi, .int .i64 po, .int .i64 mn, .int .i64 mx, .int .i64 v]) (by simp [results, Tryz.results103, go_sem, e0, e1, e2, e3, e4]) rfl ⟨rfl, (((((OO.out.setCell (.inr HN.out.2.1) _).setCell (.inr HN.out.2.1) _).setCell (.inr HN.out.2.1) _).setCell (.inr HN.out.2.1) _).setCell (.inr HN.out.2.1) _)⟩
  · have q1 : (er != 0) = true := by simpa using hz
    have q2 : (er == 0) = false := by simpa using hz
    obtain rfl : res = rc0 := by rw [HE.out, if_neg hz]
    unfold rc0
    dsimp only
    clear HE hb hz HS
    go_enter Tryz.func103, Tryz.ntmps103
    go_upto_region 1 with (fail)
    refine wabs (G := fun w0 => Code.wp _ _ _ _ w0) (R := fun w1 => w1.heap[w.heap.size]? = some (.cells #[.int .i64 bi, .int .i64 po, .int .i64 mn, .int .i64 mx, .int .i64 cn] 91 (0, 0)) ∧ w1.heap[w.heap.size + 1]? = some (.cells #[.int .i64 0, .int .i64 0, .int .i64 0, .int .i64 0, .int .i64 0] 91 (0, 0)) ∧ Only [] w w1) ?_ ?_
    · skip
      have k0 := alloc_new w (.cells #[.int .i64 bi, .int .i64 po, .int .i64 mn, .int .i64 mx, .int .i64 cn] 91)
      have k1 := alloc_new (w.alloc (.cells #[.int .i64 bi, .int .i64 po, .int .i64 mn, .int .i64 mx, .int .i64 cn] 91)) (.cells #[.int .i64 0, .int .i64 0, .int .i64 0, .int .i64 0, .int .i64 0] 91)
      simp only [World.size_alloc] at k0 k1
      exact ⟨(alloc_old k0), k1, (((Only.refl [] w).alloc _).alloc _)⟩
    rintro w1 ⟨h1, h2, ho1⟩
    obtain ⟨b1, hb1⟩ : ∃ b, w.heap.size = b := ⟨_, rfl⟩
    obtain ⟨b2, hb2⟩ : ∃ b, w.heap.size + 1 = b := ⟨_, rfl⟩
    have HN : Hid (w.heap.size ≤ b1 ∧ w.heap.size ≤ b2 ∧ b1 ≠ b2 ∧ b2 ≠ b1) := Lib.hid (by omega)
    rw [hb1] at h1
    rw [hb2] at h2
    rw [show w.heap.size + 1 = b2 from hb2, hb1]
    have B1 := Lib.hid h1; have B2 := Lib.hid h2; have OO := Lib.hid ho1
    clear h1 h2 hb1 hb2
    clear ho1
    have k1 := c_5 B1.out; have k2 := c_5 B2.out
    go_wp2_with fail
    refine (HC.out _).mono ?_
    rintro e w2 ⟨rfl, ho⟩
    clear k1 k2
    replace OO := Lib.hid (OO.out.nil_trans ho); replace B1 := Lib.hid (ho.got B1.out (by simp)); replace B2 := Lib.hid (ho.got B2.out (by simp))
    clear ho
    have k1 := c_5 B1.out; have k2 := c_5 B2.out
    go_wp2
    have HD := setCell_got (o := 4) (.int .i64 0) (setCell_got (o := 3) (.int .i64 0) (setCell_got (o := 2) (.int .i64 0) (setCell_got (o := 1) (.int .i64 0) (setCell_got (o := 0) (.int .i64 0) (B2.out)))))
    have e0 := cell_got HD 0; have e1 := cell_got HD 1; have e2 := cell_got HD 2; have e3 := cell_got HD 3; have e4 := cell_got HD 4; have le := got_lt HD
    refine bodyPost_ret (v := .agg #[.int .i64 0, .int .i64 0, .int .i64 0, .int .i64 0, .int .i64 0]) (by simp [results, Tryz.results103, go_sem, e0, e1, e2, e3, e4]) rfl ⟨rfl, (((((OO.out.setCell (.inr HN.out.2.1) _).setCell (.inr HN.out.2.1) _).setCell (.inr HN.out.2.1) _).setCell (.inr HN.out.2.1) _).setCell (.inr HN.out.2.1) _)⟩
set_option maxRecDepth 100000 in
set_option maxHeartbeats 1000000 in
theorem pOChk (r : Rot) (w : World) :
    Calls Tryz.prog 225 #[roV r] w fun e w' => e = .returned (.int .i64 (ochk r)) ∧ Only [] w w' := by
  obtain ⟨a, b, c, d⟩ := r
  have HE : Hid (ochk ⟨a, b, c, d⟩ = if wth a 1 16 && (isSp b && isSp c) then 0 else 3) := Lib.hid rfl
  generalize ochk ⟨a, b, c, d⟩ = res at HE ⊢
  have H2 := Lib.hid (fun w' => pIsSpan b w')
  have H3 := Lib.hid (fun w' => pIsSpan c w')
  generalize isSp b = x2 at H2 HE
  generalize isSp c = x3 at H3 HE
  unfold roV
  dsimp only
  by_cases h1 : a < 1
  · have d1 : decide (a < 1) = true := decide_eq_true h1
    have hw : wth a 1 16 = false := by rw [wth_no]; omega
    rw [hw] at HE
    obtain rfl : res = 3 := by have := HE.out; simpa using this
    clear HE
    go_enter Tryz.func225, Tryz.ntmps225
    go_upto_region 1 with (fail)
    refine alloc_abs (G := fun w0 => Code.wp _ _ _ _ w0) ?_
    intro w1 hb1 ho1 hs1
    obtain ⟨b1, hbe1⟩ : ∃ b, w.heap.size = b := ⟨_, rfl⟩
    rw [hbe1] at hb1
    rw [hbe1]
    have HN : Hid (w.heap.size ≤ b1) := Lib.hid (by omega)
    have B1 := Lib.hid hb1; have OO := Lib.hid ho1
    clear hb1 hs1 hbe1
    clear ho1
    have k1 := c_4 B1.out
    go_wp2
    go_ret
    exact ⟨rfl, OO.out⟩
  · have d1 : decide (a < 1) = false := decide_eq_false h1
    by_cases h2 : 16 < a
    · have d2 : decide (16 < a) = true := decide_eq_true h2
      have hw : wth a 1 16 = false := by rw [wth_no]; omega
      rw [hw] at HE
      obtain rfl : res = 3 := by have := HE.out; simpa using this
      clear HE
      go_enter Tryz.func225, Tryz.ntmps225
      go_upto_region 1 with (fail)
      refine alloc_abs (G := fun w0 => Code.wp _ _ _ _ w0) ?_
      intro w1 hb1 ho1 hs1
      obtain ⟨b1, hbe1⟩ : ∃ b, w.heap.size = b := ⟨_, rfl⟩
      rw [hbe1] at hb1
      rw [hbe1]
      have HN : Hid (w.heap.size ≤ b1) := Lib.hid (by omega)
      have B1 := Lib.hid hb1; have OO := Lib.hid ho1
      clear hb1 hs1 hbe1
      clear ho1
      have k1 := c_4 B1.out
      go_wp2
      go_ret
      exact ⟨rfl, OO.out⟩
    · have d2 : decide (16 < a) = false := decide_eq_false h2
      have hw : wth a 1 16 = true := by rw [wth_iff]; omega
      rw [hw] at HE
      cases x2
      · obtain rfl : res = 3 := by have := HE.out; simpa using this
        clear HE
        go_enter Tryz.func225, Tryz.ntmps225
        go_upto_region 1 with (fail)
        refine alloc_abs (G := fun w0 => Code.wp _ _ _ _ w0) ?_
        intro w1 hb1 ho1 hs1
        obtain ⟨b1, hbe1⟩ : ∃ b, w.heap.size = b := ⟨_, rfl⟩
        rw [hbe1] at hb1
        rw [hbe1]
        have HN : Hid (w.heap.size ≤ b1) := Lib.hid (by omega)
        have B1 := Lib.hid hb1; have OO := Lib.hid ho1
        clear hb1 hs1 hbe1
        clear ho1
        have k1 := c_4 B1.out
        go_wp2_with fail
        refine (H2.out _).mono ?_
        rintro e w2 ⟨rfl, ho⟩
        clear k1
        replace OO := Lib.hid (OO.out.nil_trans ho); replace B1 := Lib.hid (ho.got B1.out (by simp))
        clear ho
        have k1 := c_4 B1.out
        go_wp2
        go_ret
        exact ⟨rfl, OO.out⟩
      · cases x3
        · obtain rfl : res = 3 := by have := HE.out; simpa using this
          clear HE
          go_enter Tryz.func225, Tryz.ntmps225
          go_upto_region 1 with (fail)
          refine alloc_abs (G := fun w0 => Code.wp _ _ _ _ w0) ?_
          intro w1 hb1 ho1 hs1
          obtain ⟨b1, hbe1⟩ : ∃ b, w.heap.size = b := ⟨_, rfl⟩
          rw [hbe1] at hb1
          rw [hbe1]
          have HN : Hid (w.heap.size ≤ b1) := Lib.hid (by omega)
          have B1 := Lib.hid hb1; have OO := Lib.hid ho1
          clear hb1 hs1 hbe1
          clear ho1
          have k1 := c_4 B1.out
          go_wp2_with fail
          refine (H2.out _).mono ?_
          rintro e w2 ⟨rfl, ho⟩
          clear k1
          replace OO := Lib.hid (OO.out.nil_trans ho); replace B1 := Lib.hid (ho.got B1.out (by simp))
          clear ho
          have k1 := c_4 B1.out
          go_wp2_with fail
          refine (H3.out _).mono ?_
          rintro e w3 ⟨rfl, ho⟩
          clear k1
          replace OO := Lib.hid (OO.out.nil_trans ho); replace B1 := Lib.hid (ho.got B1.out (by simp))
          clear ho
          have k1 := c_4 B1.out
          go_wp2
          go_ret
          exact ⟨rfl, OO.out⟩
        · obtain rfl : res = 0 := by have := HE.out; simpa using this
          clear HE
          go_enter Tryz.func225, Tryz.ntmps225
          go_upto_region 1 with (fail)
          refine alloc_abs (G := fun w0 => Code.wp _ _ _ _ w0) ?_
          intro w1 hb1 ho1 hs1
          obtain ⟨b1, hbe1⟩ : ∃ b, w.heap.size = b := ⟨_, rfl⟩
          rw [hbe1] at hb1
          rw [hbe1]
          have HN : Hid (w.heap.size ≤ b1) := Lib.hid (by omega)
          have B1 := Lib.hid hb1; have OO := Lib.hid ho1
          clear hb1 hs1 hbe1
          clear ho1
          have k1 := c_4 B1.out
          go_wp2_with fail
          refine (H2.out _).mono ?_
          rintro e w2 ⟨rfl, ho⟩
          clear k1
          replace OO := Lib.hid (OO.out.nil_trans ho); replace B1 := Lib.hid (ho.got B1.out (by simp))
          clear ho
          have k1 := c_4 B1.out
          go_wp2_with fail
          refine (H3.out _).mono ?_
          rintro e w3 ⟨rfl, ho⟩
          clear k1
          replace OO := Lib.hid (OO.out.nil_trans ho); replace B1 := Lib.hid (ho.got B1.out (by simp))
          clear ho
          have k1 := c_4 B1.out
          go_wp2
          go_ret
          exact ⟨rfl, OO.out⟩
set_option maxRecDepth 100000 in
set_option maxHeartbeats 1000000 in
theorem pOChecked (r : Rot) (w : World) :
    Calls Tryz.prog 149 #[roV r] w fun e w' => e = .returned (.tuple #[roV (if ochk r = 0 then r else ro0), .int .i64 (if ochk r = 0 then 0 else 3)]) ∧ Only [] w w' := by
  obtain ⟨a, b, c, d⟩ := r
  have HC := Lib.hid (fun w' => pOChk ⟨a, b, c, d⟩ w')
  have hor : ochk ⟨a, b, c, d⟩ = 0 ∨ ochk ⟨a, b, c, d⟩ = 3 := by unfold ochk; split <;> simp
  unfold roV at HC ⊢
  dsimp only at HC ⊢
  rcases hor with h | h <;> rw [h] at HC ⊢ <;> clear h
  · rw [if_pos rfl, if_pos rfl]
    dsimp only
    go_enter Tryz.func149, Tryz.ntmps149
    go_upto_region 1 with (fail)
    refine wabs (G := fun w0 => Code.wp _ _ _ _ w0) (R := fun w1 => w1.heap[w.heap.size]? = some (.cells #[.int .i64 a, .int .i64 b, .int .i64 c, .int .u32 d] 88 (0, 0)) ∧ w1.heap[w.heap.size + 1]? = some (.cells #[.int .i64 0, .int .i64 0, .int .i64 0, .int .u32 0] 88 (0, 0)) ∧ Only [] w w1) ?_ ?_
    · skip
      have k0 := alloc_new w (.cells #[.int .i64 a, .int .i64 b, .int .i64 c, .int .u32 d] 88)
      have k1 := alloc_new (w.alloc (.cells #[.int .i64 a, .int .i64 b, .int .i64 c, .int .u32 d] 88)) (.cells #[.int .i64 0, .int .i64 0, .int .i64 0, .int .u32 0] 88)
      simp only [World.size_alloc] at k0 k1
      exact ⟨(alloc_old k0), k1, (((Only.refl [] w).alloc _).alloc _)⟩
    rintro w1 ⟨h1, h2, ho1⟩
    obtain ⟨b1, hb1⟩ : ∃ b, w.heap.size = b := ⟨_, rfl⟩
    obtain ⟨b2, hb2⟩ : ∃ b, w.heap.size + 1 = b := ⟨_, rfl⟩
    have HN : Hid (w.heap.size ≤ b1 ∧ w.heap.size ≤ b2 ∧ b1 ≠ b2 ∧ b2 ≠ b1) := Lib.hid (by omega)
    rw [hb1] at h1
    rw [hb2] at h2
    rw [show w.heap.size + 1 = b2 from hb2, hb1]
    have B1 := Lib.hid h1; have B2 := Lib.hid h2; have OO := Lib.hid ho1
    clear h1 h2 hb1 hb2
    clear ho1
    have k1 := c_4 B1.out; have k2 := c_4 B2.out
    go_wp2_with fail
    refine (HC.out _).mono ?_
    rintro e w2 ⟨rfl, ho⟩
    clear k1 k2
    replace OO := Lib.hid (OO.out.nil_trans ho); replace B1 := Lib.hid (ho.got B1.out (by simp)); replace B2 := Lib.hid (ho.got B2.out (by simp))
    clear ho
    have k1 := c_4 B1.out; have k2 := c_4 B2.out
    go_wp2
    have HD := setCell_got (o := 3) (.int .u32 d) (setCell_got (o := 2) (.int .i64 c) (setCell_got (o := 1) (.int .i64 b) (setCell_got (o := 0) (.int .i64 a) (B2.out))))
    have e0 := cell_got HD 0; have e1 := cell_got HD 1; have e2 := cell_got HD 2; have e3 := cell_got HD 3; have le := got_lt HD
    refine bodyPost_ret (v := .tuple #[.agg #[.int .i64 a, .int .i64 b, .int .i64 c, .int .u32 d], .int .i64 0]) (by simp [results, Tryz.results149, go_sem, e0, e1, e2, e3]) rfl ⟨rfl, ((((OO.out.setCell (.inr HN.out.2.1) _).setCell (.inr HN.out.2.1) _).setCell (.inr HN.out.2.1) _).setCell (.inr HN.out.2.1) _)⟩
  · rw [if_neg (by decide), if_neg (by decide)]
    unfold ro0
    dsimp only
    go_enter Tryz.func149, Tryz.ntmps149
    go_upto_region 1 with (fail)
    refine wabs (G := fun w0 => Code.wp _ _ _ _ w0) (R := fun w1 => w1.heap[w.heap.size]? = some (.cells #[.int .i64 a, .int .i64 b, .int .i64 c, .int .u32 d] 88 (0, 0)) ∧ w1.heap[w.heap.size + 1]? = some (.cells #[.int .i64 0, .int .i64 0, .int .i64 0, .int .u32 0] 88 (0, 0)) ∧ Only [] w w1) ?_ ?_
    · skip
      have k0 := alloc_new w (.cells #[.int .i64 a, .int .i64 b, .int .i64 c, .int .u32 d] 88)
      have k1 := alloc_new (w.alloc (.cells #[.int .i64 a, .int .i64 b, .int .i64 c, .int .u32 d] 88)) (.cells #[.int .i64 0, .int .i64 0, .int .i64 0, .int .u32 0] 88)
      simp only [World.size_alloc] at k0 k1
      exact ⟨(alloc_old k0), k1, (((Only.refl [] w).alloc _).alloc _)⟩
    rintro w1 ⟨h1, h2, ho1⟩
    obtain ⟨b1, hb1⟩ : ∃ b, w.heap.size = b := ⟨_, rfl⟩
    obtain ⟨b2, hb2⟩ : ∃ b, w.heap.size + 1 = b := ⟨_, rfl⟩
    have HN : Hid (w.heap.size ≤ b1 ∧ w.heap.size ≤ b2 ∧ b1 ≠ b2 ∧ b2 ≠ b1) := Lib.hid (by omega)
    rw [hb1] at h1
    rw [hb2] at h2
    rw [show w.heap.size + 1 = b2 from hb2, hb1]
    have B1 := Lib.hid h1; have B2 := Lib.hid h2; have OO := Lib.hid ho1
    clear h1 h2 hb1 hb2
    clear ho1
    have k1 := c_4 B1.out; have k2 := c_4 B2.out
    go_wp2_with fail
    refine (HC.out _).mono ?_
    rintro e w2 ⟨rfl, ho⟩
    clear k1 k2
    replace OO := Lib.hid (OO.out.nil_trans ho); replace B1 := Lib.hid (ho.got B1.out (by simp)); replace B2 := Lib.hid (ho.got B2.out (by simp))
    clear ho
    have k1 := c_4 B1.out; have k2 := c_4 B2.out
    go_wp2
    have HD := setCell_got (o := 3) (.int .u32 0) (setCell_got (o := 2) (.int .i64 0) (setCell_got (o := 1) (.int .i64 0) (setCell_got (o := 0) (.int .i64 0) (B2.out))))
    have e0 := cell_got HD 0; have e1 := cell_got HD 1; have e2 := cell_got HD 2; have e3 := cell_got HD 3; have le := got_lt HD
    refine bodyPost_ret (v := .tuple #[.agg #[.int .i64 0, .int .i64 0, .int .i64 0, .int .u32 0], .int .i64 3]) (by simp [results, Tryz.results149, go_sem, e0, e1, e2, e3]) rfl ⟨rfl, ((((OO.out.setCell (.inr HN.out.2.1) _).setCell (.inr HN.out.2.1) _).setCell (.inr HN.out.2.1) _).setCell (.inr HN.out.2.1) _)⟩
set_option maxRecDepth 100000 in
set_option maxHeartbeats 1000000 in
theorem pNChk (p : Np) (w : World) :
    Calls Tryz.prog 135 #[npV p] w fun e w' => e = .returned (.int .i64 (nchk p)) ∧ Only [] w w' := by
  obtain ⟨p1, p2, p3, p4, p5, p6, p7, p8, p9, pa, pb, pc, pd⟩ := p
  have HE : Hid (nchk ⟨p1, p2, p3, p4, p5, p6, p7, p8, p9, pa, pb, pc, pd⟩ = if wth p1 0 3 && (wth p2 1 4 && (wth p3 0 7 && (wth p4 0 255 && (wth p5 (-128) 127 && (wth p6 (-128) 127))))) then 0 else 3) := Lib.hid rfl
  generalize nchk ⟨p1, p2, p3, p4, p5, p6, p7, p8, p9, pa, pb, pc, pd⟩ = res at HE ⊢
  have H1 := Lib.hid (fun w' => pWithinN p1 0 3 w')
  generalize wth p1 0 3 = x1 at H1 HE
  have H2 := Lib.hid (fun w' => pWithinN p2 1 4 w')
  generalize wth p2 1 4 = x2 at H2 HE
  have H3 := Lib.hid (fun w' => pWithinN p3 0 7 w')
  generalize wth p3 0 7 = x3 at H3 HE
  have H4 := Lib.hid (fun w' => pWithinN p4 0 255 w')
  generalize wth p4 0 255 = x4 at H4 HE
  have H5 := Lib.hid (fun w' => pWithinN p5 (-128) 127 w')
  generalize wth p5 (-128) 127 = x5 at H5 HE
  have H6 := Lib.hid (fun w' => pWithinN p6 (-128) 127 w')
  generalize wth p6 (-128) 127 = x6 at H6 HE
  unfold npV
  dsimp only
  cases x1
  · obtain rfl : res = 3 := by have := HE.out; simpa using this
    clear HE
    go_enter Tryz.func135, Tryz.ntmps135
    go_upto_region 1 with (fail)
    refine alloc_abs (G := fun w0 => Code.wp _ _ _ _ w0) ?_
    intro w1 hb1 ho1 hs1
    obtain ⟨b1, hbe1⟩ : ∃ b, w.heap.size = b := ⟨_, rfl⟩
    rw [hbe1] at hb1
    rw [hbe1]
    have HN : Hid (w.heap.size ≤ b1) := Lib.hid (by omega)
    have B1 := Lib.hid hb1; have OO := Lib.hid ho1
    clear hb1 hs1 hbe1
    clear ho1
    have k1 := c_13 B1.out
    go_wp2_with fail
    refine (H1.out _).mono ?_
    rintro e w2 ⟨rfl, ho⟩
    clear k1
    replace OO := Lib.hid (OO.out.nil_trans ho); replace B1 := Lib.hid (ho.got B1.out (by simp))
    clear ho
    have k1 := c_13 B1.out
    go_wp2
    go_ret
    exact ⟨rfl, OO.out⟩
  · cases x2
    · obtain rfl : res = 3 := by have := HE.out; simpa using this
      clear HE
      go_enter Tryz.func135, Tryz.ntmps135
      go_upto_region 1 with (fail)
      refine alloc_abs (G := fun w0 => Code.wp _ _ _ _ w0) ?_
      intro w1 hb1 ho1 hs1
      obtain ⟨b1, hbe1⟩ : ∃ b, w.heap.size = b := ⟨_, rfl⟩
      rw [hbe1] at hb1
      rw [hbe1]
      have HN : Hid (w.heap.size ≤ b1) := Lib.hid (by omega)
      have B1 := Lib.hid hb1; have OO := Lib.hid ho1
      clear hb1 hs1 hbe1
      clear ho1
      have k1 := c_13 B1.out
      go_wp2_with fail
      refine (H1.out _).mono ?_
      rintro e w2 ⟨rfl, ho⟩
      clear k1
      replace OO := Lib.hid (OO.out.nil_trans ho); replace B1 := Lib.hid (ho.got B1.out (by simp))
      clear ho
      have k1 := c_13 B1.out
      go_wp2_with fail
      refine (H2.out _).mono ?_
      rintro e w3 ⟨rfl, ho⟩
      clear k1
      replace OO := Lib.hid (OO.out.nil_trans ho); replace B1 := Lib.hid (ho.got B1.out (by simp))
      clear ho
      have k1 := c_13 B1.out
      go_wp2
      go_ret
      exact ⟨rfl, OO.out⟩
    · cases x3
      · obtain rfl : res = 3 := by have := HE.out; simpa using this
        clear HE
        go_enter Tryz.func135, Tryz.ntmps135
        go_upto_region 1 with (fail)
        refine alloc_abs (G := fun w0 => Code.wp _ _ _ _ w0) ?_
        intro w1 hb1 ho1 hs1
        obtain ⟨b1, hbe1⟩ : ∃ b, w.heap.size = b := ⟨_, rfl⟩
        rw [hbe1] at hb1
        rw [hbe1]
        have HN : Hid (w.heap.size ≤ b1) := Lib.hid (by omega)
        have B1 := Lib.hid hb1; have OO := Lib.hid ho1
        clear hb1 hs1 hbe1
        clear ho1
        have k1 := c_13 B1.out
        go_wp2_with fail
        refine (H1.out _).mono ?_
        rintro e w2 ⟨rfl, ho⟩
        clear k1
        replace OO := Lib.hid (OO.out.nil_trans ho); replace B1 := Lib.hid (ho.got B1.out (by simp))
        clear ho
        have k1 := c_13 B1.out
        go_wp2_with fail
        refine (H2.out _).mono ?_
        rintro e w3 ⟨rfl, ho⟩
        clear k1
        replace OO := Lib.hid (OO.out.nil_trans ho); replace B1 := Lib.hid (ho.got B1.out (by simp))
        clear ho
        have k1 := c_13 B1.out
        go_wp2_with fail
        refine (H3.out _).mono ?_
        rintro e w4 ⟨rfl, ho⟩
        clear k1
        replace OO := Lib.hid (OO.out.nil_trans ho); replace B1 := Lib.hid (ho.got B1.out (by simp))
        clear ho
        have k1 := c_13 B1.out
        go_wp2
        go_ret
        exact ⟨rfl, OO.out⟩
      · cases x4
        · obtain rfl : res = 3 := by have := HE.out; simpa using this
          clear HE
          go_enter Tryz.func135, Tryz.ntmps135
          go_upto_region 1 with (fail)
          refine alloc_abs (G := fun w0 => Code.wp _ _ _ _ w0) ?_
          intro w1 hb1 ho1 hs1
          obtain ⟨b1, hbe1⟩ : ∃ b, w.heap.size = b := ⟨_, rfl⟩
          rw [hbe1] at hb1
          rw [hbe1]
          have HN : Hid (w.heap.size ≤ b1) := Lib.hid (by omega)
          have B1 := Lib.hid hb1; have OO := Lib.hid ho1
          clear hb1 hs1 hbe1
          clear ho1
          have k1 := c_13 B1.out
          go_wp2_with fail
          refine (H1.out _).mono ?_
          rintro e w2 ⟨rfl, ho⟩
          clear k1
          replace OO := Lib.hid (OO.out.nil_trans ho); replace B1 := Lib.hid (ho.got B1.out (by simp))
          clear ho
          have k1 := c_13 B1.out
          go_wp2_with fail
          refine (H2.out _).mono ?_
          rintro e w3 ⟨rfl, ho⟩
          clear k1
          replace OO := Lib.hid (OO.out.nil_trans ho); replace B1 := Lib.hid (ho.got B1.out (by simp))
          clear ho
          have k1 := c_13 B1.out
          go_wp2_with fail
          refine (H3.out _).mono ?_
          rintro e w4 ⟨rfl, ho⟩
          clear k1
          replace OO := Lib.hid (OO.out.nil_trans ho); replace B1 := Lib.hid (ho.got B1.out (by simp))
          clear ho
          have k1 := c_13 B1.out
          go_wp2_with fail
          refine (H4.out _).mono ?_
          rintro e w5 ⟨rfl, ho⟩
          clear k1
          replace OO := Lib.hid (OO.out.nil_trans ho); replace B1 := Lib.hid (ho.got B1.out (by simp))
          clear ho
          have k1 := c_13 B1.out
          go_wp2
          go_ret
          exact ⟨rfl, OO.out⟩
        · cases x5
          · obtain rfl : res = 3 := by have := HE.out; simpa using this
            clear HE
            go_enter Tryz.func135, Tryz.ntmps135
            go_upto_region 1 with (fail)
            refine alloc_abs (G := fun w0 => Code.wp _ _ _ _ w0) ?_
            intro w1 hb1 ho1 hs1
            obtain ⟨b1, hbe1⟩ : ∃ b, w.heap.size = b := ⟨_, rfl⟩
            rw [hbe1] at hb1
            rw [hbe1]
            have HN : Hid (w.heap.size ≤ b1) := Lib.hid (by omega)
            have B1 := Lib.hid hb1; have OO := Lib.hid ho1
            clear hb1 hs1 hbe1
            clear ho1
            have k1 := c_13 B1.out
            go_wp2_with fail
            refine (H1.out _).mono ?_
            rintro e w2 ⟨rfl, ho⟩
            clear k1
            replace OO := Lib.hid (OO.out.nil_trans ho); replace B1 := Lib.hid (ho.got B1.out (by simp))
            clear ho
            have k1 := c_13 B1.out
            go_wp2_with fail
            refine (H2.out _).mono ?_
            rintro e w3 ⟨rfl, ho⟩
            clear k1
            replace OO := Lib.hid (OO.out.nil_trans ho); replace B1 := Lib.hid (ho.got B1.out (by simp))
            clear ho
            have k1 := c_13 B1.out
            go_wp2_with fail
            refine (H3.out _).mono ?_
            rintro e w4 ⟨rfl, ho⟩
            clear k1
            replace OO := Lib.hid (OO.out.nil_trans ho); replace B1 := Lib.hid (ho.got B1.out (by simp))
            clear ho
            have k1 := c_13 B1.out
            go_wp2_with fail
            refine (H4.out _).mono ?_
            rintro e w5 ⟨rfl, ho⟩
            clear k1
            replace OO := Lib.hid (OO.out.nil_trans ho); replace B1 := Lib.hid (ho.got B1.out (by simp))
            clear ho
            have k1 := c_13 B1.out
            go_wp2_with fail
            refine (H5.out _).mono ?_
            rintro e w6 ⟨rfl, ho⟩
            clear k1
            replace OO := Lib.hid (OO.out.nil_trans ho); replace B1 := Lib.hid (ho.got B1.out (by simp))
            clear ho
            have k1 := c_13 B1.out
            go_wp2
            go_ret
            exact ⟨rfl, OO.out⟩
          · cases x6
            · obtain rfl : res = 3 := by have := HE.out; simpa using this
              clear HE
              go_enter Tryz.func135, Tryz.ntmps135
              go_upto_region 1 with (fail)
              refine alloc_abs (G := fun w0 => Code.wp _ _ _ _ w0) ?_
              intro w1 hb1 ho1 hs1
              obtain ⟨b1, hbe1⟩ : ∃ b, w.heap.size = b := ⟨_, rfl⟩
              rw [hbe1] at hb1
              rw [hbe1]
              have HN : Hid (w.heap.size ≤ b1) := Lib.hid (by omega)
              have B1 := Lib.hid hb1; have OO := Lib.hid ho1
              clear hb1 hs1 hbe1
              clear ho1
              have k1 := c_13 B1.out
              go_wp2_with fail
              refine (H1.out _).mono ?_
              rintro e w2 ⟨rfl, ho⟩
              clear k1
              replace OO := Lib.hid (OO.out.nil_trans ho); replace B1 := Lib.hid (ho.got B1.out (by simp))
              clear ho
              have k1 := c_13 B1.out
              go_wp2_with fail
              refine (H2.out _).mono ?_
              rintro e w3 ⟨rfl, ho⟩
              clear k1
              replace OO := Lib.hid (OO.out.nil_trans ho); replace B1 := Lib.hid (ho.got B1.out (by simp))
              clear ho
              have k1 := c_13 B1.out
              go_wp2_with fail
              refine (H3.out _).mono ?_
              rintro e w4 ⟨rfl, ho⟩
              clear k1
              replace OO := Lib.hid (OO.out.nil_trans ho); replace B1 := Lib.hid (ho.got B1.out (by simp))
              clear ho
              have k1 := c_13 B1.out
              go_wp2_with fail
              refine (H4.out _).mono ?_
              rintro e w5 ⟨rfl, ho⟩
              clear k1
              replace OO := Lib.hid (OO.out.nil_trans ho); replace B1 := Lib.hid (ho.got B1.out (by simp))
              clear ho
              have k1 := c_13 B1.out
              go_wp2_with fail
              refine (H5.out _).mono ?_
              rintro e w6 ⟨rfl, ho⟩
              clear k1
              replace OO := Lib.hid (OO.out.nil_trans ho); replace B1 := Lib.hid (ho.got B1.out (by simp))
              clear ho
              have k1 := c_13 B1.out
              go_wp2_with fail
              refine (H6.out _).mono ?_
              rintro e w7 ⟨rfl, ho⟩
              clear k1
              replace OO := Lib.hid (OO.out.nil_trans ho); replace B1 := Lib.hid (ho.got B1.out (by simp))
              clear ho
              have k1 := c_13 B1.out
              go_wp2
              go_ret
              exact ⟨rfl, OO.out⟩
            · obtain rfl : res = 0 := by have := HE.out; simpa using this
              clear HE
              go_enter Tryz.func135, Tryz.ntmps135
              go_upto_region 1 with (fail)
              refine alloc_abs (G := fun w0 => Code.wp _ _ _ _ w0) ?_
              intro w1 hb1 ho1 hs1
              obtain ⟨b1, hbe1⟩ : ∃ b, w.heap.size = b := ⟨_, rfl⟩
              rw [hbe1] at hb1
              rw [hbe1]
              have HN : Hid (w.heap.size ≤ b1) := Lib.hid (by omega)
              have B1 := Lib.hid hb1; have OO := Lib.hid ho1
              clear hb1 hs1 hbe1
              clear ho1
              have k1 := c_13 B1.out
              go_wp2_with fail
              refine (H1.out _).mono ?_
              rintro e w2 ⟨rfl, ho⟩
              clear k1
              replace OO := Lib.hid (OO.out.nil_trans ho); replace B1 := Lib.hid (ho.got B1.out (by simp))
              clear ho
              have k1 := c_13 B1.out
              go_wp2_with fail
              refine (H2.out _).mono ?_
              rintro e w3 ⟨rfl, ho⟩
              clear k1
              replace OO := Lib.hid (OO.out.nil_trans ho); replace B1 := Lib.hid (ho.got B1.out (by simp))
              clear ho
              have k1 := c_13 B1.out
              go_wp2_with fail
              refine (H3.out _).mono ?_
              rintro e w4 ⟨rfl, ho⟩
              clear k1
              replace OO := Lib.hid (OO.out.nil_trans ho); replace B1 := Lib.hid (ho.got B1.out (by simp))
              clear ho
              have k1 := c_13 B1.out
              go_wp2_with fail
              refine (H4.out _).mono ?_
              rintro e w5 ⟨rfl, ho⟩
              clear k1
              replace OO := Lib.hid (OO.out.nil_trans ho); replace B1 := Lib.hid (ho.got B1.out (by simp))
              clear ho
              have k1 := c_13 B1.out
              go_wp2_with fail
              refine (H5.out _).mono ?_
              rintro e w6 ⟨rfl, ho⟩
              clear k1
              replace OO := Lib.hid (OO.out.nil_trans ho); replace B1 := Lib.hid (ho.got B1.out (by simp))
              clear ho
              have k1 := c_13 B1.out
              go_wp2_with fail
              refine (H6.out _).mono ?_
              rintro e w7 ⟨rfl, ho⟩
              clear k1
              replace OO := Lib.hid (OO.out.nil_trans ho); replace B1 := Lib.hid (ho.got B1.out (by simp))
              clear ho
              have k1 := c_13 B1.out
              go_wp2
              go_ret
              exact ⟨rfl, OO.out⟩
set_option maxRecDepth 100000 in
set_option maxHeartbeats 1000000 in
theorem pNSync (p : Np) (w : World) :
    Calls Tryz.prog 137 #[npV p] w fun e w' => e = .returned (.bool (nsync p)) ∧ Only [] w w' := by
  obtain ⟨p1, p2, p3, p4, p5, p6, p7, p8, p9, pa, pb, pc, pd⟩ := p
  have HE : Hid (nsync ⟨p1, p2, p3, p4, p5, p6, p7, p8, p9, pa, pb, pc, pd⟩ = (!decide (p1 = 3) && wth p4 1 15)) := Lib.hid rfl
  generalize nsync ⟨p1, p2, p3, p4, p5, p6, p7, p8, p9, pa, pb, pc, pd⟩ = res at HE ⊢
  have H1 := Lib.hid (fun w' => pWithinN p4 1 15 w')
  generalize wth p4 1 15 = x1 at H1 HE
  unfold npV
  dsimp only
  by_cases h : p1 = 3
  · subst h
    obtain rfl : res = false := by have := HE.out; simpa using this
    clear HE
    go_enter Tryz.func137, Tryz.ntmps137
    go_upto_region 1 with (fail)
    refine alloc_abs (G := fun w0 => Code.wp _ _ _ _ w0) ?_
    intro w1 hb1 ho1 hs1
    obtain ⟨b1, hbe1⟩ : ∃ b, w.heap.size = b := ⟨_, rfl⟩
    rw [hbe1] at hb1
    rw [hbe1]
    have HN : Hid (w.heap.size ≤ b1) := Lib.hid (by omega)
    have B1 := Lib.hid hb1; have OO := Lib.hid ho1
    clear hb1 hs1 hbe1
    clear ho1
    have k1 := c_13 B1.out
    go_wp2
    go_ret
    exact ⟨rfl, OO.out⟩
  · have q1 : (p1 != 3) = true := by simpa using h
    obtain rfl : res = x1 := by have := HE.out; simpa [h] using this
    clear HE h
    go_enter Tryz.func137, Tryz.ntmps137
    go_upto_region 1 with (fail)
    refine alloc_abs (G := fun w0 => Code.wp _ _ _ _ w0) ?_
    intro w1 hb1 ho1 hs1
    obtain ⟨b1, hbe1⟩ : ∃ b, w.heap.size = b := ⟨_, rfl⟩
    rw [hbe1] at hb1
    rw [hbe1]
    have HN : Hid (w.heap.size ≤ b1) := Lib.hid (by omega)
    have B1 := Lib.hid hb1; have OO := Lib.hid ho1
    clear hb1 hs1 hbe1
    clear ho1
    have k1 := c_13 B1.out
    go_wp2_with fail
    refine (H1.out _).mono ?_
    rintro e w2 ⟨rfl, ho⟩
    clear k1
    replace OO := Lib.hid (OO.out.nil_trans ho); replace B1 := Lib.hid (ho.got B1.out (by simp))
    clear ho
    have k1 := c_13 B1.out
    go_wp2
    go_ret
    exact ⟨rfl, OO.out⟩
set_option maxRecDepth 100000 in
set_option maxHeartbeats 1000000 in
theorem pLong (s : Int) (h0 : 0 ≤ s) (h1 : s ≤ 4294967295) (w : World) :
    Calls Tryz.prog 130 #[.int .u32 s] w fun e w' => e = .returned (.int .i64 (lngS s)) ∧ Only [] w w' := by
  have HE : Hid ((s * 1000000000 + 65535) / 65536 = lngS s) := Lib.hid rfl
  have w0' : IntKind.i64.wrap s = s := by rw [IntKind.wrap_i64]; omega
  have w1' : IntKind.i64.wrap (s * 1000000000) = s * 1000000000 := by rw [IntKind.wrap_i64]; omega
  have w2' : IntKind.i64.wrap (s * 1000000000 + 65536) = s * 1000000000 + 65536 := by rw [IntKind.wrap_i64]; omega
  have w3' : IntKind.i64.wrap (s * 1000000000 + 65536 - 1) = s * 1000000000 + 65535 := by rw [IntKind.wrap_i64]; omega
  go_enter Tryz.func130, Tryz.ntmps130
  have OO := Lib.hid (Only.refl [] w)
  go_wp2
  go_ret
  exact ⟨by rw [← HE.out]; rfl, OO.out⟩
end Go.Proofs.YtikjdmbfjkbndaaGreat
