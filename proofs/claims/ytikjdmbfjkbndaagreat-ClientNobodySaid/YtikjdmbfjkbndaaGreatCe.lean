/- Clocks that do not slew, and controllers: plain, in memory, New, Now, State. Conditions: those named in each theorem. -/
import Derived.Test.YtikjdmbfjkbndaaGreatCd
namespace Go.Proofs.YtikjdmbfjkbndaaGreat
open Go.RowKit

/-- a clock without a slew -/
structure Ck where
  raw : Int
  time : Int
  ppb : Int
  steps : Int
deriving DecidableEq, Inhabited
def CkAt (w : World) (b : Nat) (c : Ck) : Prop := w.heap[b]? = some (.cells #[.int .i64 c.raw, .int .i64 c.time, .int .i64 c.ppb, .int .i64 0, .int .i64 0, .int .i64 c.steps] 178 (0, 0))
structure CkOk (c : Ck) : Prop where
  r0 : -4503599627370496 ≤ c.raw
  r1 : c.raw ≤ 4503599627370496
  t0 : -4503599627370496 ≤ c.time
  t1 : c.time ≤ 4503599627370496
  p0 : -500000 ≤ c.ppb
  p1 : c.ppb ≤ 500000
  s0 : 0 ≤ c.steps
  s1 : c.steps ≤ 9223372036854775807
def cShow (c : Ck) (raw : Int) : Int := c.time + (raw - c.raw) + (raw - c.raw) * c.ppb / 1000000000
def cNow (c : Ck) (raw : Int) : Int × Int := if raw < c.raw then (0, 12) else if 4503599627370496 < raw then (0, 3) else if isT (cShow c raw) = true then (cShow c raw, 0) else (0, 3)
theorem part_bd {e ppb : Int} (h0 : 0 ≤ e) (h1 : e ≤ 9007199254740992) (h2 : -500000 ≤ ppb) (h3 : ppb ≤ 500000) : -9007199254740992 ≤ e * ppb / 1000000000 ∧ e * ppb / 1000000000 ≤ 9007199254740992 := by
  constructor
  · rw [Int.le_ediv_iff_mul_le (by omega)]
    have := Int.mul_le_mul_of_nonneg_left (a := -500000) (b := ppb) (c := e) h2 h0
    omega
  · refine Int.ediv_le_of_le_mul (by omega) ?_
    have := Int.mul_le_mul_of_nonneg_left (a := ppb) (b := 500000) (c := e) h3 h0
    omega
set_option maxRecDepth 100000 in
set_option maxHeartbeats 1000000 in
theorem pCWithin (n m : Int) (h0 : 0 ≤ m) (hm : m ≤ 9223372036854775807) (w : World) :
    Calls Tryz.prog 89 #[.int .i64 n, .int .i64 m] w fun e w' => e = .returned (.bool (wth n (-m) m)) ∧ Only [] w w' := by
  have r1 : IntKind.i64.wrap (-m) = -m := by rw [IntKind.wrap_i64]; omega
  by_cases h1 : -m ≤ n
  · have a1 : decide (-m ≤ n) = true := decide_eq_true h1
    obtain ⟨r, hr⟩ : ∃ r, decide (n ≤ m) = r := ⟨_, rfl⟩
    rw [show wth n (-m) m = r from by unfold wth; rw [a1, hr]; rfl]
    go_enter Tryz.func89, Tryz.ntmps89
    have OO := Lib.hid (Only.refl [] w)
    go_wp2
    go_ret
    exact ⟨rfl, OO.out⟩
  · have a1 : decide (-m ≤ n) = false := decide_eq_false h1
    rw [show wth n (-m) m = false from by unfold wth; rw [a1]; rfl]
    go_enter Tryz.func89, Tryz.ntmps89
    have OO := Lib.hid (Only.refl [] w)
    go_wp2
    go_ret
    exact ⟨rfl, OO.out⟩
set_option maxRecDepth 100000 in
set_option maxHeartbeats 1000000 in
theorem pCValid (raw time : Int) (w : World) :
    Calls Tryz.prog 133 #[.agg #[.int .i64 raw, .int .i64 time, .int .i64 0, .int .i64 0, .int .i64 0, .int .i64 0]] w fun e w' => e = .returned (.bool (isT raw && isT time)) ∧ Only [] w w' := by
  have H1 := Lib.hid (fun w' => pCWithin raw 4503599627370496 (by omega) (by omega) w')
  have H2 := Lib.hid (fun w' => pCWithin time 4503599627370496 (by omega) (by omega) w')
  have H3 := Lib.hid (fun w' => pCWithin 0 4503599627370496 (by omega) (by omega) w')
  have H4 := Lib.hid (fun w' => pCWithin 0 500000 (by omega) (by omega) w')
  rw [show wth 0 (-4503599627370496) 4503599627370496 = true from by rw [wth_iff]; omega] at H3
  rw [show wth 0 (-500000) 500000 = true from by rw [wth_iff]; omega] at H4
  unfold isT
  generalize wth raw (-4503599627370496) 4503599627370496 = x1 at H1 ⊢
  generalize wth time (-4503599627370496) 4503599627370496 = x2 at H2 ⊢
  cases x1
  · go_enter Tryz.func133, Tryz.ntmps133
    go_upto_region 1 with (fail)
    refine alloc_abs (G := fun w0 => Code.wp _ _ _ _ w0) ?_
    intro w1 hb1 ho1 hs1
    obtain ⟨b1, hbe1⟩ : ∃ b, w.heap.size = b := ⟨_, rfl⟩
    rw [hbe1] at hb1
    rw [hbe1]
    have HN : Hid (w.heap.size ≤ b1) := Lib.hid (by omega)
    have B1 := Lib.hid hb1; have OO := Lib.hid ho1
    clear hb1 hs1 hbe1
    clear ho1
    have k1 := c_6 B1.out
    go_wp2_with fail
    refine (H1.out _).mono ?_
    rintro e w2 ⟨rfl, ho⟩
    clear k1
    replace OO := Lib.hid (OO.out.nil_trans ho); replace B1 := Lib.hid (ho.got B1.out (by simp))
    clear ho
    have k1 := c_6 B1.out
    go_wp2
    go_ret
    exact ⟨rfl, OO.out⟩
  · cases x2
    · go_enter Tryz.func133, Tryz.ntmps133
      go_upto_region 1 with (fail)
      refine alloc_abs (G := fun w0 => Code.wp _ _ _ _ w0) ?_
      intro w1 hb1 ho1 hs1
      obtain ⟨b1, hbe1⟩ : ∃ b, w.heap.size = b := ⟨_, rfl⟩
      rw [hbe1] at hb1
      rw [hbe1]
      have HN : Hid (w.heap.size ≤ b1) := Lib.hid (by omega)
      have B1 := Lib.hid hb1; have OO := Lib.hid ho1
      clear hb1 hs1 hbe1
      clear ho1
      have k1 := c_6 B1.out
      go_wp2_with fail
      refine (H1.out _).mono ?_
      rintro e w2 ⟨rfl, ho⟩
      clear k1
      replace OO := Lib.hid (OO.out.nil_trans ho); replace B1 := Lib.hid (ho.got B1.out (by simp))
      clear ho
      have k1 := c_6 B1.out
      go_wp2_with fail
      refine (H2.out _).mono ?_
      rintro e w3 ⟨rfl, ho⟩
      clear k1
      replace OO := Lib.hid (OO.out.nil_trans ho); replace B1 := Lib.hid (ho.got B1.out (by simp))
      clear ho
      have k1 := c_6 B1.out
      go_wp2
      go_ret
      exact ⟨rfl, OO.out⟩
    · go_enter Tryz.func133, Tryz.ntmps133
      go_upto_region 1 with (fail)
      refine alloc_abs (G := fun w0 => Code.wp _ _ _ _ w0) ?_
      intro w1 hb1 ho1 hs1
      obtain ⟨b1, hbe1⟩ : ∃ b, w.heap.size = b := ⟨_, rfl⟩
      rw [hbe1] at hb1
      rw [hbe1]
      have HN : Hid (w.heap.size ≤ b1) := Lib.hid (by omega)
      have B1 := Lib.hid hb1; have OO := Lib.hid ho1
      clear hb1 hs1 hbe1
      clear ho1
      have k1 := c_6 B1.out
      go_wp2_with fail
      refine (H1.out _).mono ?_
      rintro e w2 ⟨rfl, ho⟩
      clear k1
      replace OO := Lib.hid (OO.out.nil_trans ho); replace B1 := Lib.hid (ho.got B1.out (by simp))
      clear ho
      have k1 := c_6 B1.out
      go_wp2_with fail
      refine (H2.out _).mono ?_
      rintro e w3 ⟨rfl, ho⟩
      clear k1
      replace OO := Lib.hid (OO.out.nil_trans ho); replace B1 := Lib.hid (ho.got B1.out (by simp))
      clear ho
      have k1 := c_6 B1.out
      go_wp2_with fail
      refine (H3.out _).mono ?_
      rintro e w4 ⟨rfl, ho⟩
      clear k1
      replace OO := Lib.hid (OO.out.nil_trans ho); replace B1 := Lib.hid (ho.got B1.out (by simp))
      clear ho
      have k1 := c_6 B1.out
      go_wp2_with fail
      refine (H4.out _).mono ?_
      rintro e w5 ⟨rfl, ho⟩
      clear k1
      replace OO := Lib.hid (OO.out.nil_trans ho); replace B1 := Lib.hid (ho.got B1.out (by simp))
      clear ho
      have k1 := c_6 B1.out
      go_wp2
      go_ret
      exact ⟨rfl, OO.out⟩
/-- a new clock, or none -/
def CNewR (w0 : World) (raw time : Int) (e : Ending) (w : World) : Prop :=
  ((isT raw && isT time) = false ∧ e = .returned (.pointer none)) ∨ ((isT raw && isT time) = true ∧ ∃ b, e = .returned (.pointer (some ⟨b, 0, none⟩)) ∧ w0.heap.size ≤ b ∧ CkAt w b ⟨raw, time, 0, 0⟩)
set_option maxRecDepth 100000 in
set_option maxHeartbeats 1000000 in
theorem pCOf (raw time : Int) (w : World) :
    Calls Tryz.prog 72 #[.agg #[.int .i64 raw, .int .i64 time, .int .i64 0, .int .i64 0, .int .i64 0, .int .i64 0]] w fun e w' => CNewR w raw time e w' ∧ Only [] w w' := by
  unfold CNewR
  have HV := Lib.hid (fun w' => pCValid raw time w')
  generalize (isT raw && isT time) = ok at HV ⊢
  cases ok
  · go_enter Tryz.func72, Tryz.ntmps72
    go_upto_region 1 with (fail)
    refine alloc_abs (G := fun w0 => Code.wp _ _ _ _ w0) ?_
    intro w1 hb1 ho1 hs1
    obtain ⟨b1, hbe1⟩ : ∃ b, w.heap.size = b := ⟨_, rfl⟩
    rw [hbe1] at hb1
    rw [hbe1]
    have HN : Hid (w.heap.size ≤ b1) := Lib.hid (by omega)
    have B1 := Lib.hid hb1; have OO := Lib.hid ho1
    clear hb1 hs1 hbe1
    clear ho1
    have k1 := c_6 B1.out
    go_wp2_with fail
    refine (HV.out _).mono ?_
    rintro e w2 ⟨rfl, ho⟩
    clear k1
    replace OO := Lib.hid (OO.out.nil_trans ho); replace B1 := Lib.hid (ho.got B1.out (by simp))
    clear ho
    have k1 := c_6 B1.out
    go_wp2
    go_ret
    exact ⟨.inl ⟨by first | rfl | trivial, rfl⟩, OO.out⟩
  · go_enter Tryz.func72, Tryz.ntmps72
    go_upto_region 1 with (fail)
    refine alloc_abs (G := fun w0 => Code.wp _ _ _ _ w0) ?_
    intro w1 hb1 ho1 hs1
    obtain ⟨b1, hbe1⟩ : ∃ b, w.heap.size = b := ⟨_, rfl⟩
    rw [hbe1] at hb1
    rw [hbe1]
    have HN : Hid (w.heap.size ≤ b1) := Lib.hid (by omega)
    have B1 := Lib.hid hb1; have OO := Lib.hid ho1
    clear hb1 hs1 hbe1
    clear ho1
    have k1 := c_6 B1.out
    go_wp2_with fail
    refine (HV.out _).mono ?_
    rintro e w2 ⟨rfl, ho⟩
    clear k1
    replace OO := Lib.hid (OO.out.nil_trans ho); replace B1 := Lib.hid (ho.got B1.out (by simp))
    clear ho
    have k1 := c_6 B1.out
    go_wp2
    refine alloc_abs (G := fun w0 => bodyPost _ _ _ _ _ w0) ?_
    intro w3 hb ho _
    go_ret
    exact ⟨.inr ⟨by first | rfl | trivial, _, rfl, OO.out.size, hb⟩, OO.out.nil_trans ho⟩
set_option maxRecDepth 100000 in
set_option maxHeartbeats 1000000 in
theorem pCNew (raw time : Int) (w : World) :
    Calls Tryz.prog 32 #[.int .i64 raw, .int .i64 time] w fun e w' => CNewR w raw time e w' ∧ Only [] w w' := by
  have HO := Lib.hid (pCOf raw time w)
  go_enter Tryz.func32, Tryz.ntmps32
  go_wp2_with fail
  refine HO.out.mono ?_
  rintro e w1 ⟨hr, ho⟩
  have HR := Lib.hid hr; have OO := Lib.hid ho
  clear hr ho HO
  rcases HR.out with ⟨h, rfl⟩ | ⟨h, b, rfl, hb, hc⟩
  · have HH := Lib.hid h
    clear h HR
    go_wp2
    go_ret
    exact ⟨.inl ⟨HH.out, rfl⟩, OO.out⟩
  · have HH := Lib.hid h; have HC := Lib.hid hc; have HB := Lib.hid hb
    clear h HR hb hc
    go_wp2
    go_ret
    exact ⟨.inr ⟨HH.out, b, rfl, HB.out, HC.out⟩, OO.out⟩
set_option maxRecDepth 100000 in
set_option maxHeartbeats 1000000 in
theorem pPart (d ppb : Int) (h0 : 0 ≤ d) (h1 : d ≤ 9007199254740992) (h2 : -500000 ≤ ppb) (h3 : ppb ≤ 500000) (w : World) :
    Calls Tryz.prog 153 #[.int .i64 d, .int .i64 ppb] w fun e w' => e = .returned (.int .i64 (d * ppb / 1000000000)) ∧ Only [] w w' := by
  have hb := part_bd h0 h1 h2 h3
  have HM := Lib.hid (fun w' => o_drew (fmuldiv d ppb 1000000000 w' (by omega) (by omega) (by omega) (by omega) (by omega) (by omega)))
  generalize d * ppb / 1000000000 = q at HM hb ⊢
  rw [orZ_yes (by omega) (by omega), inI_yes (by omega) (by omega)] at HM
  go_enter Tryz.func153, Tryz.ntmps153
  have OO := Lib.hid (Only.refl [] w)
  go_wp2_with fail
  refine (HM.out _).mono ?_
  rintro e w2 ⟨rfl, ho⟩
  replace OO := Lib.hid (OO.out.nil_trans ho)
  clear ho
  go_wp2
  go_ret
  exact ⟨rfl, OO.out⟩
set_option maxRecDepth 100000 in
set_option maxHeartbeats 1000000 in
theorem pShown (raw time ppb steps d : Int) (h0 : 0 ≤ d) (h1 : d ≤ 9007199254740992) (h2 : -500000 ≤ ppb) (h3 : ppb ≤ 500000) (h4 : -4503599627370496 ≤ time) (h5 : time ≤ 4503599627370496) (w : World) :
    Calls Tryz.prog 88 #[.agg #[.int .i64 raw, .int .i64 time, .int .i64 ppb, .int .i64 0, .int .i64 0, .int .i64 steps], .int .i64 d] w fun e w' => e = .returned (.int .i64 (time + d + d * ppb / 1000000000)) ∧ Only [] w w' := by
  have hb := part_bd h0 h1 h2 h3
  have HP := Lib.hid (fun w' => pPart d ppb h0 h1 h2 h3 w')
  generalize d * ppb / 1000000000 = q at HP hb ⊢
  have r1 : IntKind.i64.wrap (time + d) = time + d := by rw [IntKind.wrap_i64]; omega
  have r2 : IntKind.i64.wrap (time + d + q) = time + d + q := by rw [IntKind.wrap_i64]; omega
  go_enter Tryz.func88, Tryz.ntmps88
  go_upto_region 1 with (fail)
  refine alloc_abs (G := fun w0 => Code.wp _ _ _ _ w0) ?_
  intro w1 hb1 ho1 hs1
  obtain ⟨b1, hbe1⟩ : ∃ b, w.heap.size = b := ⟨_, rfl⟩
  rw [hbe1] at hb1
  rw [hbe1]
  have HN : Hid (w.heap.size ≤ b1) := Lib.hid (by omega)
  have B1 := Lib.hid hb1; have OO := Lib.hid ho1
  clear hb1 hs1 hbe1
  clear ho1
  have k1 := c_6 B1.out
  go_wp2_with fail
  refine wp_region_grown [0, 1, 2, 3, 4, 5] [] (by kernel_rfl) (by kernel_rfl) ?_
  simp only [pick, List.map_cons, List.map_nil, List.getD_cons_succ, List.getD_cons_zero]
  iterate 6 (refine wpQuiet_step (fun K hK => ?_); go_simp; refine hK _ ?_; clear hK K)
  refine wpQuiet_nil ?_
  intro w2 hw
  have ho := only_of_plus hw
  clear hw
  clear k1
  replace OO := Lib.hid (OO.out.nil_trans ho); replace B1 := Lib.hid (ho.got B1.out (by simp))
  have k1 := c_6 B1.out
  clear ho
  go_wp2_with fail
  refine (HP.out _).mono ?_
  rintro e w3 ⟨rfl, ho⟩
  clear k1
  replace OO := Lib.hid (OO.out.nil_trans ho); replace B1 := Lib.hid (ho.got B1.out (by simp))
  clear ho
  have k1 := c_6 B1.out
  go_wp2
  go_ret
  exact ⟨rfl, OO.out⟩
set_option maxRecDepth 100000 in
set_option maxHeartbeats 1000000 in
theorem pCNow {w : World} {b : Nat} {c : Ck} (hc : CkAt w b c) (hok : CkOk c) (r : Int) (hr0 : -9223372036854775808 ≤ r) (hr1 : r ≤ 9223372036854775807) :
    Calls Tryz.prog 49 #[.pointer (some ⟨b, 0, none⟩), .int .i64 r] w fun e w' => e = .returned (.tuple #[.int .i64 (cNow c r).1, .int .i64 (cNow c r).2]) ∧ Only [] w w' := by
  obtain ⟨raw, time, ppb, steps⟩ := c
  obtain ⟨g0, g1, g2, g3, g4, g5, _, _⟩ := hok
  unfold CkAt at hc
  dsimp only at hc g0 g1 g2 g3 g4 g5
  have HE : Hid (cNow ⟨raw, time, ppb, steps⟩ r = if r < raw then (0, 12) else if 4503599627370496 < r then (0, 3) else if isT (time + (r - raw) + (r - raw) * ppb / 1000000000) = true then (time + (r - raw) + (r - raw) * ppb / 1000000000, 0) else (0, 3)) := Lib.hid rfl
  generalize cNow ⟨raw, time, ppb, steps⟩ r = res at HE ⊢
  by_cases h1 : r < raw
  · have d1 : decide (r < raw) = true := decide_eq_true h1
    obtain rfl : res = (0, 12) := by rw [HE.out, if_pos h1]
    clear HE
    go_enter Tryz.func49, Tryz.ntmps49
    have OO := Lib.hid (Only.refl [] w)
    have B1 := Lib.hid hc
    have k1 := c_6 B1.out
    go_wp2
    go_ret2
    exact ⟨rfl, OO.out⟩
  · have d1 : decide (r < raw) = false := decide_eq_false h1
    by_cases h2 : 4503599627370496 < r
    · have d2 : decide (4503599627370496 < r) = true := decide_eq_true h2
      obtain rfl : res = (0, 3) := by rw [HE.out, if_neg h1, if_pos h2]
      clear HE
      go_enter Tryz.func49, Tryz.ntmps49
      have OO := Lib.hid (Only.refl [] w)
      have B1 := Lib.hid hc
      have k1 := c_6 B1.out
      go_wp2
      go_ret2
      exact ⟨rfl, OO.out⟩
    · have d2 : decide (4503599627370496 < r) = false := decide_eq_false h2
      obtain ⟨e, he⟩ : ∃ e, r - raw = e := ⟨_, rfl⟩
      have heb : 0 ≤ e ∧ e ≤ 9007199254740992 := by omega
      rw [if_neg h1, if_neg h2, he] at HE
      have r1 : IntKind.i64.wrap (r - raw) = e := by rw [IntKind.wrap_i64]; omega
      have HS := Lib.hid (fun w' => pShown raw time ppb steps e heb.1 heb.2 g4 g5 g2 g3 w')
      obtain ⟨v, hv⟩ : ∃ v, time + e + e * ppb / 1000000000 = v := ⟨_, rfl⟩
      rw [hv] at HE HS
      have HW := Lib.hid (fun w' => pCWithin v 4503599627370496 (by omega) (by omega) w')
      have HV : Hid (isT v = wth v (-4503599627370496) 4503599627370496) := Lib.hid rfl
      rw [HV.out] at HE
      generalize wth v (-4503599627370496) 4503599627370496 = ok at HE HW
      clear he hv HV
      cases ok
      · obtain rfl : res = (0, 3) := by have := HE.out; simpa using this
        clear HE
        go_enter Tryz.func49, Tryz.ntmps49
        have OO := Lib.hid (Only.refl [] w)
        have B1 := Lib.hid hc
        have k1 := c_6 B1.out
        go_wp2_with fail
        refine wp_region_grown [0, 1, 2, 3, 4, 5, 6, 7, 8, 9, 10, 11, 12] [] (by kernel_rfl) (by kernel_rfl) ?_
        simp only [pick, List.map_cons, List.map_nil, List.getD_cons_succ, List.getD_cons_zero]
        iterate 11 (refine wpQuiet_step (fun K hK => ?_); go_simp; refine hK _ ?_; clear hK K)
        refine wpQuiet_enter_w (by kernel_rfl) 88 #[.agg #[.int .i64 raw, .int .i64 time, .int .i64 ppb, .int .i64 0, .int .i64 0, .int .i64 steps], .int .i64 e] (fun _ => by kernel_rfl) (.int .i64 v) (grown_only2 (fun w' hw' => HS.out w')) ?_
        iterate 1 (refine wpQuiet_step (fun K hK => ?_); go_simp; refine hK _ ?_; clear hK K)
        refine wpQuiet_nil ?_
        intro w2 hw
        have ho := only_of_plus hw
        clear hw
        clear k1
        replace OO := Lib.hid (OO.out.nil_trans ho); replace B1 := Lib.hid (ho.got B1.out (by simp))
        have k1 := c_6 B1.out
        clear ho
        go_wp2_with fail
        refine (HW.out _).mono ?_
        rintro e w3 ⟨rfl, ho⟩
        clear k1
        replace OO := Lib.hid (OO.out.nil_trans ho); replace B1 := Lib.hid (ho.got B1.out (by simp))
        clear ho
        have k1 := c_6 B1.out
        go_wp2
        go_ret2
        exact ⟨rfl, OO.out⟩
      · obtain rfl : res = (v, 0) := by have := HE.out; simpa using this
        clear HE
        go_enter Tryz.func49, Tryz.ntmps49
        have OO := Lib.hid (Only.refl [] w)
        have B1 := Lib.hid hc
        have k1 := c_6 B1.out
        go_wp2_with fail
        refine wp_region_grown [0, 1, 2, 3, 4, 5, 6, 7, 8, 9, 10, 11, 12] [] (by kernel_rfl) (by kernel_rfl) ?_
        simp only [pick, List.map_cons, List.map_nil, List.getD_cons_succ, List.getD_cons_zero]
        iterate 11 (refine wpQuiet_step (fun K hK => ?_); go_simp; refine hK _ ?_; clear hK K)
        refine wpQuiet_enter_w (by kernel_rfl) 88 #[.agg #[.int .i64 raw, .int .i64 time, .int .i64 ppb, .int .i64 0, .int .i64 0, .int .i64 steps], .int .i64 e] (fun _ => by kernel_rfl) (.int .i64 v) (grown_only2 (fun w' hw' => HS.out w')) ?_
        iterate 1 (refine wpQuiet_step (fun K hK => ?_); go_simp; refine hK _ ?_; clear hK K)
        refine wpQuiet_nil ?_
        intro w2 hw
        have ho := only_of_plus hw
        clear hw
        clear k1
        replace OO := Lib.hid (OO.out.nil_trans ho); replace B1 := Lib.hid (ho.got B1.out (by simp))
        have k1 := c_6 B1.out
        clear ho
        go_wp2_with fail
        refine (HW.out _).mono ?_
        rintro e w3 ⟨rfl, ho⟩
        clear k1
        replace OO := Lib.hid (OO.out.nil_trans ho); replace B1 := Lib.hid (ho.got B1.out (by simp))
        clear ho
        have k1 := c_6 B1.out
        go_wp2
        go_ret2
        exact ⟨rfl, OO.out⟩
end Go.Proofs.YtikjdmbfjkbndaaGreat
