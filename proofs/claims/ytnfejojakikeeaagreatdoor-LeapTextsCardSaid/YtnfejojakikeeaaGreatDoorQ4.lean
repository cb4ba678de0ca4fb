/- The reference's Of. No condition. -/
import Derived.Test.YtnfejojakikeeaaGreatDoorQ3
import Derived.Deep.Cut
namespace Go.Proofs.YtnfejojakikeeaaGreatDoor
open Go.RowKit

def zC : Array Value := #[.int .i64 0, .int .i64 0, .int .i64 0, .int .i64 0, .int .i64 0, .int .i64 0, .int .i64 0]
/-- the result's block and the one of the date that is counted -/
def CvB (w0 w : World) (cb : Nat) (y m h mi s : Int) : Prop :=
  w.heap[w0.heap.size]? = some (.cells zC 69 (0, 0)) ∧ w.heap[cb]? = some (.cells #[.int .i64 y, .int .i64 m, .int .i64 0, .int .i64 h, .int .i64 mi, .int .i64 s, .int .i64 0] 69 (0, 0)) ∧ w0.heap.size < cb ∧ Only [] w0 w
theorem CvB.setY {w0 w : World} {cb : Nat} {y m h mi s : Int} (q : CvB w0 w cb y m h mi s) (y' : Int) : CvB w0 (w.setCell ⟨cb, 0, none⟩ (.int .i64 y')) cb y' m h mi s := by
  obtain ⟨q1, q2, q3, q4⟩ := q
  exact ⟨((Only.refl [cb] w).setCell (.inl (by simp)) _).got q1 (by simp; omega), setCell_got _ q2, q3, q4.setCell (.inr (by simp; omega)) _⟩
theorem CvB.setM {w0 w : World} {cb : Nat} {y m h mi s : Int} (q : CvB w0 w cb y m h mi s) (m' : Int) : CvB w0 (w.setCell ⟨cb, 1, none⟩ (.int .i64 m')) cb y m' h mi s := by
  obtain ⟨q1, q2, q3, q4⟩ := q
  exact ⟨((Only.refl [cb] w).setCell (.inl (by simp)) _).got q1 (by simp; omega), setCell_got _ q2, q3, q4.setCell (.inr (by simp; omega)) _⟩
def RI1 (w0 : World) (cb : Nat) (n h mi s : Int) (v : Value) (w : World) : Prop := ∃ y d : Int, 1600 ≤ y ∧ y ≤ 1900 ∧ d + ys y = n ∧ v = .int .i64 d ∧ CvB w0 w cb y 1 h mi s
def RI2 (w0 : World) (cb : Nat) (n h mi s : Int) (v : Value) (w : World) : Prop := ∃ y d : Int, 1600 ≤ y ∧ y ≤ 2199 ∧ 0 ≤ d ∧ d + ys y = n ∧ v = .int .i64 d ∧ CvB w0 w cb y 1 h mi s
def RI3 (w0 : World) (cb : Nat) (n y h mi s : Int) (v : Value) (w : World) : Prop := ∃ m d : Int, 1 ≤ m ∧ m ≤ 12 ∧ 0 ≤ d ∧ d + ys y + cum y m = n ∧ v = .int .i64 d ∧ CvB w0 w cb y m h mi s
set_option maxRecDepth 100000 in
set_option maxHeartbeats 2000000 in
theorem rof_yes (sec : Int) (w : World) (h0 : -8000000000 ≤ sec) (h1 : sec ≤ 8000000000) :
    Calls Tryz.prog 42 #[.int .i64 sec] w fun e w' => OfR sec e ∧ Only [] w w' := by
  have hday := fun w' => rdayof sec w' (by omega) (by omega)
  obtain ⟨n, hn⟩ : ∃ n, n = sec / 86400 := ⟨_, rfl⟩
  have hn0 : -92593 ≤ n := by omega
  have hn1 : n ≤ 92592 := by omega
  have hrest : sec - n * 86400 = sec % 86400 := by omega
  have hr0 : 0 ≤ sec % 86400 := by omega
  have hr1 : sec % 86400 ≤ 86399 := by omega
  have hres : ∀ y m d, IsCv n y m d → OfR sec (.returned (.tuple #[civV y m d (sec % 86400 / 3600) (sec % 86400 / 60 % 60) (sec % 86400 % 60), .int .i64 0])) := fun y m d h => ⟨y, m, d, hn ▸ h, rfl⟩
  rw [← hn] at hday
  have d1 : decide (sec < -8000000000) = false := by simp; omega
  have d2 : decide (sec > 8000000000) = false := by simp; omega
  have d3 : decide (8000000000 < sec) = false := by simp; omega
  generalize sec % 86400 = r at hrest hr0 hr1 hres
  have HDY := Lib.hid hday; have HRS := Lib.hid hres; have HRE := Lib.hid hrest
  clear hday hres hn hrest h0 h1
  go_enter Tryz.func42, Tryz.ntmps42
  go_wp2_with fail
  refine alloc_abs (G := fun w0 => Calls _ _ _ w0 _) ?_
  intro w1 hb1 ho1 hs1
  have B1 := Lib.hid hb1; have O1 := Lib.hid ho1
  clear hb1 ho1 hs1
  refine (HDY.out w1).mono ?_
  rintro e w' ⟨rfl, rfl⟩
  have hrest := HRE.out
  go_upto_region 6 with (fail)
  clear hrest
  refine alloc_abs (G := fun w0 => Code.wp _ _ _ _ w0) ?_
  intro w2 hb2 ho2 hs2
  have hlt := got_lt B1.out
  have CV : Hid (CvB w w2 w1.heap.size 1900 1 (r / 3600) (r / 60 % 60) (r % 60)) := Lib.hid ⟨ho2.got B1.out (by simp), hb2, hlt, O1.out.nil_trans ho2⟩
  clear hb2 ho2 hs2 B1 O1 hlt
  generalize r / 3600 = rh at CV HRS ⊢
  generalize r / 60 % 60 = rm at CV HRS ⊢
  generalize r % 60 = rs at CV HRS ⊢
  go_wp2
  go_loopw [4] (fun v wr => RI1 w w1.heap.size n rh rm rs v wr) (fun v _ => (- intOf v).toNat)
  case atStart => exact ⟨1900, n, by omega, by omega, by rw [ys_1900]; omega, rfl, CV.out⟩
  case round =>
    clear CV
    obtain ⟨y, d, hy0, hy1, hdn, rfl, hcv⟩ := hrel
    have CW := Lib.hid hcv
    clear hcv
    have m1 := ys_mono (a := 1600) (b := y) (by omega); have m2 := ys_mono (a := y) (b := 1900) (by omega)
    rw [ys_1600] at m1
    rw [ys_1900] at m2
    have g0 := cell_got CW.out.2.1 0; have g1 := cell_got CW.out.2.1 1; have lg := got_lt CW.out.2.1; have f0 := frozen_got CW.out.2.1 0; have f1 := frozen_got CW.out.2.1 1
    by_cases hneg : d < 0
    · have hy2 : 1601 ≤ y := by
        rcases Int.lt_or_le 1600 y with h | h
        · omega
        · obtain rfl : y = 1600 := by omega
          rw [ys_1600] at hdn; omega
      have hsu := ys_succ (y - 1)
      rw [show y - 1 + 1 = y by omega] at hsu
      have hlp := lp1_01 (y - 1)
      have HYD := Lib.hid (fun w' => ryeardays (y - 1) w' (by omega) (by omega))
      have HSU := Lib.hid hsu; have HDN := Lib.hid hdn
      have bd : -100000 ≤ d := by omega
      clear hsu hdn m1 m2
      go_wp2_with fail
      refine (HYD.out _).mono ?_
      rintro e w' ⟨rfl, rfl⟩
      have CX := Lib.hid (CW.out.setY (y - 1))
      go_wp2
      go_roundw
      case rel => exact ⟨y - 1, d + (365 + lp1 (y - 1)), by omega, by omega, by have := HSU.out; have := HDN.out; omega, rfl, CX.out⟩
      case measure => simp [intOf]; omega
    · have bd : d ≤ 300000 := by omega
      have HDN := Lib.hid hdn
      clear m1 m2 hdn
      go_wp2
      go_loopw [4] (fun v wr => RI2 w w1.heap.size n rh rm rs v wr) (fun v _ => (intOf v).toNat)
      case atStart => exact ⟨y, d, hy0, by omega, by omega, HDN.out, rfl, CW.out⟩
      case round =>
        clear CW g0 g1 lg f0 f1 hneg HDN bd hy0 hy1
        obtain ⟨y, d, hy0, hy1, hd0, hdn, rfl, hcv⟩ := hrel
        have CW := Lib.hid hcv
        clear hcv
        have m1 := ys_mono (a := 1600) (b := y) (by omega)
        rw [ys_1600] at m1
        have bd : d ≤ 300000 := by omega
        have hsu := ys_succ y
        have hlp := lp1_01 y
        have HYD := Lib.hid (fun w' => ryeardays y w' (by omega) (by omega))
        have HSU := Lib.hid hsu; have HDN := Lib.hid hdn
        have g0 := cell_got CW.out.2.1 0; have g1 := cell_got CW.out.2.1 1; have lg := got_lt CW.out.2.1; have f0 := frozen_got CW.out.2.1 0; have f1 := frozen_got CW.out.2.1 1
        by_cases hge : 365 + lp1 y ≤ d
        · have hy2 : y + 1 ≤ 2199 := by
            rcases Int.lt_or_le y 2199 with h | h
            · omega
            · obtain rfl : y = 2199 := by omega
              rw [show (2199 : Int) + 1 = 2200 by omega, ys_2200] at hsu; omega
          have q1 : decide (d ≥ 365 + lp1 y) = true := by simpa using hge
          have q2 : decide (365 + lp1 y ≤ d) = true := by simpa using hge
          clear hsu hdn m1
          go_wp2_with fail
          refine (HYD.out _).mono ?_
          rintro e w' ⟨rfl, rfl⟩
          go_wp2_with fail
          refine (HYD.out _).mono ?_
          rintro e w' ⟨rfl, rfl⟩
          have CX := Lib.hid (CW.out.setY (y + 1))
          go_wp2
          go_roundw
          case rel => exact ⟨y + 1, d - (365 + lp1 y), by omega, by omega, by omega, by have := HSU.out; have := HDN.out; omega, rfl, CX.out⟩
          case measure => simp [intOf]; omega
        · have q1 : decide (d ≥ 365 + lp1 y) = false := by simp; omega
          have q2 : decide (365 + lp1 y ≤ d) = false := by simp; omega
          have hdl : d < 365 + lp1 y := by omega
          have HDL := Lib.hid hdl
          clear hsu hdn m1 hge hdl
          go_wp2_with fail
          refine (HYD.out _).mono ?_
          rintro e w' ⟨rfl, rfl⟩
          go_wp2
          go_loopw [4] (fun v wr => RI3 w w1.heap.size n y rh rm rs v wr) (fun v _ => (intOf v).toNat)
          case atStart => exact ⟨1, d, by omega, by omega, hd0, by rw [cum_1]; have := HDN.out; omega, rfl, CW.out⟩
          case round =>
            clear CW g0 g1 lg f0 f1 q1 q2
            have hdn0 := HDN.out; have hdl0 := HDL.out
            obtain ⟨m, x, hm0, hm1, hx0, hxn, rfl, hcv⟩ := hrel
            have CW := Lib.hid hcv
            clear hcv
            have hcs := cum_succ y hm0 hm1
            have hdb := dim_bd y hm0 hm1
            have hcm := cum_mono y (a := 1) (b := m) (by omega) hm0 (by omega)
            rw [cum_1] at hcm
            have hxb : x ≤ 400 := by omega
            have HMD := Lib.hid (fun w' => rmonthdays y m w' (by omega) (by omega) hm0 hm1)
            have g0 := cell_got CW.out.2.1 0; have g1 := cell_got CW.out.2.1 1; have lg := got_lt CW.out.2.1; have f0 := frozen_got CW.out.2.1 0; have f1 := frozen_got CW.out.2.1 1
            by_cases hge : dim y m ≤ x
            · have hm2 : m ≤ 11 := by
                rcases Int.lt_or_le m 12 with h | h
                · omega
                · obtain rfl : m = 12 := by omega
                  have h13 := cum_13 y
                  rw [show (12 : Int) + 1 = 13 by omega] at hcs
                  omega
              have q1 : decide (x ≥ dim y m) = true := by simpa using hge
              have q2 : decide (dim y m ≤ x) = true := by simpa using hge
              have HCS := Lib.hid hcs; have HXN := Lib.hid hxn
              clear hcs hxn hcm hdn0 hdl0
              go_wp2_with fail
              refine (HMD.out _).mono ?_
              rintro e w' ⟨rfl, rfl⟩
              go_wp2_with fail
              refine (HMD.out _).mono ?_
              rintro e w' ⟨rfl, rfl⟩
              have CX := Lib.hid (CW.out.setM (m + 1))
              go_wp2
              go_roundw
              case rel => exact ⟨m + 1, x - dim y m, by omega, by omega, by omega, by rw [HCS.out]; have := HXN.out; omega, rfl, CX.out⟩
              case measure => simp [intOf]; omega
            · have q1 : decide (x ≥ dim y m) = false := by simp; omega
              have q2 : decide (dim y m ≤ x) = false := by simp; omega
              have hcv : IsCv n y m (x + 1) := ⟨hy0, hy1, hm0, hm1, by omega, by omega, by unfold dno; omega⟩
              have HCV := Lib.hid hcv
              clear hcv hcs hxn hcm hdn0 hdl0 hge
              have f2 := frozen_got CW.out.2.1 2
              have g2 := cell_got CW.out.2.1 2; have g3 := cell_got CW.out.2.1 3; have g4 := cell_got CW.out.2.1 4; have g5 := cell_got CW.out.2.1 5; have g6 := cell_got CW.out.2.1 6
              have z0 := cell_got CW.out.1 0; have z1 := cell_got CW.out.1 1; have z2 := cell_got CW.out.1 2; have z3 := cell_got CW.out.1 3; have z4 := cell_got CW.out.1 4; have z5 := cell_got CW.out.1 5; have z6 := cell_got CW.out.1 6
              have y0 := frozen_got CW.out.1 0; have y1 := frozen_got CW.out.1 1; have y2 := frozen_got CW.out.1 2; have y3 := frozen_got CW.out.1 3; have y4 := frozen_got CW.out.1 4; have y5 := frozen_got CW.out.1 5; have y6 := frozen_got CW.out.1 6
              have lz := got_lt CW.out.1
              unfold zC at z0 z1 z2 z3 z4 z5 z6
              have nc : w1.heap.size ≠ w.heap.size := by have := CW.out.2.2.1; omega
              have cn : w.heap.size ≠ w1.heap.size := by have := CW.out.2.2.1; omega
              go_wp2_with fail
              refine (HMD.out _).mono ?_
              rintro e w' ⟨rfl, rfl⟩
              go_wp2
              refine bodyPost_ret (v := .tuple #[civV y m (x + 1) rh rm rs, .int .i64 0]) (by simp [results, Tryz.results42, go_sem, civV, z0, z1, z2, z3, z4, z5, z6]) rfl ⟨HRS.out _ _ _ HCV.out, ?_⟩
              have hq := CW.out.2.2.2; have hq2 := CW.out.2.2.1
              with_reducible repeat (first | exact hq | refine Only.setCell ?_ (.inr (Nat.le_refl _)) _ | refine Only.setCell ?_ (.inr (Nat.le_of_lt hq2)) _)
theorem rof_no (sec : Int) (w : World) (h : sec < -8000000000 ∨ 8000000000 < sec) :
    Calls Tryz.prog 42 #[.int .i64 sec] w fun e w' => e = .returned (.tuple #[civV 0 0 0 0 0 0, .int .i64 3]) ∧ Only [] w w' := by
  by_cases h1 : sec < -8000000000
  · have d1 : decide (sec < -8000000000) = true := by simpa using h1
    clear h h1
    go_enter Tryz.func42, Tryz.ntmps42
    go_upto_region 1 with (fail)
    refine alloc_abs (G := fun w0 => Code.wp _ _ _ _ w0) ?_
    intro w1 hb1 ho1 hs1
    have B2 := Lib.hid hb1; have O2 := Lib.hid ho1
    clear hb1 ho1 hs1
    have g0 := cell_got B2.out 0; have g1 := cell_got B2.out 1; have g2 := cell_got B2.out 2; have g3 := cell_got B2.out 3; have g4 := cell_got B2.out 4; have g5 := cell_got B2.out 5; have g6 := cell_got B2.out 6
    have f0 := frozen_got B2.out 0; have f1 := frozen_got B2.out 1; have f2 := frozen_got B2.out 2; have f3 := frozen_got B2.out 3; have f4 := frozen_got B2.out 4; have f5 := frozen_got B2.out 5; have f6 := frozen_got B2.out 6
    have l0 := got_lt B2.out
    go_wp2
    refine bodyPost_ret (v := .tuple #[civV 0 0 0 0 0 0, .int .i64 3]) (by simp [results, Tryz.results42, go_sem, civV, g0, g1, g2, g3, g4, g5, g6]) rfl ⟨rfl, ?_⟩
    with_reducible repeat (first | exact O2.out | refine Only.setCell ?_ (.inr (Nat.le_refl _)) _)
  · have d1 : decide (sec < -8000000000) = false := by simpa using h1
    have d2 : decide (sec > 8000000000) = true := by simp; omega
    have d3 : decide (8000000000 < sec) = true := by simp; omega
    clear h h1
    go_enter Tryz.func42, Tryz.ntmps42
    go_upto_region 1 with (fail)
    refine alloc_abs (G := fun w0 => Code.wp _ _ _ _ w0) ?_
    intro w1 hb1 ho1 hs1
    have B2 := Lib.hid hb1; have O2 := Lib.hid ho1
    clear hb1 ho1 hs1
    have g0 := cell_got B2.out 0; have g1 := cell_got B2.out 1; have g2 := cell_got B2.out 2; have g3 := cell_got B2.out 3; have g4 := cell_got B2.out 4; have g5 := cell_got B2.out 5; have g6 := cell_got B2.out 6
    have f0 := frozen_got B2.out 0; have f1 := frozen_got B2.out 1; have f2 := frozen_got B2.out 2; have f3 := frozen_got B2.out 3; have f4 := frozen_got B2.out 4; have f5 := frozen_got B2.out 5; have f6 := frozen_got B2.out 6
    have l0 := got_lt B2.out
    go_wp2
    refine bodyPost_ret (v := .tuple #[civV 0 0 0 0 0 0, .int .i64 3]) (by simp [results, Tryz.results42, go_sem, civV, g0, g1, g2, g3, g4, g5, g6]) rfl ⟨rfl, ?_⟩
    with_reducible repeat (first | exact O2.out | refine Only.setCell ?_ (.inr (Nat.le_refl _)) _)
end Go.Proofs.YtnfejojakikeeaaGreatDoor
