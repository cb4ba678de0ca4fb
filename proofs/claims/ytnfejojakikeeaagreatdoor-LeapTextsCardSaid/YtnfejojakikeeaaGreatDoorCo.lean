/- Package civil: what Of computes. Condition: the table of the months is laid. -/
import Derived.Test.YtnfejojakikeeaaGreatDoorCw
namespace Go.Proofs.YtnfejojakikeeaaGreatDoor
open Go.RowKit

def civV (y m d h mi s : Int) : Value := .agg #[.int .i64 y, .int .i64 m, .int .i64 d, .int .i64 h, .int .i64 mi, .int .i64 s, .int .i64 0]
/-- what Of returns of a second that is in range -/
def OfR (sec : Int) (e : Ending) : Prop := ∃ y m d, IsCv (sec / 86400) y m d ∧ e = .returned (.tuple #[civV y m d (sec % 86400 / 3600) (sec % 86400 / 60 % 60) (sec % 86400 % 60), .int .i64 0])
def Y1 (v : Value) : Prop := ∃ y : Int, 1600 ≤ y ∧ y ≤ 2200 ∧ v = .int .i64 y
def Y2 (n : Int) (v : Value) : Prop := ∃ y : Int, 1600 ≤ y ∧ y ≤ 2199 ∧ ys y ≤ n ∧ v = .int .i64 y
def M1 (n y : Int) (v4 v7 : Value) : Prop := ∃ m : Int, 1 ≤ m ∧ m ≤ 12 ∧ 0 ≤ n - ys y - cum y m ∧ v4 = .int .i64 (n - ys y - cum y m) ∧ v7 = .int .i64 m
theorem tdiv_bd (n : Int) (h0 : -92593 ≤ n) (h1 : n ≤ 92592) : -253 ≤ n.tdiv 366 ∧ n.tdiv 366 ≤ 252 := by
  rcases Int.lt_or_le n 0 with h | h
  · rw [show n = -(-n) by omega, Int.neg_tdiv, Int.tdiv_eq_ediv_of_nonneg (by omega)]; omega
  · rw [Int.tdiv_eq_ediv_of_nonneg h]; omega

set_option maxRecDepth 100000 in
set_option maxHeartbeats 2000000 in
theorem cof_yes (sec : Int) (w : World) (h0 : -8000000000 ≤ sec) (h1 : sec ≤ 8000000000) (hd : Mdy w) :
    Calls Tryz.prog 40 #[.int .i64 sec] w fun e w' => OfR sec e ∧ Only [] w w' := by
  have hw := cwithin sec (-8000000000) 8000000000
  rw [inB_t.2 ⟨h0, h1⟩] at hw
  have hday := fun w' => cday sec w' (by omega) (by omega)
  obtain ⟨n, hn⟩ : ∃ n, n = sec / 86400 := ⟨_, rfl⟩
  have hn0 : -92593 ≤ n := by omega
  have hn1 : n ≤ 92592 := by omega
  obtain ⟨t0, t1⟩ := tdiv_bd n hn0 hn1
  have hrest : sec - n * 86400 = sec % 86400 := by omega
  have hr0 : 0 ≤ sec % 86400 := by omega
  have hr1 : sec % 86400 ≤ 86399 := by omega
  have hres : ∀ y m d, IsCv n y m d → OfR sec (.returned (.tuple #[civV y m d (sec % 86400 / 3600) (sec % 86400 / 60 % 60) (sec % 86400 % 60), .int .i64 0])) := fun y m d h => ⟨y, m, d, hn ▸ h, rfl⟩
  rw [← hn] at hday
  generalize sec % 86400 = r at hrest hr0 hr1 hres
  have HW := Lib.hid hw; have HDY := Lib.hid hday; have HRS := Lib.hid hres; have HRE := Lib.hid hrest; have HD := Lib.hid hd
  clear hw hday hres hn hd hrest h0 h1
  go_enter Tryz.func40, Tryz.ntmps40
  go_wp2_with fail
  refine alloc_abs (G := fun w0 => Calls _ _ _ w0 _) ?_
  intro w1 hb1 ho1 hs1
  have B1 := Lib.hid hb1; have O1 := Lib.hid ho1
  clear hb1 ho1 hs1
  refine (HW.out w1).mono ?_
  rintro e w' ⟨rfl, rfl⟩
  go_wp2_with fail
  refine (HDY.out w1).mono ?_
  rintro e w2 ⟨rfl, ho2⟩
  have B2 := Lib.hid (ho2.got B1.out (by simp)); have O2 := Lib.hid (O1.out.nil_trans ho2)
  have D2 := Lib.hid (HD.out.kept O2.out)
  clear ho2 B1 O1 HW HDY HD
  have hrest := HRE.out
  go_wp2
  clear hrest
  go_loop [6] (fun v => Y1 v) (fun v => (intOf v - 1600).toNat)
  case atStart => exact ⟨_, by omega, by omega, rfl⟩
  case round =>
    obtain ⟨y, hy0, hy1, rfl⟩ := hrel
    by_cases hgt : n < ys y
    · have hy2 : 1601 ≤ y := by
        rcases Int.lt_or_le 1600 y with h | h
        · omega
        · obtain rfl : y = 1600 := by omega
          rw [ys_1600] at hgt; omega
      go_wp2_with fail
      refine (cyear y w2 (by omega) (by omega)).mono ?_
      rintro e w' ⟨rfl, rfl⟩
      go_wp2
      go_round
      case rel => exact ⟨y - 1, by omega, by omega, rfl⟩
      case measure => simp [intOf]; omega
    · have hy2 : y ≤ 2199 := by
        rcases Int.lt_or_le y 2200 with h | h
        · omega
        · obtain rfl : y = 2200 := by omega
          rw [ys_2200] at hgt; omega
      go_wp2_with fail
      refine (cyear y w2 (by omega) (by omega)).mono ?_
      rintro e w' ⟨rfl, rfl⟩
      go_wp2
      go_loop [6] (fun v => Y2 n v) (fun v => (2200 - intOf v).toNat)
      case atStart => exact ⟨y, hy0, hy2, by omega, rfl⟩
      case round =>
        clear hgt hy2
        obtain ⟨y, hy0, hy1, hyn, rfl⟩ := hrel
        by_cases hle : ys (y + 1) ≤ n
        · have hy2 : y + 1 ≤ 2199 := by
            rcases Int.lt_or_le y 2199 with h | h
            · omega
            · obtain rfl : y = 2199 := by omega
              rw [show (2199 : Int) + 1 = 2200 by omega, ys_2200] at hle; omega
          go_wp2_with fail
          refine (cyear (y + 1) w2 (by omega) (by omega)).mono ?_
          rintro e w' ⟨rfl, rfl⟩
          go_wp2
          go_round
          case rel => exact ⟨y + 1, by omega, by omega, hle, rfl⟩
          case measure => simp [intOf]; omega
        · have hlt : n < ys (y + 1) := by omega
          have hsu := ys_succ y
          have hlp := lp1_01 y
          go_wp2_with fail
          refine (cyear (y + 1) w2 (by omega) (by omega)).mono ?_
          rintro e w' ⟨rfl, rfl⟩
          go_wp2_with fail
          refine (cyear y w2 (by omega) (by omega)).mono ?_
          rintro e w' ⟨rfl, rfl⟩
          clear hsu
          go_wp2
          go_loop [4, 7] (fun v4 v7 => M1 n y v4 v7) (fun _ v7 => (13 - intOf v7).toNat)
          case atStart => exact ⟨1, by omega, by omega, by rw [cum_1]; omega, by rw [cum_1]; go_num, rfl⟩
          case round =>
            obtain ⟨m, hm0, hm1, hmn, rfl, rfl⟩ := hrel
            have hcs := cum_succ y hm0 hm1
            have hdb := dim_bd y hm0 hm1
            have HCS := Lib.hid hcs
            clear hcs
            have hxb : n - ys y - cum y m ≤ 400 := by
              have a := cum_mono y (a := 1) (b := m) (by omega) hm0 (by omega)
              rw [cum_1] at a
              have := ys_succ y
              omega
            obtain ⟨x, hx⟩ : ∃ x, x = n - ys y - cum y m := ⟨_, rfl⟩
            rw [← hx] at hmn hxb ⊢
            have HX := Lib.hid hx
            clear hx
            by_cases hge : dim y m ≤ x
            · have hm2 : m ≤ 11 := by
                rcases Int.lt_or_le m 12 with h | h
                · omega
                · obtain rfl : m = 12 := by omega
                  have h13 := cum_13 y
                  have h12 := HCS.out
                  rw [show (12 : Int) + 1 = 13 by omega] at h12
                  have hsu := ys_succ y
                  have := HX.out
                  omega
              go_wp2_with fail
              refine (cmonth y m w2 (by omega) (by omega) hm0 hm1 D2.out).mono ?_
              rintro e w' ⟨rfl, rfl⟩
              go_wp2_with fail
              refine (cmonth y m w2 (by omega) (by omega) hm0 hm1 D2.out).mono ?_
              rintro e w' ⟨rfl, rfl⟩
              go_wp2
              go_round
              case rel => exact ⟨m + 1, by omega, by omega, by rw [HCS.out]; have := HX.out; omega, by rw [HCS.out]; have := HX.out; congr 1; omega, rfl⟩
              case measure => simp [intOf]; omega
            · have hcv : IsCv n y m (x + 1) := ⟨hy0, hy1, hm0, hm1, by omega, by omega, by unfold dno; have := HX.out; omega⟩
              have HCV := Lib.hid hcv
              clear hcv
              go_wp2_with fail
              refine (cmonth y m w2 (by omega) (by omega) hm0 hm1 D2.out).mono ?_
              rintro e w' ⟨rfl, rfl⟩
              have g0 := cell_got B2.out 0; have g1 := cell_got B2.out 1; have g2 := cell_got B2.out 2; have g3 := cell_got B2.out 3; have g4 := cell_got B2.out 4; have g5 := cell_got B2.out 5; have g6 := cell_got B2.out 6
              have f0 := frozen_got B2.out 0; have f1 := frozen_got B2.out 1; have f2 := frozen_got B2.out 2; have f3 := frozen_got B2.out 3; have f4 := frozen_got B2.out 4; have f5 := frozen_got B2.out 5; have f6 := frozen_got B2.out 6
              have l0 := got_lt B2.out
              go_wp2
              refine bodyPost_ret (v := .tuple #[civV y m (x + 1) (r / 3600) (r / 60 % 60) (r % 60), .int .i64 0]) (by simp [results, Tryz.results40, go_sem, civV, g0, g1, g2, g3, g4, g5, g6]) rfl ⟨HRS.out _ _ _ HCV.out, ?_⟩
              with_reducible repeat (first | exact O2.out | refine Only.setCell ?_ (.inr (Nat.le_refl _)) _)
theorem cof_no (sec : Int) (w : World) (h : sec < -8000000000 ∨ 8000000000 < sec) :
    Calls Tryz.prog 40 #[.int .i64 sec] w fun e w' => e = .returned (.tuple #[civV 0 0 0 0 0 0, .int .i64 3]) ∧ Only [] w w' := by
  have hw := cwithin sec (-8000000000) 8000000000
  rw [inB_f.2 (by omega)] at hw
  have HW := Lib.hid hw
  clear hw h
  go_enter Tryz.func40, Tryz.ntmps40
  go_wp2_with fail
  refine alloc_abs (G := fun w0 => Calls _ _ _ w0 _) ?_
  intro w1 hb1 ho1 hs1
  have B2 := Lib.hid hb1; have O2 := Lib.hid ho1
  clear hb1 ho1 hs1
  refine (HW.out w1).mono ?_
  rintro e w' ⟨rfl, rfl⟩
  have g0 := cell_got B2.out 0; have g1 := cell_got B2.out 1; have g2 := cell_got B2.out 2; have g3 := cell_got B2.out 3; have g4 := cell_got B2.out 4; have g5 := cell_got B2.out 5; have g6 := cell_got B2.out 6
  have f0 := frozen_got B2.out 0; have f1 := frozen_got B2.out 1; have f2 := frozen_got B2.out 2; have f3 := frozen_got B2.out 3; have f4 := frozen_got B2.out 4; have f5 := frozen_got B2.out 5; have f6 := frozen_got B2.out 6
  have l0 := got_lt B2.out
  go_wp2
  refine bodyPost_ret (v := .tuple #[civV 0 0 0 0 0 0, .int .i64 3]) (by simp [results, Tryz.results40, go_sem, civV, g0, g1, g2, g3, g4, g5, g6]) rfl ⟨rfl, ?_⟩
  with_reducible repeat (first | exact O2.out | refine Only.setCell ?_ (.inr (Nat.le_refl _)) _)
end Go.Proofs.YtnfejojakikeeaaGreatDoor
