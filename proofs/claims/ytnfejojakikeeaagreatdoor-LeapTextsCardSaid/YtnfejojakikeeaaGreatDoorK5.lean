/- civil.Check and civil.Seconds of the first day of a month. Condition: the table of the months is laid. -/
import Derived.Test.YtnfejojakikeeaaGreatDoorK4
import Derived.Deep.QuietTactic
import Derived.BigQuiet
namespace Go.Proofs.YtnfejojakikeeaaGreatDoor
open Go.RowKit

theorem quiet_same {P : Program} {f : FuncId} {args : Array Value} {w : World} {n : Nat} {v : Value}
    (h : Calls P f args (w.drewN n) fun e w' => e = .returned v ∧ w.drewN n = w') : Calls P f args (w.drewN n) fun e w'' => e = .returned v ∧ ∃ m, w'' = w.drewN m :=
  h.mono fun _ _ ⟨he, hm⟩ => ⟨he, n, hm.symm⟩
set_option maxRecDepth 100000 in
set_option maxHeartbeats 2000000 in
/-- the first second of a month is valid iff the year is -/
theorem cchk (y m : Int) (w : World) (m1 : 1 ≤ m) (m2 : m ≤ 12) (hd : Mdy w) :
    Calls Tryz.prog 59 #[civV y m 1 0 0 0] w fun e w' => e = .returned (.int .i64 (if 1600 ≤ y ∧ y ≤ 2200 then 0 else 3)) ∧ Only [] w w' := by
  have HD := Lib.hid hd; clear hd
  unfold civV
  have iw : inB m 1 12 = true := inB_t.2 ⟨m1, m2⟩
  by_cases hy : 1600 ≤ y ∧ y ≤ 2200
  · have iy : inB y 1600 2200 = true := inB_t.2 hy
    rw [if_pos hy]
    obtain ⟨y0, y1⟩ := hy
    have hdm := dim_bd y m1 m2
    have id : inB 1 1 (dim y m) = true := inB_t.2 ⟨by omega, by omega⟩
    have i1 : inB 0 0 23 = true := inB_t.2 ⟨by omega, by omega⟩
    have i2 : inB 0 0 59 = true := inB_t.2 ⟨by omega, by omega⟩
    have i3 : inB 0 0 999999999 = true := inB_t.2 ⟨by omega, by omega⟩
    go_enter Tryz.func59, Tryz.ntmps59
    go_upto_region 1 with (fail)
    refine alloc_abs (G := fun w0 => Code.wp _ _ _ _ w0) ?_
    intro w1 hb1 ho1 hs1
    have O1 := Lib.hid ho1
    have g0 := cell_got hb1 0; have g1 := cell_got hb1 1; have g2 := cell_got hb1 2; have g3 := cell_got hb1 3; have g4 := cell_got hb1 4; have g5 := cell_got hb1 5; have g6 := cell_got hb1 6
    have l0 := got_lt hb1
    have HMD := Lib.hid (fun n => cmonth y m (w1.drewN n) (by omega) (by omega) m1 m2 (HD.out.kept (ho1.nil_trans (only_dr2 _ _))))
    clear hb1 ho1 hs1
    go_quiet (first
      | (go_at_call 55; exact quiet_same (cwithin _ _ _ _))
      | (go_at_call 58; exact quiet_same (HMD.out _)))
    go_wp2
    go_ret
    exact ⟨rfl, O1.out.nil_trans (only_dr2 _ _)⟩
  · have iy : inB y 1600 2200 = false := inB_f.2 hy
    rw [if_neg hy]
    clear hy
    go_enter Tryz.func59, Tryz.ntmps59
    go_upto_region 1 with (fail)
    refine alloc_abs (G := fun w0 => Code.wp _ _ _ _ w0) ?_
    intro w1 hb1 ho1 hs1
    have O1 := Lib.hid ho1
    have g0 := cell_got hb1 0; have g1 := cell_got hb1 1; have g2 := cell_got hb1 2; have g3 := cell_got hb1 3; have g4 := cell_got hb1 4; have g5 := cell_got hb1 5; have g6 := cell_got hb1 6
    have l0 := got_lt hb1
    clear hb1 ho1 hs1
    go_quiet (first
      | (go_at_call 55; exact quiet_same (cwithin _ _ _ _)))
    go_wp2
    go_ret
    exact ⟨rfl, O1.out.nil_trans (only_dr2 _ _)⟩

def SecI (w1 : World) (y m : Int) (vn vi : Value) (wr : World) : Prop :=
  ∃ i : Int, 0 ≤ i ∧ i ≤ m - 1 ∧ vi = .int .i64 i ∧ vn = .int .i64 (ys y + cum y (i + 1)) ∧ Only [] w1 wr
/-- what Seconds returns for the first second of a month -/
def secR (y m : Int) : Int × Int := if 1600 ≤ y ∧ y ≤ 2200 then (if inB (86400 * dno y m 1) (-8000000000) 8000000000 = true then (86400 * dno y m 1, 0) else (0, 3)) else (0, 3)
set_option maxRecDepth 100000 in
set_option maxHeartbeats 2000000 in
theorem csec (y m : Int) (w : World) (m1 : 1 ≤ m) (m2 : m ≤ 12) (hd : Mdy w) :
    Calls Tryz.prog 41 #[civV y m 1 0 0 0] w fun e w' => e = .returned (.tuple #[.int .i64 (secR y m).1, .int .i64 (secR y m).2]) ∧ Only [] w w' := by
  have HD := Lib.hid hd; clear hd
  have HCK := Lib.hid (fun w1 (ho : Only [] w w1) => cchk y m w1 m1 m2 (HD.out.kept ho))
  unfold civV at HCK ⊢
  go_enter Tryz.func41, Tryz.ntmps41
  go_wp2_with fail
  refine alloc_abs (G := fun w0 => Calls _ _ _ w0 _) ?_
  intro w1 hb1 ho1 hs1
  have B1 := Lib.hid hb1; have O1 := Lib.hid ho1
  clear hb1 ho1 hs1
  refine (HCK.out w1 O1.out).mono ?_
  rintro e w2 ⟨rfl, ho2⟩
  have B2 := Lib.hid (ho2.got B1.out (by simp)); have O2 := Lib.hid (O1.out.nil_trans ho2)
  clear ho2 B1 O1 HCK
  by_cases hy : 1600 ≤ y ∧ y ≤ 2200
  · have HS : Hid (secR y m = if inB (86400 * dno y m 1) (-8000000000) 8000000000 = true then (86400 * dno y m 1, 0) else (0, 3)) := Lib.hid (by unfold secR; rw [if_pos hy])
    rw [if_pos hy]
    obtain ⟨y0, y1⟩ := hy
    have hb0 := ys_mono (a := 1600) (b := y) y0
    have hb1 := ys_mono (a := y) (b := 2200) y1
    rw [ys_1600] at hb0
    rw [ys_2200] at hb1
    have g0 := cell_got B2.out 0; have g1 := cell_got B2.out 1; have g2 := cell_got B2.out 2
    have l0 := got_lt B2.out
    go_upto_region 4 with (fail)
    have hw1 : IntKind.i64.wrap (ys y + 1) = ys y + 1 := IntWalk.i64_in _ (by omega)
    have hw2 : IntKind.i64.wrap (ys y + 1 - 1) = ys y + 1 - 1 := IntWalk.i64_in _ (by omega)
    go_quiet ((go_at_call 57; exact quiet_same (cyear y _ (by omega) (by omega))))
    have HB := Lib.hid (And.intro hb0 hb1)
    clear hw1 hw2 hb0 hb1 g0 g1 g2 l0
    obtain ⟨w3, hw3⟩ : ∃ w3, w3 = w2.drewN nq := ⟨_, rfl⟩
    rw [← hw3]
    have ho3 : Only [] w2 w3 := hw3 ▸ only_dr2 _ _
    have B3 := Lib.hid (ho3.got B2.out (by simp)); have O3 := Lib.hid (O2.out.nil_trans ho3)
    clear ho3 hw3 B2 O2
    have g0 := cell_got B3.out 0; have g1 := cell_got B3.out 1; have g2 := cell_got B3.out 2
    have l0 := got_lt B3.out
    go_wp2
    go_loopw [5, 23] (fun vn vi wr => SecI w3 y m vn vi wr) (fun _ vi _ => (m - 1 - intOf vi).toNat)
    case atStart => exact ⟨0, by omega, by omega, rfl, by rw [show (0 : Int) + 1 = 1 by omega, cum_1]; congr 1; omega, Only.refl _ _⟩
    case round =>
      obtain ⟨i, hi0, hi1, rfl, rfl, ho⟩ := hrel
      have B4 := Lib.hid (ho.got B3.out (by simp)); have OO := Lib.hid ho; have O4 := Lib.hid (O3.out.nil_trans ho)
      clear ho g0 g1 g2 l0
      have g0 := cell_got B4.out 0; have g1 := cell_got B4.out 1; have g2 := cell_got B4.out 2; have g3 := cell_got B4.out 3; have g4 := cell_got B4.out 4; have g5 := cell_got B4.out 5
      have l0 := got_lt B4.out
      have hcb := cum_mono y (a := 1) (b := i + 1) (by omega) (by omega) (by omega)
      have hcu := cum_mono y (a := i + 1) (b := 13) (by omega) (by omega) (by omega)
      rw [cum_1] at hcb
      rw [cum_13] at hcu
      have hlp := lp1_01 y
      have hbb := HB.out
      by_cases hlt : i < m - 1
      · have hcs := cum_succ y (m := i + 1) (by omega) (by omega)
        have hdm := dim_bd y (m := i + 1) (by omega) (by omega)
        have HCS := Lib.hid hcs
        have HMD := Lib.hid (cmonth y (i + 1) wr (by omega) (by omega) (by omega) (by omega) (HD.out.kept O4.out))
        generalize cum y (i + 1) = c at hcb hcu HCS ⊢
        generalize dim y (i + 1) = dd at hdm HCS HMD
        obtain ⟨Y, hY⟩ : ∃ Y, Y = ys y := ⟨_, rfl⟩
        rw [← hY] at hbb ⊢
        have HY := Lib.hid hY
        clear hcs hY
        go_wp2_with fail
        refine HMD.out.mono ?_
        rintro e w' ⟨rfl, rfl⟩
        go_wp2
        go_roundw
        case rel => exact ⟨i + 1, by omega, by omega, by go_num, by rw [HCS.out, ← HY.out]; congr 1; omega, OO.out⟩
        case measure => simp [intOf]; omega
      · obtain rfl : i = m - 1 := by omega
        have hdn : 86400 * dno y m 1 = 86400 * (ys y + cum y (m - 1 + 1)) := by unfold dno; rw [show m - 1 + 1 = m by omega]; omega
        rw [hdn] at HS
        generalize cum y (m - 1 + 1) = c at hcb hcu HS ⊢
        generalize ys y = Y at hbb HS ⊢
        clear hdn
        have hwi := cwithin (86400 * (Y + c)) (-8000000000) 8000000000 wr
        by_cases hin : inB (86400 * (Y + c)) (-8000000000) 8000000000 = true
        · rw [hin] at hwi
          have HWI := Lib.hid hwi
          have HX : Hid (secR y m = (86400 * (Y + c), 0)) := Lib.hid (by rw [HS.out, if_pos hin])
          clear hwi hin
          go_wp2_with fail
          refine HWI.out.mono ?_
          rintro e w' ⟨rfl, rfl⟩
          go_wp2
          go_ret2
          exact ⟨by rw [HX.out]; rfl, O4.out⟩
        · rw [show inB (86400 * (Y + c)) (-8000000000) 8000000000 = false by simpa using hin] at hwi
          have HWI := Lib.hid hwi
          have HX : Hid (secR y m = (0, 3)) := Lib.hid (by rw [HS.out, if_neg hin])
          clear hwi hin
          go_wp2_with fail
          refine HWI.out.mono ?_
          rintro e w' ⟨rfl, rfl⟩
          go_wp2
          go_ret2
          exact ⟨by rw [HX.out]; rfl, O4.out⟩
  · have HS : Hid (secR y m = (0, 3)) := Lib.hid (by unfold secR; rw [if_neg hy])
    rw [if_neg hy]
    clear hy
    go_wp2
    go_ret2
    exact ⟨by rw [HS.out]; rfl, O2.out⟩
end Go.Proofs.YtnfejojakikeeaaGreatDoor
