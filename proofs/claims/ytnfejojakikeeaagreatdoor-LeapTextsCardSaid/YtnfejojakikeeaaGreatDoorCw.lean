/- Package civil: what within, day, yearStart, MonthDays and Of compute. Condition: the table of the months is laid. -/
import Derived.Test.YtnfejojakikeeaaGreatDoorCv
import Derived.Test.YtnfejojakikeeaaGreatDoorFl
namespace Go.Proofs.YtnfejojakikeeaaGreatDoor
open Go.RowKit

/-- is a number from lo to hi? -/
def inB (n lo hi : Int) : Bool := decide (lo ≤ n ∧ n ≤ hi)
theorem inB_t {n lo hi : Int} : inB n lo hi = true ↔ (lo ≤ n ∧ n ≤ hi) := by simp [inB]
theorem inB_f {n lo hi : Int} : inB n lo hi = false ↔ ¬ (lo ≤ n ∧ n ≤ hi) := by simp only [inB, decide_eq_false_iff_not]
theorem cwithin (n lo hi : Int) (w : World) : Calls Tryz.prog 55 #[.int .i64 n, .int .i64 lo, .int .i64 hi] w fun e w' => e = .returned (.bool (inB n lo hi)) ∧ w = w' := by
  by_cases h1 : lo ≤ n
  · have d1 : decide (lo ≤ n) = true := by simp [h1]
    by_cases h2 : n ≤ hi
    · rw [inB_t.2 ⟨h1, h2⟩]
      have d2 : decide (n ≤ hi) = true := by simp [h2]
      go_enter Tryz.func55, Tryz.ntmps55
      go_wp2
      go_ret
      exact ⟨rfl, rfl⟩
    · rw [inB_f.2 (fun h => h2 h.2)]
      have d2 : decide (n ≤ hi) = false := by simpa using h2
      go_enter Tryz.func55, Tryz.ntmps55
      go_wp2
      go_ret
      exact ⟨rfl, rfl⟩
  · rw [inB_f.2 (fun h => h1 h.1)]
    have d1 : decide (lo ≤ n) = false := by simpa using h1
    go_enter Tryz.func55, Tryz.ntmps55
    go_wp2
    go_ret
    exact ⟨rfl, rfl⟩
theorem only_dr2 (w : World) (n : Nat) : Only [] w (w.drewN n) := ⟨rfl, rfl, rfl, Nat.le_refl _, fun _ _ _ => rfl⟩
theorem cday (sec : Int) (w : World) (h0 : -9223372036854775808 ≤ sec) (h1 : sec ≤ 9223372036854775807) : Calls Tryz.prog 56 #[.int .i64 sec] w fun e w' => e = .returned (.int .i64 (sec / 86400)) ∧ Only [] w w' := by
  have hf := ffloor sec 86400 w h0 h1 (by omega) (by omega)
  generalize sec / 86400 = q at hf ⊢
  have HF := Lib.hid hf; clear hf
  go_enter Tryz.func56, Tryz.ntmps56
  go_wp2_with fail
  refine HF.out.mono ?_
  rintro e w' ⟨rfl, n, rfl⟩
  go_wp2
  go_ret
  exact ⟨rfl, only_dr2 _ _⟩
theorem cyear (y : Int) (w : World) (h0 : 1 ≤ y) (h1 : y ≤ 100000) : Calls Tryz.prog 57 #[.int .i64 y] w fun e w' => e = .returned (.int .i64 (ys y)) ∧ w = w' := by
  have hu : ys y = 365 * (y - 1) + (y - 1) / 4 - (y - 1) / 100 + (y - 1) / 400 - 693595 := rfl
  have HU := Lib.hid hu; clear hu
  go_enter Tryz.func57, Tryz.ntmps57
  go_wp2
  go_ret
  exact ⟨ret_int (by rw [HU.out]), rfl⟩
/-- the table of the months is as the package lays it -/
def Mdy (w : World) : Prop := ∀ i, i < 12 → w.cell? ⟨0, i, none⟩ = some (.int .i64 (mdays.getD i 0))
theorem Mdy.kept {w w' : World} (h : Mdy w) (ho : Only [] w w') : Mdy w' := fun i hi => by
  rw [ho.cell (World.block_lt_of_cell? w _ (h i hi)) (by simp)]; exact h i hi
set_option maxHeartbeats 1000000 in
theorem cmonth (y m : Int) (w : World) (h0 : 0 ≤ y) (h1 : y ≤ 100000) (m1 : 1 ≤ m) (m2 : m ≤ 12) (hd : Mdy w) : Calls Tryz.prog 58 #[.int .i64 y, .int .i64 m] w fun e w' => e = .returned (.int .i64 (dim y m)) ∧ w = w' := by
  have hc := hd (m - 1).toNat (by omega)
  have hb := World.block_lt_of_cell? w _ hc
  have hw := cwithin m 1 12
  rw [inB_t.2 ⟨m1, m2⟩] at hw
  have HW := Lib.hid hw
  clear hw hd
  have hdim : dim y m = if m = 2 ∧ lpy y = true then 29 else mdays.getD (m - 1).toNat 0 := rfl
  generalize mdays.getD (m - 1).toNat 0 = T at hc hdim
  rw [show (m - 1).toNat = m.toNat - 1 by omega] at hc
  by_cases h2 : m = 2
  · have b1 : (m == 2) = true := by simp [h2]
    by_cases h4 : y % 4 = 0
    · have b2 : (y % 4 == 0) = true := by simp [h4]
      by_cases h100 : y % 100 = 0
      · have b3 : (y % 100 != 0) = false := by simp [h100]
        by_cases h400 : y % 400 = 0
        · have b4 : (y % 400 == 0) = true := by simp [h400]
          have hl : lpy y = true := by simp [lpy, h4, h400]
          rw [if_pos ⟨h2, hl⟩] at hdim
          have HD := Lib.hid hdim
          clear hdim h2 h4 h100 h400 hl
          go_enter Tryz.func58, Tryz.ntmps58
          go_wp2_with fail
          refine (HW.out w).mono ?_
          rintro e w' ⟨rfl, rfl⟩
          go_wp2
          go_ret
          exact ⟨by rw [HD.out]; rfl, rfl⟩
        · have b4 : (y % 400 == 0) = false := by simp [h400]
          have hl : ¬ lpy y = true := by simp [lpy, h100, h400]
          rw [if_neg (fun q => hl q.2)] at hdim
          have HD := Lib.hid hdim
          clear hdim h2 h4 h100 h400 hl
          go_enter Tryz.func58, Tryz.ntmps58
          go_wp2_with fail
          refine (HW.out w).mono ?_
          rintro e w' ⟨rfl, rfl⟩
          go_wp2
          go_ret
          exact ⟨by rw [HD.out]; rfl, rfl⟩
      · have b3 : (y % 100 != 0) = true := by simp [h100]
        have hl : lpy y = true := by simp [lpy, h4, h100]
        rw [if_pos ⟨h2, hl⟩] at hdim
        have HD := Lib.hid hdim
        clear hdim h2 h4 h100 hl
        go_enter Tryz.func58, Tryz.ntmps58
        go_wp2_with fail
        refine (HW.out w).mono ?_
        rintro e w' ⟨rfl, rfl⟩
        go_wp2
        go_ret
        exact ⟨by rw [HD.out]; rfl, rfl⟩
    · have b2 : (y % 4 == 0) = false := by simp [h4]
      have hl : ¬ lpy y = true := by simp [lpy, h4]
      rw [if_neg (fun q => hl q.2)] at hdim
      have HD := Lib.hid hdim
      clear hdim h2 h4 hl
      go_enter Tryz.func58, Tryz.ntmps58
      go_wp2_with fail
      refine (HW.out w).mono ?_
      rintro e w' ⟨rfl, rfl⟩
      go_wp2
      go_ret
      exact ⟨by rw [HD.out]; rfl, rfl⟩
  · have b1 : (m == 2) = false := by simp [h2]
    rw [if_neg (fun q => h2 q.1)] at hdim
    have HD := Lib.hid hdim
    clear hdim h2
    go_enter Tryz.func58, Tryz.ntmps58
    go_wp2_with fail
    refine (HW.out w).mono ?_
    rintro e w' ⟨rfl, rfl⟩
    go_wp2
    go_ret
    exact ⟨by rw [HD.out]; rfl, rfl⟩
end Go.Proofs.YtnfejojakikeeaaGreatDoor
