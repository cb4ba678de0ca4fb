/- The reference's calendar: isLeap, yearDays, MonthDays, dayOf, Of. No condition. -/
import Derived.Test.YtnfejojakikeeaaGreatDoorQ2
import Derived.Test.YtnfejojakikeeaaGreatDoorCo
namespace Go.Proofs.YtnfejojakikeeaaGreatDoor
open Go.RowKit

theorem risleap (y : Int) (w : World) (h0 : 0 ≤ y) (h1 : y ≤ 100000) : Calls Tryz.prog 75 #[.int .i64 y] w fun e w' => e = .returned (.bool (lpy y)) ∧ w = w' := by
  by_cases h4 : y % 4 = 0
  · have b2 : (y % 4 == 0) = true := by simp [h4]
    by_cases h100 : y % 100 = 0
    · have b3 : (y % 100 != 0) = false := by simp [h100]
      have hl : lpy y = (y % 400 == 0) := by rw [Bool.eq_iff_iff]; simp [lpy, h4, h100]
      have HL := Lib.hid hl
      clear hl h4 h100
      go_enter Tryz.func75, Tryz.ntmps75
      go_wp2
      go_ret
      exact ⟨by rw [HL.out]; rfl, rfl⟩
    · have b3 : (y % 100 != 0) = true := by simp [h100]
      have HL : Hid (lpy y = true) := Lib.hid (by simp [lpy, h4, h100])
      clear h4 h100
      go_enter Tryz.func75, Tryz.ntmps75
      go_wp2
      go_ret
      exact ⟨by rw [HL.out]; rfl, rfl⟩
  · have b2 : (y % 4 == 0) = false := by simp [h4]
    have HL : Hid (lpy y = false) := Lib.hid (by simp [lpy, h4])
    clear h4
    go_enter Tryz.func75, Tryz.ntmps75
    go_wp2
    go_ret
    exact ⟨by rw [HL.out]; rfl, rfl⟩
theorem ryeardays (y : Int) (w : World) (h0 : 0 ≤ y) (h1 : y ≤ 100000) : Calls Tryz.prog 61 #[.int .i64 y] w fun e w' => e = .returned (.int .i64 (365 + lp1 y)) ∧ w = w' := by
  have hl := risleap y w h0 h1
  have h2 : lp1 y = if lpy y then 1 else 0 := rfl
  generalize lpy y = q at hl h2
  cases q with
  | true =>
    have HL := Lib.hid hl; have H2 := Lib.hid h2
    clear hl h2
    go_enter Tryz.func61, Tryz.ntmps61
    go_wp2_with fail
    refine HL.out.mono ?_
    rintro e w' ⟨rfl, rfl⟩
    go_wp2
    go_ret
    exact ⟨by rw [H2.out]; rfl, rfl⟩
  | false =>
    have HL := Lib.hid hl; have H2 := Lib.hid h2
    clear hl h2
    go_enter Tryz.func61, Tryz.ntmps61
    go_wp2_with fail
    refine HL.out.mono ?_
    rintro e w' ⟨rfl, rfl⟩
    go_wp2
    go_ret
    exact ⟨by rw [H2.out]; rfl, rfl⟩
set_option maxHeartbeats 2000000 in
theorem rmonthdays (y m : Int) (w : World) (h0 : 0 ≤ y) (h1 : y ≤ 100000) (m1 : 1 ≤ m) (m2 : m ≤ 12) : Calls Tryz.prog 62 #[.int .i64 y, .int .i64 m] w fun e w' => e = .returned (.int .i64 (dim y m)) ∧ w = w' := by
  have hl := risleap y w h0 h1
  by_cases h2 : m = 2
  · subst h2
    have hd : dim y 2 = if lpy y = true then 29 else 28 := by unfold dim mdays; by_cases h : lpy y = true <;> simp [h]
    generalize lpy y = q at hl hd
    cases q with
    | true =>
      have HL := Lib.hid hl; have H2 := Lib.hid hd
      clear hl hd
      go_enter Tryz.func62, Tryz.ntmps62
      go_wp2_with fail
      refine HL.out.mono ?_
      rintro e w' ⟨rfl, rfl⟩
      go_wp2
      go_ret
      exact ⟨by rw [H2.out]; rfl, rfl⟩
    | false =>
      have HL := Lib.hid hl; have H2 := Lib.hid hd
      clear hl hd
      go_enter Tryz.func62, Tryz.ntmps62
      go_wp2_with fail
      refine HL.out.mono ?_
      rintro e w' ⟨rfl, rfl⟩
      go_wp2
      go_ret
      exact ⟨by rw [H2.out]; rfl, rfl⟩
  · have hd : dim y m = mdays.getD (m - 1).toNat 0 := by unfold dim; rw [if_neg (fun q => h2 q.1)]
    have HD := Lib.hid hd
    clear hd hl
    rcases month_cases m1 m2 with rfl | rfl | rfl | rfl | rfl | rfl | rfl | rfl | rfl | rfl | rfl | rfl
    all_goals first
      | exact absurd rfl h2
      | (clear h2 m1 m2
         go_enter Tryz.func62, Tryz.ntmps62
         go_wp2
         go_ret
         exact ⟨by rw [HD.out]; rfl, rfl⟩)
theorem rdayof (sec : Int) (w : World) (h0 : -9223372036854775808 ≤ sec) (h1 : sec ≤ 9223372036854775807) : Calls Tryz.prog 60 #[.int .i64 sec] w fun e w' => e = .returned (.int .i64 (sec / 86400)) ∧ w = w' := by
  have hf := rfloor sec 86400 w h0 h1 (by decide) (by decide)
  go_enter Tryz.func60, Tryz.ntmps60
  go_wp2_with fail
  refine hf.mono ?_
  rintro e w' ⟨rfl, rfl⟩
  go_wp2
  go_ret
  exact ⟨rfl, rfl⟩
end Go.Proofs.YtnfejojakikeeaaGreatDoor
