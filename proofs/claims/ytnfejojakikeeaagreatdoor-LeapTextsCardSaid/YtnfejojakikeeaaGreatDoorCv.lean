/- The calendar in plain Lean. No condition. -/
import Derived.Test.YtnfejojakikeeaaGreatDoorBase
namespace Go.Proofs.YtnfejojakikeeaaGreatDoor

/-- is a year a leap year? -/
def lpy (y : Int) : Bool := decide (y % 4 = 0) && (decide (y % 100 ≠ 0) || decide (y % 400 = 0))
/-- one more day in a leap year -/
def lp1 (y : Int) : Int := if lpy y then 1 else 0
theorem lp1_01 (y : Int) : 0 ≤ lp1 y ∧ lp1 y ≤ 1 := by unfold lp1; split <;> omega
/-- the days of the months -/
def mdays : List Int := [31, 28, 31, 30, 31, 30, 31, 31, 30, 31, 30, 31]
def dim (y m : Int) : Int := if m = 2 ∧ lpy y = true then 29 else mdays.getD (m - 1).toNat 0
/-- the days before a month -/
def cumT : List Int := [0, 31, 59, 90, 120, 151, 181, 212, 243, 273, 304, 334, 365]
def cum (y m : Int) : Int := cumT.getD (m - 1).toNat 0 + if 2 < m then lp1 y else 0
/-- the first day of a year -/
def ys (y : Int) : Int := 365 * (y - 1) + (y - 1) / 4 - (y - 1) / 100 + (y - 1) / 400 - 693595
theorem ys_succ (y : Int) : ys (y + 1) = ys y + 365 + lp1 y := by
  unfold ys lp1 lpy
  by_cases h4 : y % 4 = 0 <;> by_cases h100 : y % 100 = 0 <;> by_cases h400 : y % 400 = 0 <;> simp [h4, h100, h400] <;> omega
theorem ys_mono {a b : Int} (h : a ≤ b) : ys a + 365 * (b - a) ≤ ys b := by
  obtain ⟨n, rfl⟩ : ∃ n : Nat, b = a + n := ⟨(b - a).toNat, by omega⟩
  induction n with
  | zero => simp
  | succ n ih =>
    have := ys_succ (a + n)
    have := lp1_01 (a + n)
    have e : a + ((n + 1 : Nat) : Int) = a + n + 1 := by omega
    rw [e]
    have := ih (by omega)
    omega
theorem ys_1600 : ys 1600 = -109573 := by decide
theorem ys_2200 : ys 2200 = 109573 := by decide
theorem ys_1900 : ys 1900 = 0 := by decide
theorem month_cases {m : Int} (h1 : 1 ≤ m) (h2 : m ≤ 12) : m = 1 ∨ m = 2 ∨ m = 3 ∨ m = 4 ∨ m = 5 ∨ m = 6 ∨ m = 7 ∨ m = 8 ∨ m = 9 ∨ m = 10 ∨ m = 11 ∨ m = 12 := by omega
theorem cum_succ (y : Int) {m : Int} (h1 : 1 ≤ m) (h2 : m ≤ 12) : cum y (m + 1) = cum y m + dim y m := by
  rcases month_cases h1 h2 with rfl | rfl | rfl | rfl | rfl | rfl | rfl | rfl | rfl | rfl | rfl | rfl
  all_goals
    unfold cum dim cumT mdays lp1
    by_cases h : lpy y = true <;> simp [h]
theorem cum_1 (y : Int) : cum y 1 = 0 := by simp [cum, cumT]
theorem cum_13 (y : Int) : cum y 13 = 365 + lp1 y := by simp [cum, cumT]
theorem dim_bd (y : Int) {m : Int} (h1 : 1 ≤ m) (h2 : m ≤ 12) : 28 ≤ dim y m ∧ dim y m ≤ 31 := by
  rcases month_cases h1 h2 with rfl | rfl | rfl | rfl | rfl | rfl | rfl | rfl | rfl | rfl | rfl | rfl
  all_goals
    unfold dim mdays
    by_cases h : lpy y = true <;> simp [h]
theorem cum_mono (y : Int) {a b : Int} (h1 : 1 ≤ a) (h : a ≤ b) (h2 : b ≤ 13) : cum y a + 28 * (b - a) ≤ cum y b := by
  obtain ⟨n, rfl⟩ : ∃ n : Nat, b = a + n := ⟨(b - a).toNat, by omega⟩
  induction n with
  | zero => simp
  | succ n ih =>
    have h3 := cum_succ y (m := a + n) (by omega) (by omega)
    have h4 := dim_bd y (m := a + n) (by omega) (by omega)
    have e : a + ((n + 1 : Nat) : Int) = a + n + 1 := by omega
    rw [e]
    have := ih (by omega) (by omega)
    omega
/-- the number of a day -/
def dno (y m d : Int) : Int := ys y + cum y m + (d - 1)
/-- the day `n` is this one -/
def IsCv (n y m d : Int) : Prop := 1600 ≤ y ∧ y ≤ 2199 ∧ 1 ≤ m ∧ m ≤ 12 ∧ 1 ≤ d ∧ d ≤ dim y m ∧ dno y m d = n
theorem dno_year {y m d : Int} (h1 : 1 ≤ m) (h2 : m ≤ 12) (h3 : 1 ≤ d) (h4 : d ≤ dim y m) : ys y ≤ dno y m d ∧ dno y m d < ys (y + 1) := by
  have a := cum_mono y (a := 1) (b := m) (by omega) h1 (by omega)
  have b := cum_mono y (a := m + 1) (b := 13) (by omega) (by omega) (by omega)
  have c := cum_succ y h1 h2
  rw [cum_1] at a
  rw [cum_13] at b
  have e := ys_succ y
  unfold dno
  omega
theorem IsCv.uniq {n y m d y' m' d' : Int} (h : IsCv n y m d) (k : IsCv n y' m' d') : y = y' ∧ m = m' ∧ d = d' := by
  obtain ⟨h1, h2, h3, h4, h5, h6, h7⟩ := h
  obtain ⟨k1, k2, k3, k4, k5, k6, k7⟩ := k
  have a := dno_year h3 h4 h5 h6
  have b := dno_year k3 k4 k5 k6
  have hy : y = y' := by
    rcases Int.lt_trichotomy y y' with h | h | h
    · have := ys_mono (show y + 1 ≤ y' by omega); omega
    · exact h
    · have := ys_mono (show y' + 1 ≤ y by omega); omega
  subst hy
  have hm : m = m' := by
    have c := cum_succ y h3 h4
    have c' := cum_succ y k3 k4
    unfold dno at h7 k7
    rcases Int.lt_trichotomy m m' with h | h | h
    · have := cum_mono y (a := m + 1) (b := m') (by omega) (by omega) (by omega); omega
    · exact h
    · have := cum_mono y (a := m' + 1) (b := m) (by omega) (by omega) (by omega); omega
  subst hm
  unfold dno at h7 k7
  exact ⟨rfl, rfl, by omega⟩
/-- is a second the first one of a month? -/
def mst (sec : Int) : Bool := (List.range 600).any fun a => (List.range 12).any fun b => decide (sec = 86400 * dno (1600 + a) (1 + b) 1)
theorem mst_iff {sec : Int} : mst sec = true ↔ ∃ y m, 1600 ≤ y ∧ y ≤ 2199 ∧ 1 ≤ m ∧ m ≤ 12 ∧ sec = 86400 * dno y m 1 := by
  unfold mst
  simp only [List.any_eq_true, List.mem_range, decide_eq_true_eq]
  constructor
  · rintro ⟨a, ha, b, hb, h⟩
    exact ⟨1600 + a, 1 + b, by omega, by omega, by omega, by omega, h⟩
  · rintro ⟨y, m, h1, h2, h3, h4, h5⟩
    refine ⟨(y - 1600).toNat, by omega, (m - 1).toNat, by omega, ?_⟩
    rw [show (1600 : Int) + ((y - 1600).toNat : Int) = y by omega, show (1 : Int) + ((m - 1).toNat : Int) = m by omega]
    exact h5
theorem mst_day {sec : Int} (h : mst sec = true) : sec % 86400 = 0 := by
  obtain ⟨y, m, _, _, _, _, rfl⟩ := mst_iff.1 h
  omega
/-- by the date of its day -/
theorem mst_of {sec y m d : Int} (h : IsCv (sec / 86400) y m d) : mst sec = (decide (d = 1) && decide (sec % 86400 = 0)) := by
  rw [Bool.eq_iff_iff, mst_iff]
  simp only [Bool.and_eq_true, decide_eq_true_eq]
  have h' := h
  obtain ⟨h1, h2, h3, h4, h5, h6, h7⟩ := h'
  constructor
  · rintro ⟨y', m', k1, k2, k3, k4, rfl⟩
    have hd := dim_bd y' k3 k4
    have hk : IsCv (86400 * dno y' m' 1 / 86400) y' m' 1 := ⟨k1, k2, k3, k4, by omega, by omega, by omega⟩
    obtain ⟨_, _, q⟩ := h.uniq hk
    exact ⟨q, by omega⟩
  · rintro ⟨rfl, q⟩
    exact ⟨y, m, h1, h2, h3, h4, by omega⟩
end Go.Proofs.YtnfejojakikeeaaGreatDoor
