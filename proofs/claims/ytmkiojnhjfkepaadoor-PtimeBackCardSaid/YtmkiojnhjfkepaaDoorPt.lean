/- What the functions of package ptime and of the reference of layer 4 compute on numbers: Check, Of, Time, Corr, Nanos, AddCorr. No condition. -/
import Derived.Test.YtmkiojnhjfkepaaDoorR2
namespace Go.Proofs.YtmkiojnhjfkepaaDoor
open Go.RowKit

/-- a timestamp, as a value -/
def stV (s n : Int) : Value := .agg #[.int .i64 s, .int .i64 n]
/-- is it valid? -/
def stOk (s n : Int) : Prop := 0 ≤ s ∧ s ≤ 281474976710655 ∧ 0 ≤ n ∧ n ≤ 999999999
instance (s n : Int) : Decidable (stOk s n) := by unfold stOk; exact inferInstance

theorem Pcheck_yes (s n : Int) (w : World) (h : stOk s n) :
    Calls Tryd.prog 13 #[.agg #[.int .i64 s, .int .i64 n]] w fun e w' => e = .returned (.int .i64 0) ∧ Only [] w w' := by
  obtain ⟨h1, h2, h3, h4⟩ := h
  go_enter Tryd.func13, Tryd.ntmps13
  go_wp2
  go_ret
  exact ⟨rfl, (Only.refl [] w).alloc _⟩
theorem Pcheck_no (s n : Int) (w : World) (h : ¬ stOk s n) :
    Calls Tryd.prog 13 #[.agg #[.int .i64 s, .int .i64 n]] w fun e w' => e = .returned (.int .i64 3) ∧ Only [] w w' := by
  unfold stOk at h
  by_cases h1 : s < 0
  · clear h
    go_enter Tryd.func13, Tryd.ntmps13
    go_wp2
    go_ret
    exact ⟨rfl, (Only.refl [] w).alloc _⟩
  · by_cases h2 : 281474976710655 < s
    · clear h
      go_enter Tryd.func13, Tryd.ntmps13
      go_wp2
      go_ret
      exact ⟨rfl, (Only.refl [] w).alloc _⟩
    · by_cases h3 : n < 0
      · clear h
        go_enter Tryd.func13, Tryd.ntmps13
        go_wp2
        go_ret
        exact ⟨rfl, (Only.refl [] w).alloc _⟩
      · have h4 : 1000000000 ≤ n := by omega
        clear h
        go_enter Tryd.func13, Tryd.ntmps13
        go_wp2
        go_ret
        exact ⟨rfl, (Only.refl [] w).alloc _⟩

theorem Pof_no (t : Int) (w : World) (h : t < 2208988800000000000) :
    Calls Tryd.prog 11 #[.int .i64 t] w fun e w' => e = .returned (.tuple #[.agg #[.int .i64 0, .int .i64 0], .int .i64 3]) ∧ Only [] w w' := by
  go_enter Tryd.func11, Tryd.ntmps11
  go_wp2
  exact bodyPost_ret (v := .tuple #[.agg #[.int .i64 0, .int .i64 0], .int .i64 3]) (by simp [results, Tryd.results11, go_sem]) rfl ⟨rfl, (Only.refl [] w).alloc _⟩
theorem Pof_yes (t : Int) (w : World) (h : ¬ t < 2208988800000000000) (h1 : t ≤ 9223372036854775807) :
    Calls Tryd.prog 11 #[.int .i64 t] w fun e w' => e = .returned (.tuple #[.agg #[.int .i64 (t / 1000000000 - 2208988800), .int .i64 (t % 1000000000)], .int .i64 0]) ∧ Only [] w w' := by
  go_enter Tryd.func11, Tryd.ntmps11
  go_wp2
  exact bodyPost_ret (v := .tuple #[.agg #[.int .i64 (t / 1000000000 - 2208988800), .int .i64 (t % 1000000000)], .int .i64 0]) (by simp [results, Tryd.results11, go_sem]) rfl ⟨rfl, (Only.refl [] w).alloc _⟩

theorem Ptime_bad (s n : Int) (w : World) (h : ¬ stOk s n) :
    Calls Tryd.prog 9 #[.agg #[.int .i64 s, .int .i64 n]] w fun e w' => e = .returned (.tuple #[.int .i64 0, .int .i64 3]) ∧ Only [] w w' := by
  go_enter Tryd.func9, Tryd.ntmps9
  go_wp2_with fail
  refine alloc_abs (G := fun w0 => Calls _ _ _ w0 _) ?_
  intro w1 hb1 ho1 hs1
  clear hb1 hs1
  refine (Pcheck_no s n w1 h).mono ?_
  rintro e w2 ⟨rfl, ho2⟩
  go_wp2_with fail
  go_ret2
  exact ⟨rfl, ho1.nil_trans ho2⟩
theorem Rcheck_yes (s n : Int) (w : World) (h : stOk s n) :
    Calls Tryd.prog 14 #[.agg #[.int .i64 s, .int .i64 n]] w fun e w' => e = .returned (.int .i64 0) ∧ Only [] w w' := by
  obtain ⟨h1, h2, h3, h4⟩ := h
  go_enter Tryd.func14, Tryd.ntmps14
  go_wp2
  go_ret
  exact ⟨rfl, (Only.refl [] w).alloc _⟩
theorem Rcheck_no (s n : Int) (w : World) (h : ¬ stOk s n) :
    Calls Tryd.prog 14 #[.agg #[.int .i64 s, .int .i64 n]] w fun e w' => e = .returned (.int .i64 3) ∧ Only [] w w' := by
  unfold stOk at h
  by_cases h1 : s < 0
  · clear h
    go_enter Tryd.func14, Tryd.ntmps14
    go_wp2
    go_ret
    exact ⟨rfl, (Only.refl [] w).alloc _⟩
  · by_cases h2 : 281474976710655 < s
    · clear h
      go_enter Tryd.func14, Tryd.ntmps14
      go_wp2
      go_ret
      exact ⟨rfl, (Only.refl [] w).alloc _⟩
    · by_cases h3 : n < 0
      · clear h
        go_enter Tryd.func14, Tryd.ntmps14
        go_wp2
        go_ret
        exact ⟨rfl, (Only.refl [] w).alloc _⟩
      · have h4 : 1000000000 ≤ n := by omega
        clear h
        go_enter Tryd.func14, Tryd.ntmps14
        go_wp2
        go_ret
        exact ⟨rfl, (Only.refl [] w).alloc _⟩

theorem Rof_no (t : Int) (w : World) (h : t < 2208988800000000000) :
    Calls Tryd.prog 12 #[.int .i64 t] w fun e w' => e = .returned (.tuple #[.agg #[.int .i64 0, .int .i64 0], .int .i64 3]) ∧ Only [] w w' := by
  go_enter Tryd.func12, Tryd.ntmps12
  go_wp2
  exact bodyPost_ret (v := .tuple #[.agg #[.int .i64 0, .int .i64 0], .int .i64 3]) (by simp [results, Tryd.results12, go_sem]) rfl ⟨rfl, (Only.refl [] w).alloc _⟩
theorem Rof_yes (t : Int) (w : World) (h : ¬ t < 2208988800000000000) (h1 : t ≤ 9223372036854775807) :
    Calls Tryd.prog 12 #[.int .i64 t] w fun e w' => e = .returned (.tuple #[.agg #[.int .i64 (t / 1000000000 - 2208988800), .int .i64 (t % 1000000000)], .int .i64 0]) ∧ Only [] w w' := by
  go_enter Tryd.func12, Tryd.ntmps12
  go_wp2
  exact bodyPost_ret (v := .tuple #[.agg #[.int .i64 (t / 1000000000 - 2208988800), .int .i64 (t % 1000000000)], .int .i64 0]) (by simp [results, Tryd.results12, go_sem]) rfl ⟨rfl, (Only.refl [] w).alloc _⟩

theorem Rtime_bad (s n : Int) (w : World) (h : ¬ stOk s n) :
    Calls Tryd.prog 10 #[.agg #[.int .i64 s, .int .i64 n]] w fun e w' => e = .returned (.tuple #[.int .i64 0, .int .i64 3]) ∧ Only [] w w' := by
  go_enter Tryd.func10, Tryd.ntmps10
  go_wp2_with fail
  refine alloc_abs (G := fun w0 => Calls _ _ _ w0 _) ?_
  intro w1 hb1 ho1 hs1
  clear hb1 hs1
  refine (Rcheck_no s n w1 h).mono ?_
  rintro e w2 ⟨rfl, ho2⟩
  go_wp2_with fail
  go_ret2
  exact ⟨rfl, ho1.nil_trans ho2⟩
end Go.Proofs.YtmkiojnhjfkepaaDoor
