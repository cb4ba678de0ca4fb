/- The check of one entry in the reference. No condition. -/
import Derived.Test.YtdpfbedcejahjaaDoorLg1
namespace Go.Proofs.YtdpfbedcejahjaaDoor
open Go.RowKit

/-- is a number from lo to hi? -/
def inB (n lo hi : Int) : Bool := decide (lo ≤ n ∧ n ≤ hi)
theorem inB_t {n lo hi : Int} : inB n lo hi = true ↔ (lo ≤ n ∧ n ≤ hi) := by simp [inB]
theorem inB_f {n lo hi : Int} : inB n lo hi = false ↔ ¬ (lo ≤ n ∧ n ≤ hi) := by simp only [inB, decide_eq_false_iff_not]
theorem in_any (n lo hi : Int) (w : World) : Calls Tryd.prog 36 #[.int .i64 n, .int .i64 lo, .int .i64 hi] w fun e w' => e = .returned (.bool (inB n lo hi)) ∧ w = w' := by
  by_cases h1 : lo ≤ n
  · have d1 : decide (lo ≤ n) = true := by simp [h1]
    by_cases h2 : n ≤ hi
    · rw [inB_t.2 ⟨h1, h2⟩]
      have d2 : decide (n ≤ hi) = true := by simp [h2]
      go_enter Tryd.func36, Tryd.ntmps36
      go_wp2
      go_ret
      exact ⟨rfl, rfl⟩
    · rw [inB_f.2 (fun h => h2 h.2)]
      have d2 : decide (n ≤ hi) = false := by simpa using h2
      go_enter Tryd.func36, Tryd.ntmps36
      go_wp2
      go_ret
      exact ⟨rfl, rfl⟩
  · rw [inB_f.2 (fun h => h1 h.1)]
    have d1 : decide (lo ≤ n) = false := by simpa using h1
    go_enter Tryd.func36, Tryd.ntmps36
    go_wp2
    go_ret
    exact ⟨rfl, rfl⟩
/-- is it about a message? -/
def travB (k : Int) : Bool := decide (k = 1 ∨ k = 2)
theorem trav_any (k n p m c v : Int) (w : World) : Calls Tryd.prog 37 #[.agg #[.int .i64 k, .int .i64 n, .int .i64 p, .int .i64 m, .int .i64 c, .int .i64 v]] w fun e w' => e = .returned (.bool (travB k)) ∧ Only [] w w' := by
  by_cases h1 : k = 1
  · subst h1
    go_enter Tryd.func37, Tryd.ntmps37
    go_wp2
    go_ret
    exact ⟨rfl, (Only.refl [] w).alloc _⟩
  · have e1 : (k == 1) = false := by simp [h1]
    by_cases h2 : k = 2
    · subst h2
      go_enter Tryd.func37, Tryd.ntmps37
      go_wp2
      go_ret
      exact ⟨rfl, (Only.refl [] w).alloc _⟩
    · have e2 : (k == 2) = false := by simp [h2]
      have e3 : travB k = false := by simp [travB, h1, h2]
      rw [e3]
      go_enter Tryd.func37, Tryd.ntmps37
      go_wp2
      go_ret
      exact ⟨rfl, (Only.refl [] w).alloc _⟩

set_option maxRecDepth 100000 in
set_option maxHeartbeats 2000000 in
theorem Rone (e : En) (w : World) : Calls Tryd.prog 24 #[.agg #[.int .i64 e.k, .int .i64 e.n, .int .i64 e.p, .int .i64 e.m, .int .i64 e.c, .int .i64 e.v]] w fun r w' => r = .returned (.int .i64 (eChk e)) ∧ Only [] w w' := by
  obtain ⟨k, n, p, m, c, v⟩ := e
  simp only
  by_cases hk : k < 1 ∨ 4 < k
  · rw [eChk8 hk]
    go_enter Tryd.func24, Tryd.ntmps24
    rcases hk with hk | hk
    · have d1 : decide (k < 1) = true := by simp [hk]
      go_wp2
      go_ret
      exact ⟨rfl, (Only.refl [] w).alloc _⟩
    · have d1 : decide (k < 1) = false := by simp; omega
      have d2 : decide (4 < k) = true := by simp [hk]
      go_wp2
      go_ret
      exact ⟨rfl, (Only.refl [] w).alloc _⟩
  · have d1 : decide (k < 1) = false := by simp; omega
    have d2 : decide (4 < k) = false := by simp; omega
    by_cases hr : rngOk ⟨k, n, p, m, c, v⟩
    · have hr' := hr
      unfold rngOk at hr'
      dsimp only at hr'
      have i1 : inB n 0 23 = true := inB_t.2 (by omega)
      have i2 : inB p 0 23 = true := inB_t.2 (by omega)
      have i3 : inB m 0 2147483647 = true := inB_t.2 (by omega)
      have i4 : inB c (-4503599627370496) 4503599627370496 = true := inB_t.2 (by omega)
      have i5 : inB v (-4503599627370496) 4503599627370496 = true := inB_t.2 (by omega)
      have HR := Lib.hid hr
      clear hr hr'
      go_enter Tryd.func24, Tryd.ntmps24
      go_wp2_with (go_at_call 36; refine (in_any _ _ _ _).mono ?_; rintro e w' ⟨rfl, rfl⟩)
      refine alloc_abs (G := fun w0 => Calls _ _ _ w0 _) ?_
      intro w1 hb1 ho1 hs1
      have B1 := Lib.hid hb1; have O1 := Lib.hid ho1
      clear hb1 hs1 ho1
      refine (trav_any k n p m c v w1).mono ?_
      rintro e w2 ⟨rfl, ho2⟩
      have B2 := Lib.hid (ho2.got B1.out (by simp)); have O2 := Lib.hid (O1.out.nil_trans ho2)
      clear B1 O1 ho2
      have g0 := cell_got B2.out 0; have g1 := cell_got B2.out 1; have g2 := cell_got B2.out 2; have g3 := cell_got B2.out 3; have g4 := cell_got B2.out 4; have g5 := cell_got B2.out 5
      by_cases ht : k = 1 ∨ k = 2
      · have t1 : travB k = true := by simp [travB, ht]
        by_cases hnp : n = p
        · have b1 : (n == p) = true := by simp [hnp]
          have hz : eChk ⟨k, n, p, m, c, v⟩ = 7 := eChk7 hk HR.out (by unfold formBad; dsimp only; omega)
          have HZ := Lib.hid hz
          clear hnp hz
          go_wp2
          go_ret
          exact ⟨by rw [HZ.out]; rfl, O2.out⟩
        · have b1 : (n == p) = false := by simp [hnp]
          by_cases hv : v = 0
          · have b2 : (v == 0) = true := by simp [hv]
            have b3 : (v != 0) = false := by simp [hv]
            have b4 : (k == 4) = false := by simp; omega
            have hz : eChk ⟨k, n, p, m, c, v⟩ = 0 := eChk0 hk HR.out (by unfold formBad; dsimp only; omega)
            have HZ := Lib.hid hz
            clear hv hz
            go_wp2_with fail
            refine (trav_any k n p m c v w2).mono ?_
            rintro e w3 ⟨rfl, ho3⟩
            have B3 := Lib.hid (ho3.got B2.out (by simp)); have O3 := Lib.hid (O2.out.nil_trans ho3)
            clear B2 O2 ho3 g0 g1 g2 g3 g4 g5
            have g0 := cell_got B3.out 0; have g1 := cell_got B3.out 1; have g2 := cell_got B3.out 2; have g3 := cell_got B3.out 3; have g4 := cell_got B3.out 4; have g5 := cell_got B3.out 5
            go_wp2
            go_ret
            exact ⟨by rw [HZ.out]; rfl, O3.out⟩
          · have b2 : (v == 0) = false := by simp [hv]
            have b3 : (v != 0) = true := by simp [hv]
            have hz : eChk ⟨k, n, p, m, c, v⟩ = 7 := eChk7 hk HR.out (by unfold formBad; dsimp only; omega)
            have HZ := Lib.hid hz
            clear hz
            go_wp2
            go_ret
            exact ⟨by rw [HZ.out]; rfl, O2.out⟩
      · have t1 : travB k = false := by simp [travB, ht]
        go_wp2_with fail
        refine (trav_any k n p m c v w2).mono ?_
        rintro e w3 ⟨rfl, ho3⟩
        have B3 := Lib.hid (ho3.got B2.out (by simp)); have O3 := Lib.hid (O2.out.nil_trans ho3)
        clear B2 O2 ho3 g0 g1 g2 g3 g4 g5
        have g0 := cell_got B3.out 0; have g1 := cell_got B3.out 1; have g2 := cell_got B3.out 2; have g3 := cell_got B3.out 3; have g4 := cell_got B3.out 4; have g5 := cell_got B3.out 5
        by_cases hp : p = 0
        · have b1 : (p != 0) = false := by simp [hp]
          by_cases hm : m = 0
          · have b2 : (m != 0) = false := by simp [hm]
            by_cases h4 : k = 4
            · have b4 : (k == 4) = true := by simp [h4]
              by_cases hv : v = 0
              · have b3 : (v != 0) = false := by simp [hv]
                have hz : eChk ⟨k, n, p, m, c, v⟩ = 0 := eChk0 hk HR.out (by unfold formBad; dsimp only; omega)
                have HZ := Lib.hid hz
                clear hp hm h4 hv hz
                go_wp2
                go_ret
                exact ⟨by rw [HZ.out]; rfl, O3.out⟩
              · have b3 : (v != 0) = true := by simp [hv]
                have hz : eChk ⟨k, n, p, m, c, v⟩ = 7 := eChk7 hk HR.out (by unfold formBad; dsimp only; omega)
                have HZ := Lib.hid hz
                clear hp hm h4 hv hz
                go_wp2
                go_ret
                exact ⟨by rw [HZ.out]; rfl, O3.out⟩
            · have b4 : (k == 4) = false := by simp [h4]
              have hz : eChk ⟨k, n, p, m, c, v⟩ = 0 := eChk0 hk HR.out (by unfold formBad; dsimp only; omega)
              have HZ := Lib.hid hz
              clear hp hm h4 hz
              go_wp2
              go_ret
              exact ⟨by rw [HZ.out]; rfl, O3.out⟩
          · have b2 : (m != 0) = true := by simp [hm]
            have hz : eChk ⟨k, n, p, m, c, v⟩ = 7 := eChk7 hk HR.out (by unfold formBad; dsimp only; omega)
            have HZ := Lib.hid hz
            clear hp hm hz
            go_wp2
            go_ret
            exact ⟨by rw [HZ.out]; rfl, O3.out⟩
        · have b1 : (p != 0) = true := by simp [hp]
          have hz : eChk ⟨k, n, p, m, c, v⟩ = 7 := eChk7 hk HR.out (by unfold formBad; dsimp only; omega)
          have HZ := Lib.hid hz
          clear hp hz
          go_wp2
          go_ret
          exact ⟨by rw [HZ.out]; rfl, O3.out⟩
    · rw [eChk3 hk hr]
      unfold rngOk at hr
      dsimp only at hr
      go_enter Tryd.func24, Tryd.ntmps24
      go_wp2_with (go_at_call 36; refine (in_any _ _ _ _).mono ?_; rintro e w' ⟨rfl, rfl⟩)
      all_goals
        first
          | (go_ret; exact ⟨rfl, (Only.refl [] w).alloc _⟩)
          | (exfalso
             simp only [Bool.not_eq_false', inB_t] at *
             omega)
end Go.Proofs.YtdpfbedcejahjaaDoor
