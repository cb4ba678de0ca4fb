/- same of the laws' package: two tables are equal. Condition: the lengths. -/
import Derived.Test.YtnfejojakikeeaaGreatDoorKb
namespace Go.Proofs.YtnfejojakikeeaaGreatDoor
open Go.RowKit

theorem le_equal (a b : Le) (w : World) : (Op.equalIn 10000 42 (.agg #[.int .i64 a.a, .int .i64 a.o]) (.agg #[.int .i64 b.a, .int .i64 b.o])).run Tryz.prog w = .ok (decide (a = b)) w := by
  obtain ⟨a1, a2⟩ := a
  obtain ⟨b1, b2⟩ := b
  have h : (Op.equalIn 10000 42 (.agg #[.int .i64 a1, .int .i64 a2]) (.agg #[.int .i64 b1, .int .i64 b2])).run Tryz.prog w = .ok (a1 == b1 && a2 == b2) w := by
    rw [show (10000 : Nat) = 9999 + 1 from rfl, run_equalIn_struct w 9999 42 _ _ (by kernel_rfl) (by kernel_rfl)]
    simp [Program.fieldsOf, Tryz.underlying42, Op.eqFields, go_sem]
    by_cases h1 : a1 = b1 <;> by_cases h2 : a2 = b2 <;> simp [h1, h2]
  have h2 : (a1 == b1 && a2 == b2) = decide ((⟨a1, a2⟩ : Le) = ⟨b1, b2⟩) := by
    rw [Bool.eq_iff_iff]; simp only [Bool.and_eq_true, beq_iff_eq, decide_eq_true_eq, Le.mk.injEq]
  rw [← h2]
  exact h
def SmI (w1 : World) (es fs : List Le) (vi : Value) (wr : World) : Prop :=
  ∃ k : Nat, k ≤ es.length ∧ vi = .int .i64 k ∧ es.take k = fs.take k ∧ Only [] w1 wr
set_option maxRecDepth 100000 in
set_option maxHeartbeats 2000000 in
theorem ksame {w : World} {p q : Option Addr} {n m cap cap' : Nat} {es fs : List Le} (b x c y : Int) (hv : VRow leC 2 w p n cap es) (hu : VRow leC 2 w q m cap' fs) (hn : n ≤ 100000) (hm : m ≤ 100000) :
    Calls Tryz.prog 18 #[.agg #[.int .i64 b, .int .i64 x, .slice p n cap], .agg #[.int .i64 c, .int .i64 y, .slice q m cap']] w fun e w' => e = .returned (.bool (decide (b = c ∧ x = y ∧ es = fs))) ∧ Only [] w w' := by
  have hl := hv.len
  subst hl
  have hl := hu.len
  subst hl
  have HV := Lib.hid hv; have HU := Lib.hid hu; clear hv hu
  go_enter Tryz.func18, Tryz.ntmps18
  go_upto_region 1 with (fail)
  refine alloc_abs (G := fun w0 => Code.wp _ _ _ _ (w0.alloc _)) ?_
  intro w0 hb0 ho0 hs0
  have B0 := Lib.hid hb0; have O0 := Lib.hid ho0
  rw [← hs0]
  clear hb0 ho0 hs0
  refine alloc_abs (G := fun w0 => Code.wp _ _ _ _ w0) ?_
  intro w1 hb1 ho1 hs1
  have B1 := Lib.hid (ho1.got B0.out (by simp)); have C1 := Lib.hid hb1; have O1 := Lib.hid (O0.out.nil_trans ho1)
  clear hb1 ho1 hs1 B0 O0
  have g0 := cell_got B1.out 0; have g1 := cell_got B1.out 1; have g2 := cell_got B1.out 2
  have l0 := got_lt B1.out
  have k0 := cell_got C1.out 0; have k1 := cell_got C1.out 1; have k2 := cell_got C1.out 2
  have lk := got_lt C1.out
  by_cases h1 : b = c
  · have d1 : (b != c) = false := by simp [h1]
    by_cases h2 : x = y
    · have d2 : (x != y) = false := by simp [h2]
      by_cases h3 : es.length = fs.length
      · have d3 : ((es.length : Int) != (fs.length : Int)) = false := by simp [h3]
        have hdc : decide (b = c ∧ x = y ∧ es = fs) = decide (es = fs) := by simp [h1, h2]
        have HDC := Lib.hid hdc
        clear hdc h1 h2
        go_wp2
        go_loopw [5] (fun vi wr => SmI w1 es fs vi wr) (fun vi _ => es.length - (intOf vi).toNat)
        case atStart => exact ⟨0, Nat.zero_le _, rfl, rfl, Only.refl _ _⟩
        case round =>
          obtain ⟨k, hk, rfl, hsm, ho⟩ := hrel
          have HT := Lib.hid hsm; have OO := Lib.hid ho; have OA := Lib.hid (O1.out.nil_trans ho)
          have B2 := Lib.hid (ho.got B1.out (by simp)); have C2 := Lib.hid (ho.got C1.out (by simp))
          clear hsm ho g0 g1 g2 l0 k0 k1 k2 lk
          have g2 := cell_got B2.out 2; have k2 := cell_got C2.out 2
          have l0 := got_lt B2.out; have lk := got_lt C2.out
          by_cases hlt : k < es.length
          · have hlt' : k < fs.length := by omega
            obtain ⟨bk, off, hp⟩ := HV.out.ptr hlt
            subst hp
            obtain ⟨bk', off', hp'⟩ := HU.out.ptr hlt'
            subst hp'
            obtain ⟨c0, c1, lb⟩ := HV.out.ent OA.out rfl hlt
            obtain ⟨e0, e1, lb'⟩ := HU.out.ent OA.out rfl hlt'
            have hgk : es[k] = es.getD k ⟨0, 0⟩ := by simp [List.getD_eq_getElem?_getD, hlt]
            have hgk' : fs[k] = fs.getD k ⟨0, 0⟩ := by simp [List.getD_eq_getElem?_getD, hlt']
            generalize es.getD k ⟨0, 0⟩ = e at c0 c1 hgk
            generalize fs.getD k ⟨0, 0⟩ = f at e0 e1 hgk'
            have HG := Lib.hid hgk; have HG' := Lib.hid hgk'
            clear hgk hgk'
            have hkl : (k : Int) < (es.length : Int) := by omega
            have hkm : (k : Int) < (fs.length : Int) := by omega
            have heq := le_equal e f
            by_cases hef : e = f
            · rw [decide_eq_true hef] at heq
              have HN : Hid (es.take (k + 1) = fs.take (k + 1)) := Lib.hid (by rw [List.take_succ_eq_append_getElem hlt, List.take_succ_eq_append_getElem hlt', HT.out, HG.out, HG'.out, hef])
              have HL := Lib.hid h3
              clear hef h3 d3
              go_wp2_with fail
              go_quiet (fail)
              go_wp2
              go_roundw
              case rel => exact ⟨k + 1, by omega, by go_num, HN.out, OO.out.nil_trans (only_dr2 _ _)⟩
              case measure => simp [intOf]; omega
            · rw [decide_eq_false hef] at heq
              have HN : Hid (decide (es = fs) = false) := Lib.hid (by
                refine decide_eq_false fun q => hef ?_
                rw [← HG.out, ← HG'.out]; subst q; rfl)
              clear hef h3 d3
              go_wp2_with fail
              go_quiet (fail)
              go_wp2
              go_ret
              exact ⟨by rw [HDC.out, HN.out]; rfl, OA.out.nil_trans (only_dr2 _ _)⟩
          · have HN : Hid (decide (es = fs) = true) := Lib.hid (by
              refine decide_eq_true ?_
              have := HT.out
              rwa [List.take_of_length_le (by omega), List.take_of_length_le (by omega)] at this)
            obtain rfl : k = es.length := by omega
            clear h3 d3
            go_wp2
            go_ret
            exact ⟨by rw [HDC.out, HN.out]; rfl, OA.out⟩
      · have d3 : ((es.length : Int) != (fs.length : Int)) = true := by simp; omega
        have HX : Hid (decide (b = c ∧ x = y ∧ es = fs) = false) := Lib.hid (by simp only [decide_eq_false_iff_not]; rintro ⟨_, _, rfl⟩; exact h3 rfl)
        clear h1 h2 h3
        go_wp2
        go_ret
        exact ⟨by rw [HX.out]; rfl, O1.out⟩
    · have d2 : (x != y) = true := by simp [h2]
      have HX : Hid (decide (b = c ∧ x = y ∧ es = fs) = false) := Lib.hid (by simp only [decide_eq_false_iff_not]; exact fun h => h2 h.2.1)
      clear h1 h2
      go_wp2
      go_ret
      exact ⟨by rw [HX.out]; rfl, O1.out⟩
  · have d1 : (b != c) = true := by simp [h1]
    have HX : Hid (decide (b = c ∧ x = y ∧ es = fs) = false) := Lib.hid (by simp only [decide_eq_false_iff_not]; exact fun h => h1 h.1)
    clear h1
    go_wp2
    go_ret
    exact ⟨by rw [HX.out]; rfl, O1.out⟩
end Go.Proofs.YtnfejojakikeeaaGreatDoor
