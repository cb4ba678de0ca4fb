/- fixed.MulDiv for positive divisors, Sub, Ceil, Clamp, Abs. Conditions: those named in each theorem. -/
import Derived.Test.YtikjdmbfjkbndaaGreatM2
namespace Go.Proofs.YtikjdmbfjkbndaaGreat
open Go.RowKit

theorem hi_lt {N hi lo C : Nat} (h : N = hi * 18446744073709551616 + lo) (hlo : lo < 18446744073709551616) (hc : hi < C) : N / C ≤ 18446744073709551615 := by
  have : N / C < 18446744073709551616 := by
    rw [Nat.div_lt_iff_lt_mul (by omega)]
    omega
  omega
theorem hi_ge {N hi lo C : Nat} (h : N = hi * 18446744073709551616 + lo) (hc0 : 0 < C) (hc : C ≤ hi) : 18446744073709551616 ≤ N / C := by
  rw [Nat.le_div_iff_mul_le hc0]
  omega
set_option maxRecDepth 100000 in
set_option maxHeartbeats 2000000 in
theorem fmuldiv (a b c : Int) (w : World) (a0 : -9223372036854775808 ≤ a) (a1 : a ≤ 9223372036854775807) (b0 : -9223372036854775808 ≤ b) (b1 : b ≤ 9223372036854775807) (c0 : 0 < c) (c1 : c ≤ 9223372036854775807) :
    Calls Tryz.prog 166 #[.int .i64 a, .int .i64 b, .int .i64 c] w fun e w' => e = .returned (.tuple #[.int .i64 (orZ (a * b / c)), .bool (inI (a * b / c))]) ∧ ∃ n, w' = w.drewN n := by
  have hx : a.natAbs ≤ 9223372036854775808 := by omega
  have hy : b.natAbs ≤ 9223372036854775808 := by omega
  have hnc : decide (c < 0) = false := by simp; omega
  obtain ⟨p, hp⟩ : ∃ p, p = a * b / c := ⟨_, rfl⟩
  rw [← hp]
  have HP := Lib.hid hp; clear hp
  have S1 := Lib.hid (fsize a w a0 a1); have S2 := Lib.hid (fsize b w b0 b1); have S3 := Lib.hid (fun w => fsize c w (by omega) c1)
  obtain ⟨C, hC⟩ : ∃ C, c.natAbs = C := ⟨_, rfl⟩
  have HCC : Hid (c = (C : Int)) := Lib.hid (by omega)
  have hC0 : 0 < C := by omega
  have hCb : C ≤ 9223372036854775807 := by omega
  rw [hC] at S3
  clear hC
  have HSD := Lib.hid (fun (N : Nat) (hN : a.natAbs * b.natAbs = N) => sgn_div (a := a) (b := b) (c := c) (C := C) (Q := N / C) (r := N % C) HCC.out hN (by rw [Nat.mul_comm]; exact Nat.div_add_mod N C) (Nat.mod_lt N hC0))
  have HM := Lib.hid (mul64 a.natAbs b.natAbs (by omega) (by omega) w)
  generalize a.natAbs = A at S1 HM HSD hx
  generalize b.natAbs = B at S2 HM HSD hy
  go_enter Tryz.func166, Tryz.ntmps166
  go_wp2_with fail
  refine S1.out.mono ?_
  rintro e w' ⟨rfl, rfl⟩
  go_wp2_with fail
  refine S2.out.mono ?_
  rintro e w' ⟨rfl, rfl⟩
  go_wp2_with fail
  refine HM.out.mono ?_
  rintro e w' ⟨hi, lo, rfl, rfl, hm, hlo⟩
  obtain ⟨N, hN⟩ : ∃ N, A * B = N := ⟨_, rfl⟩
  rw [hN] at hm
  have HS := Lib.hid (HSD.out N hN); have HNE := Lib.hid hm.out
  have hhb : hi ≤ 4611686018427387904 := by
    have h1 := abs_prod hx hy
    rw [hN, hm.out] at h1
    omega
  clear hm HSD HM hN
  go_wp2_with fail
  refine (S3.out _).mono ?_
  rintro e w' ⟨rfl, rfl⟩
  by_cases hge : C ≤ hi
  · have t2 : decide ((C : Int) ≤ (hi : Int)) = true := by simp; omega
    have hq := hi_ge HNE.out hC0 hge
    have hs := HS.out
    rw [← HP.out] at hs
    have hout : p < -9223372036854775808 ∨ 9223372036854775807 < p := by
      generalize N / C = q at hq hs
      rw [hs]
      split
      · rw [sgn_neg]; omega
      · cases (!(decide (a < 0) == decide (b < 0)))
        · rw [sgn_pos]; omega
        · rw [sgn_neg]; omega
    have HO := Lib.hid hout
    clear hs hout hq HS HNE HP
    go_wp2_with fail
    go_ret2
    exact ⟨ret_ib (orZ_no HO.out).symm (inI_no HO.out).symm, 0, rfl⟩
  · have t2 : decide ((C : Int) ≤ (hi : Int)) = false := by simp; omega
    have t1 : ¬ (C : Int) ≤ (hi : Int) := by omega
    have hd := div64 hi lo C (by omega) (by omega) (by omega) w
    rw [← HNE.out] at hd
    have HD := Lib.hid hd
    have hq := hi_lt HNE.out (by omega) (by omega : hi < C)
    clear hd
    go_wp2_with fail
    refine (S3.out _).mono ?_
    rintro e w' ⟨rfl, rfl⟩
    go_wp2_with fail
    refine HD.out.mono ?_
    rintro e w1 ⟨rfl, n, rfl⟩
    have hs := HS.out
    rw [← HP.out] at hs
    have hrl : N % C < C := Nat.mod_lt N hC0
    generalize N / C = q at hq hs ⊢
    generalize N % C = r at hs hrl ⊢
    have HS' := Lib.hid hs
    clear hs HS HD HNE HP t1 t2 hge
    cases hneg : !(decide (a < 0) == decide (b < 0))
    · rw [hneg] at HS'
      have hs := HS'.out
      simp only [Bool.false_eq_true, false_and, if_false] at hs
      have HX := Lib.hid hs
      clear hs HS'
      go_wp2_with fail
      refine (fsigned q _ _ hq).mono ?_
      rintro e w' ⟨rfl, rfl⟩
      go_wp2
      go_ret2
      exact ⟨ret_ib (by rw [HX.out]) (by rw [HX.out]), n, rfl⟩
    · rw [hneg] at HS'
      have hs := HS'.out
      simp only [true_and] at hs
      by_cases h0 : 0 < r
      · rw [if_pos h0] at hs
        have HX := Lib.hid hs
        have r1 : ((r : Int) != 0) = true := by rw [bne_iff_ne]; omega
        have r2 : ((r : Int) == 0) = false := by rw [beq_eq_false_iff_ne]; omega
        clear hs HS'
        by_cases hz : q = 18446744073709551615
        · subst hz
          have HO : Hid (p < -9223372036854775808 ∨ 9223372036854775807 < p) := Lib.hid (by rw [HX.out, sgn_neg]; omega)
          go_wp2_with fail
          go_ret2
          exact ⟨ret_ib (orZ_no HO.out).symm (inI_no HO.out).symm, n, rfl⟩
        · have q1 : ((q : Int) == 18446744073709551615) = false := by rw [beq_eq_false_iff_ne]; omega
          obtain ⟨q2, hq2⟩ : ∃ q2, q + 1 = q2 := ⟨_, rfl⟩
          have hq3 : (q : Int) + 1 = (q2 : Int) := by omega
          have hq4 : q2 ≤ 18446744073709551615 := by omega
          rw [hq2] at HX
          clear hq2 h0
          go_wp2_with fail
          refine (fsigned q2 _ _ hq4).mono ?_
          rintro e w' ⟨rfl, rfl⟩
          go_wp2
          go_ret2
          exact ⟨ret_ib (by rw [HX.out]) (by rw [HX.out]), n, rfl⟩
      · rw [if_neg h0] at hs
        have HX := Lib.hid hs
        obtain rfl : r = 0 := by omega
        clear hs HS'
        go_wp2_with fail
        refine (fsigned q _ _ hq).mono ?_
        rintro e w' ⟨rfl, rfl⟩
        go_wp2
        go_ret2
        exact ⟨ret_ib (by rw [HX.out]) (by rw [HX.out]), n, rfl⟩
set_option maxHeartbeats 1000000 in
theorem fabs (n : Int) (w : World) (h0 : -9223372036854775807 ≤ n) (h1 : n ≤ 9223372036854775807) :
    Calls Tryz.prog 232 #[.int .i64 n] w fun e w' => e = .returned (.tuple #[.int .i64 (n.natAbs : Int), .bool true]) ∧ w = w' := by
  have HS := Lib.hid (fsize n w (by omega) (by omega))
  have hm : n.natAbs ≤ 9223372036854775807 := by omega
  generalize n.natAbs = m at HS hm ⊢
  have HG := Lib.hid (fsigned m false w (by omega))
  rw [sgn_pos, orZ_yes (by omega) (by omega), inI_yes (by omega) (by omega)] at HG
  go_enter Tryz.func232, Tryz.ntmps232
  go_wp2_with fail
  refine HS.out.mono ?_
  rintro e w' ⟨rfl, rfl⟩
  go_wp2_with fail
  refine HG.out.mono ?_
  rintro e w' ⟨rfl, rfl⟩
  go_wp2
  go_ret2
  exact ⟨rfl, rfl⟩
theorem wrap64_sub (a b : Int) (a0 : -9223372036854775808 ≤ a) (a1 : a ≤ 9223372036854775807) (b0 : -9223372036854775808 ≤ b) (b1 : b ≤ 9223372036854775807) :
    wrap64 (a - b) = (if a - b < -9223372036854775808 then a - b + 18446744073709551616 else if 9223372036854775807 < a - b then a - b - 18446744073709551616 else a - b) := by
  unfold wrap64; split
  · omega
  · split <;> omega
set_option maxHeartbeats 400000 in
theorem fsub (a b : Int) (w : World) (a0 : -9223372036854775808 ≤ a) (a1 : a ≤ 9223372036854775807) (b0 : -9223372036854775808 ≤ b) (b1 : b ≤ 9223372036854775807) :
    Calls Tryz.prog 143 #[.int .i64 a, .int .i64 b] w fun e w' => e = .returned (.tuple #[.int .i64 (orZ (a - b)), .bool (inI (a - b))]) ∧ w = w' := by
  by_cases hlo : a - b < -9223372036854775808
  · rw [orZ_no (by omega), inI_no (by omega)]
    have d1 : decide (a < 0) = true := by simp; omega
    have d2 : decide (b < 0) = false := by simp; omega
    have d3 : decide (wrap64 (a - b) < 0) = false := by rw [wrap64_sub a b a0 a1 b0 b1]; simp [hlo]; omega
    clear hlo
    go_enter Tryz.func143, Tryz.ntmps143
    go_wp2
    go_ret2
    exact ⟨rfl, rfl⟩
  · by_cases hhi : 9223372036854775807 < a - b
    · rw [orZ_no (by omega), inI_no (by omega)]
      have d1 : decide (a < 0) = false := by simp; omega
      have d2 : decide (b < 0) = true := by simp; omega
      have d3 : decide (wrap64 (a - b) < 0) = true := by rw [wrap64_sub a b a0 a1 b0 b1]; simp [hlo, hhi]; omega
      clear hlo hhi
      go_enter Tryz.func143, Tryz.ntmps143
      go_wp2
      go_ret2
      exact ⟨rfl, rfl⟩
    · rw [orZ_yes (by omega) (by omega), inI_yes (by omega) (by omega)]
      have hl1 : -9223372036854775808 ≤ a - b := by omega
      have hl2 : a - b ≤ 9223372036854775807 := by omega
      by_cases h1 : a < 0 <;> by_cases h2 : b < 0 <;> by_cases h3 : a - b < 0
      all_goals first | (exfalso; omega) | skip
      all_goals
        go_enter Tryz.func143, Tryz.ntmps143
        go_wp2
        go_ret2
        exact ⟨rfl, rfl⟩
end Go.Proofs.YtikjdmbfjkbndaaGreat
