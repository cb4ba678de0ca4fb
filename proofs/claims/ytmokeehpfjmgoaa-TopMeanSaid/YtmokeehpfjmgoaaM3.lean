/- fixed.MulDiv where the first factor is at most the divisor, Abs, and that Sqrt returns. Conditions: those named in each theorem. -/
import Derived.Test.YtmokeehpfjmgoaaM2
namespace Go.Proofs.Ytmokeehpfjmgoaa
open Go.RowKit

theorem md_words {a b c : Nat} {hi lo : Nat} (h : a * b = hi * 18446744073709551616 + lo) (hac : a ≤ c) (hc : 0 < c) (hb : b ≤ 18014398509481984) : hi < c ∧ (a * b) / c ≤ 18014398509481984 := by
  have h1 : a * b ≤ c * 18014398509481984 := Nat.mul_le_mul hac hb
  refine ⟨?_, ?_⟩
  · rw [h] at h1; omega
  · exact Nat.le_trans (Nat.div_le_div_right h1) (by rw [Nat.mul_comm, Nat.mul_div_cancel _ hc]; exact Nat.le_refl _)
theorem md_neg {N c : Nat} (hc : 0 < c) : (-(N : Int)) / (c : Int) = if N % c = 0 then -((N / c : Nat) : Int) else -((N / c + 1 : Nat) : Int) := by
  have h := Nat.div_add_mod N c
  have hm := Nat.mod_lt N hc
  have h' : (N : Int) = (c : Int) * ((N / c : Nat) : Int) + ((N % c : Nat) : Int) := by exact_mod_cast h.symm
  by_cases h0 : N % c = 0
  · rw [if_pos h0, h', h0]
    have : (-((c : Int) * ((N / c : Nat) : Int) + ((0 : Nat) : Int))) = (c : Int) * (-((N / c : Nat) : Int)) := by rw [Int.mul_neg]; simp
    rw [this, Int.mul_ediv_cancel_left _ (by omega)]
  · rw [if_neg h0]
    refine (Int.ediv_eq_iff_of_pos (by omega)).2 ⟨?_, ?_⟩
    · generalize N / c = q at *
      generalize N % c = r at *
      have : (-((q + 1 : Nat) : Int)) * (c : Int) = -((c : Int) * (q : Int)) - (c : Int) := by
        push_cast
        rw [Int.neg_mul, Int.add_mul, Int.one_mul, Int.mul_comm]; omega
      rw [this]; omega
    · generalize N / c = q at *
      generalize N % c = r at *
      have : (-((q + 1 : Nat) : Int)) * (c : Int) = -((c : Int) * (q : Int)) - (c : Int) := by
        push_cast
        rw [Int.neg_mul, Int.add_mul, Int.one_mul, Int.mul_comm]; omega
      rw [this]; omega
theorem natAbs_pos {b : Int} (h : 0 ≤ b) : ((b.natAbs : Nat) : Int) = b := by omega
theorem natAbs_neg' {b : Int} (h : b < 0) : ((b.natAbs : Nat) : Int) = -b := by omega
/-- the part of a number, rounded down -/
theorem md_val {a b c : Int} (ha : 0 ≤ a) (hc : 0 < c) : a * b / c = if b < 0 then (if (a.natAbs * b.natAbs) % c.natAbs = 0 then -((a.natAbs * b.natAbs / c.natAbs : Nat) : Int) else -((a.natAbs * b.natAbs / c.natAbs + 1 : Nat) : Int)) else ((a.natAbs * b.natAbs / c.natAbs : Nat) : Int) := by
  have e1 := natAbs_pos ha
  have e3 := natAbs_pos (Int.le_of_lt hc)
  by_cases hb : b < 0
  · rw [if_pos hb, ← md_neg (by omega), e3]
    congr 1
    have := natAbs_neg' hb
    push_cast
    rw [e1, this, Int.mul_neg, Int.neg_neg]
  · rw [if_neg hb]
    have := natAbs_pos (b := b) (by omega)
    push_cast
    rw [e1, e3, this]
theorem md_bd {a b c : Int} (ha : 0 ≤ a) (hac : a ≤ c) (hc : 0 < c) : (0 ≤ b → 0 ≤ a * b / c ∧ a * b / c ≤ b) ∧ (b < 0 → b ≤ a * b / c ∧ a * b / c ≤ 0) := by
  refine ⟨fun hb => ⟨Int.ediv_nonneg (Int.mul_nonneg ha hb) (by omega), ?_⟩, fun hb => ⟨?_, ?_⟩⟩
  · refine Int.ediv_le_of_le_mul hc ?_
    rw [Int.mul_comm b c]
    exact Int.mul_le_mul_of_nonneg_right hac hb
  · rw [Int.le_ediv_iff_mul_le hc, Int.mul_comm b c]
    exact Int.mul_le_mul_of_nonpos_right hac (by omega)
  · refine Int.ediv_le_of_le_mul hc ?_
    rw [Int.zero_mul]
    exact Int.mul_nonpos_of_nonneg_of_nonpos ha (by omega)
set_option maxRecDepth 100000 in
set_option maxHeartbeats 1000000 in
theorem muldiv (a b c : Int) (ha : 0 ≤ a) (hac : a ≤ c) (hc : 0 < c) (hcb : c < 17179869184) (hb0 : -18014398509481984 ≤ b) (hb1 : b ≤ 18014398509481984) (w : World) :
    Calls Try.prog 33 #[.int .i64 a, .int .i64 b, .int .i64 c] w fun e w' => e = .returned (.tuple #[.int .i64 (a * b / c), .bool true]) ∧ ∃ n, w' = w.drewN n := by
  have hv := md_val (b := b) ha hc
  obtain ⟨res, hres⟩ : ∃ res, a * b / c = res := ⟨_, rfl⟩
  rw [hres] at hv ⊢
  have hna : decide (a < 0) = false := by rw [decide_eq_false_iff_not]; omega
  have hnc : decide (c < 0) = false := by rw [decide_eq_false_iff_not]; omega
  have s1 := fsize a w (by omega) (by omega)
  have s2 := fsize b w (by omega) (by omega)
  have s3 := fun w => fsize c w (by omega) (by omega)
  obtain ⟨A, hA⟩ : ∃ A, a.natAbs = A := ⟨_, rfl⟩
  obtain ⟨B, hB⟩ : ∃ B, b.natAbs = B := ⟨_, rfl⟩
  obtain ⟨C, hC⟩ : ∃ C, c.natAbs = C := ⟨_, rfl⟩
  rw [hA, hB, hC] at hv
  rw [hA] at s1
  rw [hB] at s2
  simp only [hC] at s3
  have S1 := Lib.hid s1; have S2 := Lib.hid s2; have S3 := Lib.hid s3; have HV := Lib.hid hv
  have hB1 : B ≤ 18014398509481984 := by omega
  have hAC : A ≤ C := by omega
  have hC0 : 0 < C := by omega
  have hCb : C < 17179869184 := by omega
  clear s1 s2 s3 hv hres hA hB hC
  go_enter Try.func33, Try.ntmps33
  go_wp2_with fail
  refine S1.out.mono ?_
  rintro e w' ⟨rfl, rfl⟩
  go_wp2_with fail
  refine S2.out.mono ?_
  rintro e w' ⟨rfl, rfl⟩
  go_wp2_with fail
  refine (mul64 A B (by omega) (by omega) w).mono ?_
  rintro e w' ⟨hi, lo, rfl, rfl, hm, hlo⟩
  obtain ⟨hhi, hq⟩ := md_words hm.out hAC hC0 hB1
  have HM := Lib.hid hm.out; have HHI := Lib.hid hhi; have HQ := Lib.hid hq; have HLO := Lib.hid hlo
  have hd := div64 hi lo C hhi (by omega) hCb w
  rw [← hm.out] at hd
  have HD := Lib.hid hd
  clear hd hm hhi hq hlo
  go_wp2_with fail
  refine (S3.out _).mono ?_
  rintro e w' ⟨rfl, rfl⟩
  have t1 : ¬ (C : Int) ≤ (hi : Int) := by have := HHI.out; omega
  have t2 : decide ((C : Int) ≤ (hi : Int)) = false := decide_eq_false t1
  go_wp2_with fail
  refine (S3.out _).mono ?_
  rintro e w' ⟨rfl, rfl⟩
  go_wp2_with fail
  refine HD.out.mono ?_
  rintro e w1 ⟨rfl, n, rfl⟩
  obtain ⟨q, hqe⟩ : ∃ q, A * B / C = q := ⟨_, rfl⟩
  obtain ⟨r, hre⟩ : ∃ r, A * B % C = r := ⟨_, rfl⟩
  rw [hqe] at HQ HV ⊢
  rw [hre] at HV ⊢
  have hq := HQ.out
  clear HD hqe hre t1 t2
  by_cases hb : b < 0
  · have hdb : decide (b < 0) = true := decide_eq_true hb
    have hv := HV.out
    rw [if_pos hb] at hv
    by_cases hr : r = 0
    · rw [if_pos hr] at hv
      subst hr
      have HS := Lib.hid (fsigned q true (w.drewN n) (by omega))
      rw [sgn_neg, orZ_yes (by omega) (by omega), inI_yes (by omega) (by omega)] at HS
      have HW := Lib.hid hv
      clear hv hb HV
      go_wp2_with fail
      refine HS.out.mono ?_
      rintro e w' ⟨rfl, rfl⟩
      go_wp2
      go_ret2
      exact ⟨ret_ib HW.out.symm rfl, n, rfl⟩
    · rw [if_neg hr] at hv
      have r1 : ((r : Int) != 0) = true := by rw [bne_iff_ne]; omega
      have HS := Lib.hid (fsigned (q + 1) true (w.drewN n) (by omega))
      rw [sgn_neg, orZ_yes (by omega) (by omega), inI_yes (by omega) (by omega)] at HS
      have HW := Lib.hid hv
      have q1 : ((q : Int) == 18446744073709551615) = false := by rw [beq_eq_false_iff_ne]; omega
      obtain ⟨q2, hq2⟩ : ∃ q2, q + 1 = q2 := ⟨_, rfl⟩
      have hq3 : (q : Int) + 1 = (q2 : Int) := by omega
      rw [hq2] at HS HW
      clear hv hb HV hr hq2
      go_wp2_with fail
      refine HS.out.mono ?_
      rintro e w' ⟨rfl, rfl⟩
      go_wp2
      go_ret2
      exact ⟨ret_ib HW.out.symm rfl, n, rfl⟩
  · have hdb : decide (b < 0) = false := decide_eq_false hb
    have hv := HV.out
    rw [if_neg hb] at hv
    have HS := Lib.hid (fsigned q false (w.drewN n) (by omega))
    rw [sgn_pos, orZ_yes (by omega) (by omega), inI_yes (by omega) (by omega)] at HS
    have HW := Lib.hid hv
    clear hv hb HV
    go_wp2_with fail
    refine HS.out.mono ?_
    rintro e w' ⟨rfl, rfl⟩
    go_wp2
    go_ret2
    exact ⟨ret_ib HW.out.symm rfl, n, rfl⟩
set_option maxHeartbeats 1000000 in
theorem fabs (n : Int) (w : World) (h0 : -9223372036854775807 ≤ n) (h1 : n ≤ 9223372036854775807) :
    Calls Try.prog 34 #[.int .i64 n] w fun e w' => e = .returned (.tuple #[.int .i64 (n.natAbs : Int), .bool true]) ∧ w = w' := by
  have HS := Lib.hid (fsize n w (by omega) (by omega))
  have hm : n.natAbs ≤ 9223372036854775807 := by omega
  generalize n.natAbs = m at HS hm ⊢
  have HG := Lib.hid (fsigned m false w (by omega))
  rw [sgn_pos, orZ_yes (by omega) (by omega), inI_yes (by omega) (by omega)] at HG
  go_enter Try.func34, Try.ntmps34
  go_wp2_with fail
  refine HS.out.mono ?_
  rintro e w' ⟨rfl, rfl⟩
  go_wp2_with fail
  refine HG.out.mono ?_
  rintro e w' ⟨rfl, rfl⟩
  go_wp2
  go_ret2
  exact ⟨rfl, rfl⟩
theorem or_any (a b : Nat) (ha : a < 18446744073709551616) (hb : b < 18446744073709551616) : ∃ c : Nat, c < 18446744073709551616 ∧ bits BinOp.or IntKind.u64 (a : Int) (b : Int) = (c : Int) :=
  ⟨a ||| b, Nat.or_lt_two_pow (n := 64) ha hb, bits_or_u64_nat a b ha hb⟩
/-- some int and some bool -/
def SqR (e : Ending) : Prop := ∃ (r : Int) (b : Bool), -9223372036854775808 ≤ r ∧ r ≤ 9223372036854775807 ∧ e = .returned (.tuple #[.int .i64 r, .bool b])
set_option maxRecDepth 100000 in
set_option maxHeartbeats 1000000 in
theorem fsqrt (n : Int) (w : World) (h0 : -9223372036854775808 ≤ n) (h1 : n ≤ 9223372036854775807) :
    Calls Try.prog 41 #[.int .i64 n] w fun e w' => SqR e ∧ w = w' := by
  by_cases hn : n < 0
  · go_enter Try.func41, Try.ntmps41
    go_wp2
    go_ret2
    exact ⟨⟨0, false, by omega, by omega, rfl⟩, rfl⟩
  · go_enter Try.func41, Try.ntmps41
    go_wp2_with fail
    go_loop [4, 9] (fun vr vk => ∃ (r k : Nat), vr = .int .u64 r ∧ vk = .int .i64 k ∧ r < 18446744073709551616 ∧ k ≤ 32) (fun _ vk => 32 - (intOf vk).toNat)
    case atStart => exact ⟨0, 0, rfl, rfl, by omega, by omega⟩
    case round =>
      obtain ⟨r, k, rfl, rfl, hr, hk⟩ := hrel
      by_cases hk2 : k < 32
      · have hp : 2 ^ (31 - k) ≤ 2 ^ 31 := Nat.pow_le_pow_right (by omega) (by omega)
        obtain ⟨x, hx1, hx2⟩ := or_any r (2 ^ (31 - k)) hr (by omega)
        obtain ⟨j, hj⟩ : ∃ j, 31 - k = j := ⟨_, rfl⟩
        have hj2 : (31 : Int) - (k : Int) = (j : Int) := by omega
        rw [hj] at hx2 hp
        obtain ⟨pw, hpw⟩ : ∃ pw, 2 ^ j = pw := ⟨_, rfl⟩
        have hpi : (2 : Int) ^ j = (pw : Int) := by rw [← hpw]; simp
        rw [hpw] at hx2 hp
        have hm : min j 64 = j := by omega
        clear hpw hj
        obtain ⟨mm, hmm1, hmm2⟩ : ∃ mm : Nat, mm < 18446744073709551616 ∧ IntKind.u64.wrap ((x : Int) * (x : Int)) = (mm : Int) := ⟨(x * x) % 18446744073709551616, by omega, by rw [IntKind.wrap_u64, show (x : Int) * (x : Int) = ((x * x : Nat) : Int) by simp]; omega⟩
        by_cases hle : (mm : Int) ≤ n
        · go_wp2_with fail
          go_round
          case rel => exact ⟨x, k + 1, rfl, by go_num, hx1, by omega⟩
          case measure => simp only [intOf]; omega
        · go_wp2_with fail
          go_round
          case rel => exact ⟨r, k + 1, rfl, by go_num, hr, by omega⟩
          case measure => simp only [intOf]; omega
      · obtain rfl : k = 32 := by omega
        clear hk hk2
        obtain ⟨z, hz⟩ : ∃ z, wrap64 (r : Int) = z := ⟨_, rfl⟩
        have hz2 : -9223372036854775808 ≤ z ∧ z ≤ 9223372036854775807 := by rw [← hz, wrap64]; omega
        go_wp2_with fail
        go_ret2
        exact ⟨⟨z, true, hz2.1, hz2.2, rfl⟩, rfl⟩
end Go.Proofs.Ytmokeehpfjmgoaa
