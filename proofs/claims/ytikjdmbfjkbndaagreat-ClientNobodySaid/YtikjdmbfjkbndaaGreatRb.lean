/- Layer 1 of the reference: size, signed, Mul, MulDiv, Floor. Conditions: those named in each theorem. -/
import Derived.Test.YtikjdmbfjkbndaaGreatW
namespace Go.Proofs.YtikjdmbfjkbndaaGreat
open Go.RowKit
theorem rsize (n : Int) (w : World) (h0 : -9223372036854775808 ≤ n) (h1 : n ≤ 9223372036854775807) :
    Calls Tryz.prog 257 #[.int .i64 n] w fun e w' => e = .returned (.int .u64 (n.natAbs : Int)) ∧ w = w' := by
  by_cases h : n < 0
  · go_enter Tryz.func257, Tryz.ntmps257
    go_wp2
    go_ret
    refine ⟨ret_int ?_, rfl⟩
    omega
  · go_enter Tryz.func257, Tryz.ntmps257
    go_wp2
    go_ret
    refine ⟨ret_int ?_, rfl⟩
    omega

theorem rsigned (m : Nat) (neg : Bool) (hi : Nat) (w : World) (h1 : m ≤ 18446744073709551615) (hh : hi ≤ 18446744073709551615) :
    Calls Tryz.prog 259 #[.bool neg, .int .u64 hi, .int .u64 m] w fun e w' => e = .returned (.tuple #[.int .i64 (orZ (sgn neg (hi * 18446744073709551616 + m))), .bool (inI (sgn neg (hi * 18446744073709551616 + m)))]) ∧ w = w' := by
  by_cases h0 : 0 < hi
  · have hd : decide (0 < hi) = true := by simp [h0]
    have hd' : decide (0 < (hi : Int)) = true := by simp; omega
    have hf : sgn neg (hi * 18446744073709551616 + m) < -9223372036854775808 ∨ 9223372036854775807 < sgn neg (hi * 18446744073709551616 + m) := by
      unfold sgn; split <;> omega
    rw [orZ_no hf, inI_no hf]
    clear hf
    go_enter Tryz.func259, Tryz.ntmps259
    go_wp2
    go_ret2
    exact ⟨rfl, rfl⟩
  · obtain rfl : hi = 0 := by omega
    rw [Nat.zero_mul, Nat.zero_add]
    clear hh h0
    by_cases hbig : 9223372036854775808 < m
    · have hd : decide (9223372036854775808 < (m : Int)) = true := by simp; omega
      have hf : sgn neg m < -9223372036854775808 ∨ 9223372036854775807 < sgn neg m := by
        unfold sgn; split <;> omega
      rw [orZ_no hf, inI_no hf]
      clear hf
      go_enter Tryz.func259, Tryz.ntmps259
      go_wp2
      go_ret2
      exact ⟨rfl, rfl⟩
    · have hd : decide (9223372036854775808 < (m : Int)) = false := by simp; omega
      cases neg
      · rw [sgn_pos]
        by_cases he : m = 9223372036854775808
        · have he' : ((m : Int) == 9223372036854775808) = true := by simp [he]
          rw [orZ_no (by omega), inI_no (by omega)]
          clear he
          go_enter Tryz.func259, Tryz.ntmps259
          go_wp2
          go_ret2
          exact ⟨rfl, rfl⟩
        · have he' : ((m : Int) == 9223372036854775808) = false := by simp; omega
          have hm : m ≤ 9223372036854775807 := by omega
          rw [orZ_yes (by omega) (by omega), inI_yes (by omega) (by omega)]
          go_enter Tryz.func259, Tryz.ntmps259
          go_wp2
          go_ret2
          exact ⟨rfl, rfl⟩
      · rw [sgn_neg]
        rw [orZ_yes (by omega) (by omega), inI_yes (by omega) (by omega)]
        by_cases hz : m = 0
        · subst hz
          go_enter Tryz.func259, Tryz.ntmps259
          go_wp2
          go_ret2
          exact ⟨ret_ib (by simp) rfl, rfl⟩
        · have hz' : ((m : Int) == 0) = false := by simp; omega
          have hm1 : 0 ≤ (m : Int) - 1 := by omega
          by_cases he : m = 9223372036854775808
          · have he' : ((m : Int) == 9223372036854775808) = true := by simp [he]
            clear he
            go_enter Tryz.func259, Tryz.ntmps259
            go_wp2
            go_ret2
            exact ⟨ret_ib (by omega) rfl, rfl⟩
          · have he' : ((m : Int) == 9223372036854775808) = false := by simp; omega
            go_enter Tryz.func259, Tryz.ntmps259
            go_wp2
            go_ret2
            exact ⟨ret_ib (by omega) rfl, rfl⟩


theorem ret_ii {k k' : IntKind} {a b c d : Int} (h : a = b) (h2 : c = d) : Ending.returned (.tuple #[.int k a, .int k' c]) = .returned (.tuple #[.int k b, .int k' d]) := by rw [h, h2]
theorem prod_bd {a b : Nat} (ha : a < 4294967296) (hb : b < 4294967296) : a * b ≤ 18446744065119617025 := by
  have := Nat.mul_le_mul (Nat.le_of_lt_succ ha) (Nat.le_of_lt_succ hb)
  omega
theorem prod_sum (a1 a0 b1 b0 p11 p10 p01 p00 : Nat) (h1 : a1 * b1 = p11) (h2 : a1 * b0 = p10) (h3 : a0 * b1 = p01) (h4 : a0 * b0 = p00) :
    (a1 * 4294967296 + a0) * (b1 * 4294967296 + b0) = p11 * 18446744073709551616 + (p10 + p01) * 4294967296 + p00 := by grind
theorem word_halves (x : Nat) (h : x < 18446744073709551616) : ∃ a1 a0 : Nat, a1 < 4294967296 ∧ a0 < 4294967296 ∧ x = a1 * 4294967296 + a0 ∧ (x : Int) / 4294967296 = a1 ∧ (x : Int) % 4294967296 = a0 :=
  ⟨x / 4294967296, x % 4294967296, by omega, by omega, by omega, by omega, by omega⟩

set_option maxHeartbeats 1000000 in
theorem rproduct (x y : Nat) (hx : x < 18446744073709551616) (hy : y < 18446744073709551616) (w : World) :
    Calls Tryz.prog 256 #[.int .u64 x, .int .u64 y] w fun e w' => ∃ hi lo : Nat, e = .returned (.tuple #[.int .u64 hi, .int .u64 lo]) ∧ w = w' ∧ Hid (x * y = hi * 18446744073709551616 + lo) ∧ lo ≤ 18446744073709551615 ∧ hi ≤ 18446744073709551615 := by
  obtain ⟨a1, a0, ha1, ha0, hxe, hx1, hx0⟩ := word_halves x hx
  obtain ⟨b1, b0, hb1, hb0, hye, hy1, hy0⟩ := word_halves y hy
  obtain ⟨p11, e11⟩ : ∃ p, a1 * b1 = p := ⟨_, rfl⟩
  obtain ⟨p10, e10⟩ : ∃ p, a1 * b0 = p := ⟨_, rfl⟩
  obtain ⟨p01, e01⟩ : ∃ p, a0 * b1 = p := ⟨_, rfl⟩
  obtain ⟨p00, e00⟩ : ∃ p, a0 * b0 = p := ⟨_, rfl⟩
  have q11 : p11 ≤ 18446744065119617025 := e11 ▸ prod_bd ha1 hb1
  have q10 : p10 ≤ 18446744065119617025 := e10 ▸ prod_bd ha1 hb0
  have q01 : p01 ≤ 18446744065119617025 := e01 ▸ prod_bd ha0 hb1
  have q00 : p00 ≤ 18446744065119617025 := e00 ▸ prod_bd ha0 hb0
  have hs := prod_sum a1 a0 b1 b0 p11 p10 p01 p00 e11 e10 e01 e00
  rw [← hxe, ← hye] at hs
  have f11 : (a1 : Int) * b1 = p11 := by rw [← e11]; simp
  have f10 : (a1 : Int) * b0 = p10 := by rw [← e10]; simp
  have f01 : (a0 : Int) * b1 = p01 := by rw [← e01]; simp
  have f00 : (a0 : Int) * b0 = p00 := by rw [← e00]; simp
  obtain ⟨l1, l0, hl1, hl0, hle, hL1, hL0⟩ := word_halves p00 (by omega)
  obtain ⟨mid, hmid⟩ : ∃ m, p10 + l1 = m := ⟨_, rfl⟩
  have fmid : (p10 : Int) + l1 = mid := by rw [← hmid]; simp
  obtain ⟨m1, m0, hm1, hm0, hme, hM1, hM0⟩ := word_halves mid (by omega)
  obtain ⟨more, hmore⟩ : ∃ m, p01 + m0 = m := ⟨_, rfl⟩
  have fmore : (p01 : Int) + m0 = more := by rw [← hmore]; simp
  obtain ⟨o1, o0, ho1, ho0, hoe, hO1, hO0⟩ := word_halves more (by omega)
  have hsum : x * y = (p11 + m1 + o1) * 18446744073709551616 + (o0 * 4294967296 + l0) := by
    rw [hs]
    have : mid ≤ 18446744073709551615 := by omega
    omega
  have hb1' : p11 + m1 + o1 ≤ 18446744073709551615 := by omega
  have hb2' : o0 * 4294967296 + l0 ≤ 18446744073709551615 := by omega
  have HS := Lib.hid hsum
  have hmb : mid ≤ 18446744073709551615 := by omega
  have hob : more ≤ 18446744073709551615 := by omega
  clear hs hsum hxe hye e11 e10 e01 e00 hle hme hoe hmid hmore
  go_enter Tryz.func256, Tryz.ntmps256
  go_wp2
  go_ret2
  exact ⟨p11 + m1 + o1, o0 * 4294967296 + l0, ret_ii (by omega) (by omega), rfl, HS, hb2', hb1'⟩

set_option maxHeartbeats 400000 in
theorem rmul (a b : Int) (w : World) (a0 : -9223372036854775808 ≤ a) (a1 : a ≤ 9223372036854775807) (b0 : -9223372036854775808 ≤ b) (b1 : b ≤ 9223372036854775807) :
    Calls Tryz.prog 302 #[.int .i64 a, .int .i64 b] w fun e w' => e = .returned (.tuple #[.int .i64 (orZ (a * b)), .bool (inI (a * b))]) ∧ w = w' := by
  have hx : a.natAbs ≤ 9223372036854775808 := by omega
  have hy : b.natAbs ≤ 9223372036854775808 := by omega
  obtain ⟨p, hp⟩ : ∃ p, p = a * b := ⟨_, rfl⟩
  rw [← hp]
  have HP := Lib.hid hp; clear hp
  go_enter Tryz.func302, Tryz.ntmps302
  go_wp2_with fail
  refine (rsize a w a0 a1).mono ?_
  rintro e w' ⟨rfl, rfl⟩
  go_wp2_with fail
  refine (rsize b w b0 b1).mono ?_
  rintro e w' ⟨rfl, rfl⟩
  go_wp2_with fail
  refine (rproduct a.natAbs b.natAbs (by omega) (by omega) w).mono ?_
  rintro e w' ⟨hi, lo, rfl, rfl, HM, hlo, hhi⟩
  have hs := mul_of_sgn (a := a) (b := b) HM.out
  rw [← HP.out] at hs
  have HS := Lib.hid hs; clear hs
  go_wp2_with fail
  refine (rsigned lo _ hi w hlo hhi).mono ?_
  rintro e w' ⟨rfl, rfl⟩
  go_wp2_with fail
  go_ret2
  exact ⟨ret_ib (by rw [HS.out]) (by rw [HS.out]), rfl⟩

/-- what the loop of divide keeps -/
def DivRel (N c : Nat) (vh vl vq1 vq0 vr vi : Value) : Prop :=
  ∃ (h l q1 q0 r k : Nat), DivInv N c k h l q1 q0 r ∧ k ≤ 128 ∧ vh = .int .u64 h ∧ vl = .int .u64 l ∧ vq1 = .int .u64 q1 ∧ vq0 = .int .u64 q0 ∧ vr = .int .u64 r ∧ vi = .int .i64 k

set_option maxRecDepth 100000 in
set_option maxHeartbeats 2000000 in
theorem rdivide (hi lo c : Nat) (hh : hi < 18446744073709551616) (hl : lo < 18446744073709551616) (hc0 : 0 < c) (hc : c < 18446744073709551616) (w : World) :
    Calls Tryz.prog 258 #[.int .u64 hi, .int .u64 lo, .int .u64 c] w fun e w' => ∃ q1 q0 r : Nat, e = .returned (.tuple #[.int .u64 q1, .int .u64 q0, .int .u64 r]) ∧ w = w' ∧ Hid ((q1 * 18446744073709551616 + q0) * c + r = hi * 18446744073709551616 + lo ∧ r < c) ∧ q0 ≤ 18446744073709551615 := by
  obtain ⟨N, hN⟩ : ∃ N, N = hi * 18446744073709551616 + lo := ⟨_, rfl⟩
  have hst := DivInv.start hi lo c hc0 hh hl
  rw [← hN] at hst
  have HST := Lib.hid hst
  have HN : Hid (N < 340282366920938463463374607431768211456) := Lib.hid (by omega)
  have HNE := Lib.hid hN
  clear hst hN
  go_enter Tryz.func258, Tryz.ntmps258
  go_wp2
  go_loop [0, 1, 9, 10, 11, 12, 13] (fun vh vl vq1 vq0 vr vi _ => DivRel N c vh vl vq1 vq0 vr vi)
    (fun _ _ _ _ _ vi _ => 128 - (intOf vi).toNat)
  case atStart => exact ⟨hi, lo, 0, 0, 0, 0, HST.out, by omega, rfl, rfl, rfl, rfl, rfl, rfl⟩
  case round =>
    obtain ⟨h, l, q1, q0, r, k, hi0, h6, rfl, rfl, rfl, rfl, rfl, rfl⟩ := hrel
    have HI := Lib.hid hi0
    clear HST
    by_cases hk : k < 128
    · have hq1 := hi0.q1b HN.out hk
      have hrc := hi0.lt
      obtain ⟨th, dh, th1, eh, bh, ph, xh, yh⟩ := shl1 h hi0.h0
      obtain ⟨tl, dl, tl1, el, bl, pl, xl, yl⟩ := shl1 l hi0.l0
      obtain ⟨tq, dq0, tq1, eq0, bq0, pq0, xq, yq⟩ := shl1 q0 hi0.q0b
      obtain ⟨tr, dr, tr1, er, br, pr, xr, yr⟩ := shl1 r (by omega)
      obtain ⟨tz, dq1, tz1, eq1, bq1, pq1, _, yq1⟩ := shl1 q1 (by omega)
      obtain rfl : tz = 0 := by omega
      obtain ⟨r1, er1, zr⟩ := or_bit br pr th1
      obtain ⟨h1, eh1, zh⟩ := or_bit bh ph tl1
      obtain ⟨q11, eq11, zq⟩ := or_bit bq1 pq1 tq1
      obtain ⟨q01, eq01, z0'⟩ := or_bit bq0 pq0 (t := 1) (by omega)
      have z0 : bits BinOp.or IntKind.u64 (dq0 : Int) 1 = (q01 : Int) := z0'
      clear z0'
      by_cases ht : c ≤ tr * 18446744073709551616 + (dr + th)
      · obtain ⟨R, hR⟩ : ∃ R, R + c = tr * 18446744073709551616 + (dr + th) := ⟨tr * 18446744073709551616 + (dr + th) - c, by omega⟩
        have hnew := HI.out.take (dq1 := dq1) eh el (by omega) eq0 er bh ph pq0 bl bq0 th1 tl1 R hR
        rw [← eh1, ← eq11, ← eq01] at hnew
        have HW := Lib.hid hnew
        have hw : IntKind.u64.wrap ((r1 : Int) - (c : Int)) = (R : Int) := by rw [IntKind.wrap_u64]; omega
        have hcs : tr = 1 ∨ (tr = 0 ∧ c ≤ r1) := by omega
        have hr1 : r1 < 18446744073709551616 := by omega
        clear eh el eq0 er eq1 hR ht HI hi0 hnew er1 eh1 eq11 eq01 ph pl pq0 pr pq1
        rcases hcs with rfl | ⟨rfl, hle⟩
        · go_wp2
          go_round
          case rel => exact ⟨_, _, _, _, _, k + 1, HW.out, by omega, rfl, rfl, rfl, rfl, rfl, by go_num⟩
          case measure => simp [intOf]; omega
        · go_wp2
          go_round
          case rel => exact ⟨_, _, _, _, _, k + 1, HW.out, by omega, rfl, rfl, rfl, rfl, rfl, by go_num⟩
          case measure => simp [intOf]; omega
      · obtain rfl : tr = 0 := by omega
        have hnew := HI.out.skip (dq1 := dq1) (dr := dr) eh el (by omega) eq0 (by omega) bh ph bl bq0 tl1 (by omega)
        rw [← eh1, ← eq11, ← er1] at hnew
        have HW := Lib.hid hnew
        have hlt : r1 < c := by omega
        clear eh el eq0 er eq1 ht HI hi0 hnew er1 eh1 eq11 eq01 ph pl pq0 pr pq1
        go_wp2
        go_round
        case rel => exact ⟨_, _, _, _, _, k + 1, HW.out, by omega, rfl, rfl, rfl, rfl, rfl, by go_num⟩
        case measure => simp [intOf]; omega
    · obtain rfl : k = 128 := by omega
      have hd := Lib.hid hi0.done
      have hb := hi0.q0b
      clear hi0 HI
      go_wp2
      go_ret3
      exact ⟨q1, q0, r, rfl, rfl, Lib.hid (by rw [← HNE.out]; exact hd.out), by omega⟩

theorem ediv_pos {Q c r N : Nat} (h : Q * c + r = N) (hr : r < c) : (N : Int) / (c : Int) = Q := by
  have e : (N : Int) = r + c * Q := by rw [← h, Int.natCast_add, Int.natCast_mul, Int.mul_comm]; omega
  rw [e, Int.add_mul_ediv_left _ _ (by omega), Int.ediv_eq_zero_of_lt (by omega) (by omega)]; omega
theorem ediv_neg0 {Q c N : Nat} (h : Q * c + 0 = N) (hr : 0 < c) : -(N : Int) / (c : Int) = -(Q : Int) := by
  have e : -(N : Int) = 0 + c * (-(Q : Int)) := by rw [← h, Int.natCast_add, Int.natCast_mul, Int.mul_comm, Int.mul_neg]; omega
  rw [e, Int.add_mul_ediv_left _ _ (by omega), Int.ediv_eq_zero_of_lt (by omega) (by omega)]; omega
theorem ediv_neg1 {Q c r N : Nat} (h : Q * c + r = N) (hr : r < c) (h0 : 0 < r) : -(N : Int) / (c : Int) = -((Q + 1 : Nat) : Int) := by
  have e : -(N : Int) = (c - r) + c * (-((Q + 1 : Nat) : Int)) := by rw [← h, Int.natCast_add, Int.natCast_mul, Int.natCast_add, Int.mul_neg, Int.mul_add, Int.mul_comm (c : Int)]; simp; omega
  rw [e, Int.add_mul_ediv_left _ _ (by omega), Int.ediv_eq_zero_of_lt (by omega) (by omega)]; omega

theorem sgn_div {a b c : Int} {C Q r N : Nat} (hc : c = C) (hN : a.natAbs * b.natAbs = N) (h : Q * C + r = N) (hr : r < C) :
    (a * b) / c = if (!(decide (a < 0) == decide (b < 0))) = true ∧ 0 < r then sgn true (Q + 1) else sgn (!(decide (a < 0) == decide (b < 0))) Q := by
  rw [mul_of_sgn hN, hc]
  cases hs : !(decide (a < 0) == decide (b < 0))
  · simp [sgn, ediv_pos h hr]
  · by_cases h0 : 0 < r
    · rw [if_pos ⟨rfl, h0⟩, sgn_neg, sgn_neg, ediv_neg1 h hr h0]
    · obtain rfl : r = 0 := by omega
      rw [if_neg (by omega), sgn_neg, sgn_neg, ediv_neg0 h (by omega)]

theorem quot_bd {q1 q0 c r hi lo N : Nat} (h : (q1 * 18446744073709551616 + q0) * c + r = hi * 18446744073709551616 + lo) (hc : 0 < c) (hN : N = hi * 18446744073709551616 + lo) (hb : N ≤ 85070591730234615865843651857942052864) : q1 ≤ 4611686018427387904 := by
  have h1 : q1 * 18446744073709551616 + q0 ≤ (q1 * 18446744073709551616 + q0) * c := Nat.le_mul_of_pos_right _ hc
  rw [← hN] at h
  clear hN
  generalize (q1 * 18446744073709551616 + q0) * c = X at h h1
  omega
theorem abs_prod {a b : Nat} (ha : a ≤ 9223372036854775808) (hb : b ≤ 9223372036854775808) : a * b ≤ 85070591730234615865843651857942052864 := Nat.mul_le_mul ha hb

set_option maxRecDepth 100000 in
set_option maxHeartbeats 2000000 in
theorem rmuldiv (a b c : Int) (w : World) (a0 : -9223372036854775808 ≤ a) (a1 : a ≤ 9223372036854775807) (b0 : -9223372036854775808 ≤ b) (b1 : b ≤ 9223372036854775807) (c0 : 0 < c) (c1 : c ≤ 9223372036854775807) :
    Calls Tryz.prog 199 #[.int .i64 a, .int .i64 b, .int .i64 c] w fun e w' => e = .returned (.tuple #[.int .i64 (orZ (a * b / c)), .bool (inI (a * b / c))]) ∧ w = w' := by
  have hx : a.natAbs ≤ 9223372036854775808 := by omega
  have hy : b.natAbs ≤ 9223372036854775808 := by omega
  have hcz : (c == 0) = false := by simp; omega
  have hcn : decide (c < 0) = false := by simp; omega
  obtain ⟨p, hp⟩ : ∃ p, p = a * b / c := ⟨_, rfl⟩
  rw [← hp]
  have HP := Lib.hid hp; clear hp
  go_enter Tryz.func199, Tryz.ntmps199
  go_wp2_with fail
  refine (rsize a w a0 a1).mono ?_
  rintro e w' ⟨rfl, rfl⟩
  go_wp2_with fail
  refine (rsize b w b0 b1).mono ?_
  rintro e w' ⟨rfl, rfl⟩
  go_wp2_with fail
  refine (rproduct a.natAbs b.natAbs (by omega) (by omega) w).mono ?_
  rintro e w' ⟨hi, lo, rfl, rfl, HM, hlo, hhi⟩
  go_wp2_with fail
  refine (rsize c w (by omega) c1).mono ?_
  rintro e w' ⟨rfl, rfl⟩
  go_wp2_with fail
  refine (rdivide hi lo c.natAbs (by omega) (by omega) (by omega) (by omega) w).mono ?_
  rintro e w' ⟨q1, q0, r, rfl, rfl, HD, hq0⟩
  have hq1 := quot_bd HD.out.1 (by omega) HM.out (abs_prod hx hy)
  have hs := sgn_div (a := a) (b := b) (c := c) (C := c.natAbs) (by omega) HM.out HD.out.1 HD.out.2
  rw [← HP.out] at hs
  have hr64 : r ≤ 9223372036854775807 := by have := HD.out.2; omega
  have HS := Lib.hid hs; clear hs HD HM HP
  cases hneg : !(decide (a < 0) == decide (b < 0))
  · rw [hneg] at HS
    have hs := HS.out
    simp only [Bool.false_eq_true, false_and, if_false] at hs
    have HS' := Lib.hid hs; clear hs HS
    go_wp2_with fail
    refine (rsigned q0 _ q1 w hq0 (by omega)).mono ?_
    rintro e w' ⟨rfl, rfl⟩
    go_wp2_with fail
    go_ret2
    exact ⟨ret_ib (by rw [HS'.out]) (by rw [HS'.out]), rfl⟩
  · rw [hneg] at HS
    have hs := HS.out
    simp only [true_and] at hs
    by_cases h0 : 0 < r
    · rw [if_pos h0] at hs
      have hd0 : decide (0 < r) = true := by simp [h0]
      have hd1 : decide (0 < (r : Int)) = true := by simp; omega
      clear HS
      by_cases hz : q0 = 18446744073709551615
      · have hs' : p = sgn true ((q1 + 1) * 18446744073709551616) := by rw [hs]; exact congrArg (sgn true) (by omega)
        have HS' := Lib.hid hs'; clear hs hs'
        subst hz
        go_wp2_with fail
        refine (rsigned 0 _ (q1 + 1) w (by omega) (by omega)).mono ?_
        rintro e w' ⟨rfl, rfl⟩
        go_wp2_with fail
        go_ret2
        exact ⟨ret_ib (by rw [HS'.out]) (by rw [HS'.out]), rfl⟩
      · have hs' : p = sgn true (q1 * 18446744073709551616 + (q0 + 1)) := by rw [hs]; exact congrArg (sgn true) (by omega)
        have HS' := Lib.hid hs'; clear hs hs'
        have hz1 : (((q0 + 1 : Nat) : Int) == 0) = false := by simp; omega
        have hz2 : ((q0 : Int) + 1 == 0) = false := by simp; omega
        have hz3 : q0 + 1 ≤ 18446744073709551615 := by omega
        go_wp2_with fail
        refine (rsigned (q0 + 1) _ q1 w (by omega) (by omega)).mono ?_
        rintro e w' ⟨rfl, rfl⟩
        go_wp2_with fail
        go_ret2
        exact ⟨ret_ib (by rw [HS'.out]) (by rw [HS'.out]), rfl⟩
    · rw [if_neg h0] at hs
      have HS' := Lib.hid hs; clear hs HS
      obtain rfl : r = 0 := by omega
      go_wp2_with fail
      refine (rsigned q0 _ q1 w hq0 (by omega)).mono ?_
      rintro e w' ⟨rfl, rfl⟩
      go_wp2_with fail
      go_ret2
      exact ⟨ret_ib (by rw [HS'.out]) (by rw [HS'.out]), rfl⟩

theorem rfloor (a b : Int) (w : World) (a0 : -9223372036854775808 ≤ a) (a1 : a ≤ 9223372036854775807) (b0 : 0 < b) (b1 : b ≤ 9223372036854775807) :
    Calls Tryz.prog 188 #[.int .i64 a, .int .i64 b] w fun e w' => e = .returned (.tuple #[.int .i64 (a / b), .bool true]) ∧ w = w' := by
  obtain ⟨e0, e1, _⟩ := ediv_bd a b a0 a1 b0
  have hm := rmuldiv a 1 b w a0 a1 (by omega) (by omega) b0 b1
  rw [Int.mul_one, orZ_yes e0 e1, inI_yes e0 e1] at hm
  go_enter Tryz.func188, Tryz.ntmps188
  go_wp2_with fail
  refine hm.mono ?_
  rintro e w' ⟨rfl, rfl⟩
  go_wp2_with fail
  go_ret2
  exact ⟨rfl, rfl⟩
end Go.Proofs.YtikjdmbfjkbndaaGreat
