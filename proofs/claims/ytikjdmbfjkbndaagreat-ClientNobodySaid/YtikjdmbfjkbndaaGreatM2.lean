/- The quotient of two words by one, Go's math/bits.Div64, for any divisor that is greater than the upper word. Conditions: those named in each theorem. -/
import Derived.Test.YtikjdmbfjkbndaaGreatM1
namespace Go.Proofs.YtikjdmbfjkbndaaGreat
open Go.RowKit

theorem two_split (s lo : Nat) (hs : s ≤ 64) : lo * 2 ^ s = (lo / 2 ^ (64 - s)) * 18446744073709551616 + (lo % 2 ^ (64 - s)) * 2 ^ s := by
  have e : 18446744073709551616 = 2 ^ (64 - s) * 2 ^ s := by rw [← Nat.pow_add, show 64 - s + s = 64 by omega]
  rw [e, ← Nat.mul_assoc, ← Nat.add_mul, Nat.mul_comm (lo / _), Nat.div_add_mod]
theorem norm_words (hi lo y s : Nat) (hs : s < 64) (hY : y * 2 ^ s < 18446744073709551616) (hhi : hi < y) (hlo : lo < 18446744073709551616) :
    ∃ H L v : Nat, v < 18446744073709551616 ∧ IntKind.u64.wrap ((y : Int) * 2 ^ s) = ((y * 2 ^ s : Nat) : Int) ∧ IntKind.u64.wrap ((hi : Int) * 2 ^ s) = (H : Int) ∧ (lo : Int) / 2 ^ (64 - s) = (L : Int) ∧ bits BinOp.or IntKind.u64 (H : Int) (L : Int) = ((H + L : Nat) : Int) ∧
      IntKind.u64.wrap ((lo : Int) * 2 ^ s) = (v : Int) ∧ (hi * 18446744073709551616 + lo) * 2 ^ s = (H + L) * 18446744073709551616 + v ∧ H + L < y * 2 ^ s := by
  have hp : 0 < 2 ^ s := Nat.two_pow_pos s
  have hp2 : 0 < 2 ^ (64 - s) := Nat.two_pow_pos _
  have e := two_split s lo (by omega)
  have hm : lo % 2 ^ (64 - s) * 2 ^ s < 18446744073709551616 := by
    have h1 := Nat.mul_lt_mul_of_pos_right (Nat.mod_lt lo hp2) hp
    rw [← Nat.pow_add, show 64 - s + s = 64 by omega] at h1
    exact h1
  have hL : lo / 2 ^ (64 - s) < 2 ^ s := by
    rw [Nat.div_lt_iff_lt_mul hp2, ← Nat.pow_add, show s + (64 - s) = 64 by omega]
    exact hlo
  have hH : hi * 2 ^ s + 2 ^ s ≤ y * 2 ^ s := by
    rw [← Nat.succ_mul]; exact Nat.mul_le_mul_right _ hhi
  have c1 : ((hi : Int) * 2 ^ s) = ((hi * 2 ^ s : Nat) : Int) := by simp
  have c2 : ((lo : Int) * 2 ^ s) = ((lo * 2 ^ s : Nat) : Int) := by simp
  have c3 : ((y : Int) * 2 ^ s) = ((y * 2 ^ s : Nat) : Int) := by simp
  refine ⟨hi * 2 ^ s, lo / 2 ^ (64 - s), lo % 2 ^ (64 - s) * 2 ^ s, hm, ?_, ?_, by simp, ?_, ?_, ?_, by omega⟩
  · rw [c3, IntKind.wrap_u64]; omega
  · rw [c1, IntKind.wrap_u64]; omega
  · exact or_low s (by omega) (by omega) hi (by rw [Nat.mul_comm]) hL
  · rw [c2, e, IntKind.wrap_u64]
    generalize lo / 2 ^ (64 - s) = a
    generalize lo % 2 ^ (64 - s) * 2 ^ s = b at hm
    omega
  · rw [Nat.add_mul, e, Nat.add_mul, Nat.mul_right_comm]; omega
theorem and_low (x : Nat) (h : x < 18446744073709551616) (r : Nat) (hr : (x : Int) % 4294967296 = r) : bits BinOp.and IntKind.u64 (x : Int) 4294967295 = (r : Int) := by
  have h1 := bits_and_u64_nat x 4294967295 h (by omega)
  rw [show (x &&& 4294967295) = x % 2 ^ 32 from Nat.and_two_pow_sub_one_eq_mod x 32] at h1
  refine h1.trans ?_
  rw [← hr]
  rfl
theorem wrap_u64_of (n : Nat) (h : n < 18446744073709551616) : IntKind.u64.wrap (n : Int) = (n : Int) := by
  rw [IntKind.wrap_u64]; omega
theorem dg_end {u d a1 a0 Y q : Nat} (h : q = (u * 4294967296 + d) / (a1 * 4294967296 + a0)) (hY : Y = a1 * 4294967296 + a0) (hu : u < Y) (hd : d < 4294967296) : q < 4294967296 ∧ ∃ r, u * 4294967296 + d = q * Y + r ∧ r < Y := by
  rw [← hY] at h
  have hY0 : 0 < Y := by omega
  refine ⟨?_, (u * 4294967296 + d) % Y, ?_, Nat.mod_lt _ hY0⟩
  · rw [h, Nat.div_lt_iff_lt_mul hY0, Nat.mul_comm 4294967296]
    have := Nat.mul_le_mul_right 4294967296 (Nat.succ_le_of_lt hu)
    rw [Nat.succ_mul] at this
    omega
  · rw [h, Nat.mul_comm _ Y, Nat.div_add_mod]
/-- the product and the difference of one digit, in words -/
theorem un_words {u d q Y r : Nat} (h : u * 4294967296 + d = q * Y + r) (hr : r < 18446744073709551616) : ∃ x1 x2 x3 : Nat, x1 < 18446744073709551616 ∧ x2 < 18446744073709551616 ∧ x3 < 18446744073709551616 ∧
    IntKind.u64.wrap ((u : Int) * 4294967296) = (x1 : Int) ∧ IntKind.u64.wrap ((x1 : Int) + (d : Int)) = (x2 : Int) ∧ IntKind.u64.wrap ((q : Int) * (Y : Int)) = (x3 : Int) ∧ IntKind.u64.wrap ((x2 : Int) - (x3 : Int)) = (r : Int) := by
  have e : (q : Int) * (Y : Int) = ((q * Y : Nat) : Int) := by simp
  rw [e]
  generalize q * Y = p at h ⊢
  refine ⟨u * 4294967296 % 18446744073709551616, (u * 4294967296 + d) % 18446744073709551616, p % 18446744073709551616, by omega, by omega, by omega, ?_, ?_, ?_, ?_⟩ <;> rw [IntKind.wrap_u64] <;> omega
/-- the first guess of a digit, in words -/
theorem quo_words {u d a1 a0 Y : Nat} (hY : Y = a1 * 4294967296 + a0) (hu : u < Y) (hYb : Y < 18446744073709551616) (hd : d < 4294967296) (ha0 : a0 < 4294967296) (h1 : 2147483648 ≤ a1) : ∃ t0 t1 t2 : Nat, t0 ≤ 4294967298 ∧ t1 < 4294967296 ∧ t2 < 18446744073709551616 ∧
    (u : Int) / (a1 : Int) = (t0 : Int) ∧ IntKind.u64.wrap ((t0 : Int) * (a1 : Int)) = (t2 : Int) ∧ IntKind.u64.wrap ((u : Int) - (t2 : Int)) = (t1 : Int) ∧ Dg u d a1 a0 t0 t1 := by
  have h2 := Nat.div_add_mod u a1
  rw [Nat.mul_comm] at h2
  have h3 := Nat.mod_lt u (show 0 < a1 by omega)
  have e : ((u / a1 : Nat) : Int) * (a1 : Int) = ((u / a1 * a1 : Nat) : Int) := by simp
  have hb := Nat.div_le_self u a1
  refine ⟨u / a1, u % a1, u / a1 * a1, dg_first (by omega) ha0 h1, by omega, by omega, by simp, ?_, ?_, dg_start hd (by omega)⟩
  · rw [e]; exact wrap_u64_of _ (by omega)
  · generalize u / a1 * a1 = p at h2 ⊢
    rw [IntKind.wrap_u64]; omega
theorem fin_step {B u d1 d0 q1 q0 Y r1 r0 : Nat} (h1 : u * B + d1 = q1 * Y + r1) (h0 : r1 * B + d0 = q0 * Y + r0) : u * (B * B) + (d1 * B + d0) = (q1 * B + q0) * Y + r0 := by
  calc u * (B * B) + (d1 * B + d0) = (u * B + d1) * B + d0 := by rw [Nat.add_mul, Nat.mul_assoc, Nat.add_assoc]
    _ = q1 * Y * B + (r1 * B + d0) := by rw [h1, Nat.add_mul, Nat.add_assoc]
    _ = (q1 * B + q0) * Y + r0 := by rw [h0, Nat.add_mul, Nat.mul_right_comm, Nat.add_assoc]
theorem fin_words {N y s Y u v d1 d0 q1 q0 r1 r0 : Nat} (hU : N * 2 ^ s = u * 18446744073709551616 + v) (hv : v = d1 * 4294967296 + d0) (hY : y * 2 ^ s = Y) (h1 : u * 4294967296 + d1 = q1 * Y + r1) (h0 : r1 * 4294967296 + d0 = q0 * Y + r0) (hr0 : r0 < Y) :
    q1 * 4294967296 + q0 = N / y ∧ r0 / 2 ^ s = N % y := by
  have hp : 0 < 2 ^ s := Nat.two_pow_pos s
  have hs : N * 2 ^ s = (q1 * 4294967296 + q0) * Y + r0 := by
    rw [hU, hv]
    exact fin_step h1 h0
  generalize q1 * 4294967296 + q0 = QQ at hs ⊢
  have hq : QQ = N * 2 ^ s / Y := by
    rw [hs, Nat.add_comm, Nat.add_mul_div_right _ _ (by omega), Nat.div_eq_of_lt hr0, Nat.zero_add]
  have hr : r0 = N * 2 ^ s % Y := by
    rw [hs, Nat.add_comm, Nat.add_mul_mod_self_right, Nat.mod_eq_of_lt hr0]
  rw [← hY, Nat.mul_div_mul_right _ _ hp] at hq
  rw [← hY, Nat.mul_mod_mul_right] at hr
  exact ⟨hq, by rw [hr, Nat.mul_div_cancel _ hp]⟩
theorem fin_ret {q1 q0 Q R : Nat} (h : q1 * 4294967296 + q0 = Q) (h1 : q1 < 4294967296) (h0 : q0 < 4294967296) : Ending.returned (.tuple #[.int .u64 (IntKind.u64.wrap (IntKind.u64.wrap ((q1 : Int) * 4294967296) + (q0 : Int))), .int .u64 (R : Int)]) = .returned (.tuple #[.int .u64 (Q : Int), .int .u64 (R : Int)]) := by
  have : IntKind.u64.wrap (IntKind.u64.wrap ((q1 : Int) * 4294967296) + (q0 : Int)) = (Q : Int) := by
    rw [IntKind.wrap_u64, IntKind.wrap_u64]; omega
  rw [this]
set_option maxRecDepth 100000 in
set_option maxHeartbeats 2000000 in
theorem div64 (hi lo y : Nat) (hhi : hi < y) (hlo : lo < 18446744073709551616) (hy : y < 18446744073709551616) (w : World) :
    Calls Tryz.prog 235 #[.int .u64 hi, .int .u64 lo, .int .u64 y] w fun e w' => e = .returned (.tuple #[.int .u64 (((hi * 18446744073709551616 + lo) / y : Nat) : Int), .int .u64 (((hi * 18446744073709551616 + lo) % y : Nat) : Int)]) ∧ ∃ n, w' = w.drewN n := by
  obtain ⟨N, hN⟩ : ∃ N, N = hi * 18446744073709551616 + lo := ⟨_, rfl⟩
  rw [← hN]
  have y0 : ((y : Int) == 0) = false := by rw [beq_eq_false_iff_ne]; omega
  have HN := Lib.hid hN
  clear hN
  by_cases hz : hi = 0
  · subst hz
    obtain rfl : N = lo := by have := HN.out; omega
    have c1 : ((N / y : Nat) : Int) = (N : Int) / (y : Int) := by simp
    have c2 : ((N % y : Nat) : Int) = (N : Int) % (y : Int) := by simp
    have w1 := wrap_u64_of (N / y) (Nat.lt_of_le_of_lt (Nat.div_le_self _ _) (by omega))
    rw [c1] at w1
    rw [c1, c2]
    have y1 : ¬ (y : Int) = 0 := by omega
    have y2 : ¬ (y : Int) ≤ 0 := by omega
    have y3 : decide ((y : Int) ≤ 0) = false := by simp; omega
    have HYP := Lib.hid hhi
    clear hhi HN c1 c2
    go_enter Tryz.func235, Tryz.ntmps235
    go_wp2_with fail
    go_quiet (fail)
    go_wp2
    go_ret2
    exact ⟨rfl, _, rfl⟩
  obtain ⟨Q, hQ⟩ : ∃ Q, N / y = Q := ⟨_, rfl⟩
  obtain ⟨R, hR⟩ : ∃ R, N % y = R := ⟨_, rfl⟩
  rw [hQ, hR]
  have HQ := Lib.hid hQ; have HR := Lib.hid hR
  clear hQ hR
  obtain ⟨s, hs2, hlz, hY1, hY2⟩ := norm y (by omega) hy
  obtain ⟨H, L, v, hv, e0, e1, e2, e3, e4, hU, hu⟩ := norm_words hi lo y s hs2 hY2 hhi hlo
  have hm1 : min s 64 = s := by omega
  have hm2 : min (64 - s) 64 = 64 - s := by omega
  generalize hYe : y * 2 ^ s = Y at hY1 hY2 e0 hu
  obtain ⟨a1, a0, ha1, ha0, hYs, f1, f0⟩ := word_halves Y hY2
  obtain ⟨d1, d0, hd1, hd0, hvs, g1, g0⟩ := word_halves v hv
  obtain ⟨u, hue⟩ : ∃ u, H + L = u := ⟨_, rfl⟩
  rw [hue] at e3 hU hu
  rw [← HN.out] at hU
  have HU := Lib.hid hU; have HYE := Lib.hid hYe; have HYS := Lib.hid hYs; have HVS := Lib.hid hvs
  have hlb := fun w => Tryz.bits_LeadingZeros64 y w (by omega) (by omega)
  rw [show (y : Int).toNat = y from rfl, hlz] at hlb
  have z0 : ((hi : Int) == 0) = false := by rw [beq_eq_false_iff_ne]; omega
  have y4 : decide ((y : Int) ≤ (hi : Int)) = false := by simp; omega
  have HH := Lib.hid hhi; have HUY := Lib.hid hu; have HLB := Lib.hid hlb
  have ha1p : 2147483648 ≤ a1 := by have := HYS.out; omega
  obtain ⟨t0, t1, t2, b0, b1, b2, m1, m2, m3, hdg⟩ := quo_words (d := d1) HYS.out HUY.out hY2 hd1 ha0 ha1p
  have HDG0 := Lib.hid hdg
  clear hdg
  have k0 := and_low Y hY2 a0 f0
  have k1 := and_low v hv d0 g0
  have hY1' : (9223372036854775808 : Int) ≤ (Y : Int) := by omega
  clear hU hYe hYs hvs hue hlz hu hlb
  go_enter Tryz.func235, Tryz.ntmps235
  go_wp2_with fail
  refine (HLB.out _).mono ?_
  rintro e w' ⟨rfl, rfl⟩
  go_wp2_with fail
  go_loop [15, 16] (fun vq vr => ∃ q r : Nat, vq = .int .u64 q ∧ vr = .int .u64 r ∧ Dg u d1 a1 a0 q r ∧ q ≤ 4294967298 ∧ r < 4294967296) (fun _ vr => 4294967296 - (intOf vr).toNat)
  case atStart => exact ⟨t0, t1, rfl, rfl, HDG0.out, b0, b1⟩
  case round =>
    obtain ⟨q, r, rfl, rfl, hdg, hq, hr⟩ := hrel
    have HDG := Lib.hid hdg
    clear hdg
    by_cases c1 : 4294967296 ≤ q
    · have n1 := dg_big HDG.out (by rw [← HYS.out]; exact HUY.out) hd1 c1
      have HN1 := Lib.hid n1
      have c1' : (4294967296 : Int) ≤ (q : Int) := by omega
      clear n1 HDG
      by_cases c2 : 4294967296 ≤ r + a1
      · have HF := Lib.hid (dg_full HN1.out (by omega) (by rw [← HYS.out]; exact HUY.out) ha0 c2)
        obtain ⟨qq, hqq⟩ : ∃ qq, q - 1 = qq := ⟨_, rfl⟩
        have c3 : (4294967296 : Int) ≤ (r : Int) + (a1 : Int) := by omega
        have c4 : ((q : Int) - 1) = (qq : Int) := by omega
        rw [hqq] at HF
        clear c2 hqq HN1
        obtain ⟨hq1, r1, hr1, hr1Y⟩ := dg_end HF.out.2 HYS.out HUY.out hd1
        have HR1Y := Lib.hid hr1Y
        obtain ⟨x1, x2, x3, x1b, x2b, x3b, m5, m6, m7, m8⟩ := un_words hr1 (by omega)
        obtain ⟨z0, z1, z2, i0, i1, i2, m9, m10, m11, hdg2⟩ := quo_words (d := d0) HYS.out hr1Y hY2 hd0 ha0 ha1p
        have HDG2 := Lib.hid hdg2
        have hr1b : (r1 : Int) < 18446744073709551616 := by omega
        have HR1 : Hid (u * 4294967296 + d1 = qq * Y + r1) := Lib.hid hr1
        have HQ1 := Lib.hid hq1
        clear hr1 hr1Y hdg2 HF hq1
        clear c1
        go_wp2_with fail
        try clear d13
        try clear d12
        try clear d11
        try clear d10
        try clear d9
        try clear d8
        try clear d7
        try clear d6
        try clear d5
        try clear e5
        try clear p4'
        try clear c1'
        try clear c3
        try clear c4
        try clear c5'
        try clear m5
        try clear m6
        try clear m7
        try clear m8
        try clear m9
        try clear m10
        try clear m11
        try clear hq0
        try clear hq
        try clear hr
        try clear hq1e
        try clear m1
        try clear m2
        try clear m3
        try clear b0
        try clear b1
        try clear b2
        try clear x1b
        try clear x2b
        try clear x3b
        go_loop [18, 16] (fun vq vr => ∃ q r : Nat, vq = .int .u64 q ∧ vr = .int .u64 r ∧ Dg r1 d0 a1 a0 q r ∧ q ≤ 4294967298 ∧ r < 4294967296) (fun _ vr => 4294967296 - (intOf vr).toNat)
        case atStart => exact ⟨z0, z1, rfl, rfl, HDG2.out, i0, i1⟩
        case round =>
          obtain ⟨q, r, rfl, rfl, hdg, hq, hr⟩ := hrel
          have HDG := Lib.hid hdg
          clear hdg
          by_cases c1 : 4294967296 ≤ q
          · have n1 := dg_big HDG.out (by rw [← HYS.out]; exact HR1Y.out) hd0 c1
            have HN1 := Lib.hid n1
            have c1' : (4294967296 : Int) ≤ (q : Int) := by omega
            clear n1 HDG
            by_cases c2 : 4294967296 ≤ r + a1
            · have HF := Lib.hid (dg_full HN1.out (by omega) (by rw [← HYS.out]; exact HR1Y.out) ha0 c2)
              obtain ⟨qq, hqq⟩ : ∃ qq, q - 1 = qq := ⟨_, rfl⟩
              have c3 : (4294967296 : Int) ≤ (r : Int) + (a1 : Int) := by omega
              have c4 : ((q : Int) - 1) = (qq : Int) := by omega
              rw [hqq] at HF
              clear c2 hqq HN1
              obtain ⟨hq0', r0, hr0, hr0Y⟩ := dg_end HF.out.2 HYS.out HR1Y.out hd0
              obtain ⟨y1, y2, y3, y1b, y2b, y3b, n5, n6, n7, n8⟩ := un_words hr0 (by omega)
              obtain ⟨hfq, hfr⟩ := fin_words HU.out HVS.out HYE.out HR1.out hr0 hr0Y
              rw [HQ.out] at hfq
              rw [HR.out] at hfr
              have n9 : (r0 : Int) / 2 ^ s = (R : Int) := by rw [← hfr]; simp
              have HFQ := Lib.hid hfq; have HQ0 := Lib.hid hq0'
              clear hr0 hfq hfr HF hq0'
              clear c1
              go_wp2_with fail
              go_ret2
              first | exact ⟨fin_ret HFQ.out HQ1.out HQ0.out, _, rfl⟩ | exact ⟨fin_ret HFQ.out HQ1.out HQ0.out, 0, (World.drewN_zero _).symm⟩
            · obtain ⟨qq, hqq⟩ : ∃ qq, q - 1 = qq := ⟨_, rfl⟩
              have c4 : ((q : Int) - 1) = (qq : Int) := by omega
              have c3 : (r : Int) + (a1 : Int) < 4294967296 := by omega
              rw [hqq] at HN1
              have d3 : decide (4294967296 ≤ (r : Int) + (a1 : Int)) = false := by rw [decide_eq_false_iff_not]; omega
              have d4 : ¬ (4294967296 ≤ (r : Int) + (a1 : Int)) := by omega
              have hb1 := Lib.hid (show qq ≤ 4294967298 by omega); have hrb := Lib.hid (show r + a1 < 4294967296 by omega)
              clear c2 hqq
              clear c1
              go_wp2_with fail
              go_round
              case rel => exact ⟨qq, r + a1, rfl, congrArg (Value.int .u64) (by omega), HN1.out, hb1.out, hrb.out⟩
              case measure => simp only [intOf]; omega
          · have p4 : q * a0 ≤ 4294967295 * 4294967295 := Nat.mul_le_mul (by omega) (by omega)
            obtain ⟨pp, hpp⟩ : ∃ pp, q * a0 = pp := ⟨_, rfl⟩
            have e5 : (q : Int) * (a0 : Int) = (pp : Int) := by rw [← hpp]; simp
            rw [hpp] at p4
            have c1' : (q : Int) < 4294967296 := by omega
            have p4' : (pp : Int) < 18446744073709551616 := by omega
            by_cases c5 : 4294967296 * r + d0 < pp
            · have n1 := dg_more HDG.out (by omega) (by rw [hpp]; exact c5)
              have HN1 := Lib.hid n1
              have hq0 : 0 < q := by
                rcases Nat.eq_zero_or_pos q with rfl | h
                · omega
                · exact h
              have c5' : 4294967296 * (r : Int) + (d0 : Int) < (pp : Int) := by omega
              clear n1 hpp HDG c5 p4 c1
              by_cases c2 : 4294967296 ≤ r + a1
              · have HF := Lib.hid (dg_full HN1.out (by omega) (by rw [← HYS.out]; exact HR1Y.out) ha0 c2)
                obtain ⟨qq, hqq⟩ : ∃ qq, q - 1 = qq := ⟨_, rfl⟩
                have c3 : (4294967296 : Int) ≤ (r : Int) + (a1 : Int) := by omega
                have c4 : ((q : Int) - 1) = (qq : Int) := by omega
                rw [hqq] at HF
                clear c2 hqq HN1
                obtain ⟨hq0', r0, hr0, hr0Y⟩ := dg_end HF.out.2 HYS.out HR1Y.out hd0
                obtain ⟨y1, y2, y3, y1b, y2b, y3b, n5, n6, n7, n8⟩ := un_words hr0 (by omega)
                obtain ⟨hfq, hfr⟩ := fin_words HU.out HVS.out HYE.out HR1.out hr0 hr0Y
                rw [HQ.out] at hfq
                rw [HR.out] at hfr
                have n9 : (r0 : Int) / 2 ^ s = (R : Int) := by rw [← hfr]; simp
                have HFQ := Lib.hid hfq; have HQ0 := Lib.hid hq0'
                clear hr0 hfq hfr HF hq0'
                skip
                go_wp2_with fail
                go_ret2
                first | exact ⟨fin_ret HFQ.out HQ1.out HQ0.out, _, rfl⟩ | exact ⟨fin_ret HFQ.out HQ1.out HQ0.out, 0, (World.drewN_zero _).symm⟩
              · obtain ⟨qq, hqq⟩ : ∃ qq, q - 1 = qq := ⟨_, rfl⟩
                have c4 : ((q : Int) - 1) = (qq : Int) := by omega
                have c3 : (r : Int) + (a1 : Int) < 4294967296 := by omega
                rw [hqq] at HN1
                have d3 : decide (4294967296 ≤ (r : Int) + (a1 : Int)) = false := by rw [decide_eq_false_iff_not]; omega
                have d4 : ¬ (4294967296 ≤ (r : Int) + (a1 : Int)) := by omega
                have hb1 := Lib.hid (show qq ≤ 4294967298 by omega); have hrb := Lib.hid (show r + a1 < 4294967296 by omega)
                clear c2 hqq
                skip
                go_wp2_with fail
                go_round
                case rel => exact ⟨qq, r + a1, rfl, congrArg (Value.int .u64) (by omega), HN1.out, hb1.out, hrb.out⟩
                case measure => simp only [intOf]; omega
            · have HF := Lib.hid (dg_done HDG.out (by omega) (by rw [hpp]; omega))
              have c6 : (pp : Int) ≤ 4294967296 * (r : Int) + (d0 : Int) := by omega
              clear HDG hpp c5 p4 c1 hq
              obtain ⟨hq0', r0, hr0, hr0Y⟩ := dg_end HF.out HYS.out HR1Y.out hd0
              obtain ⟨y1, y2, y3, y1b, y2b, y3b, n5, n6, n7, n8⟩ := un_words hr0 (by omega)
              obtain ⟨hfq, hfr⟩ := fin_words HU.out HVS.out HYE.out HR1.out hr0 hr0Y
              rw [HQ.out] at hfq
              rw [HR.out] at hfr
              have n9 : (r0 : Int) / 2 ^ s = (R : Int) := by rw [← hfr]; simp
              have HFQ := Lib.hid hfq; have HQ0 := Lib.hid hq0'
              clear hr0 hfq hfr HF hq0'
              obtain ⟨rr, hrr⟩ : ∃ rr : Nat, 4294967296 * r = rr := ⟨_, rfl⟩
              obtain ⟨rd, hrd⟩ : ∃ rd : Nat, rr + d0 = rd := ⟨_, rfl⟩
              have d5 : 4294967296 * (r : Int) = (rr : Int) := by omega
              have d6 : (rr : Int) + (d0 : Int) = (rd : Int) := by omega
              have d7 : (rr : Int) < 18446744073709551616 := by omega
              have d8 : (rd : Int) < 18446744073709551616 := by omega
              have d9 : (pp : Int) ≤ (rd : Int) := by omega
              have d10 : decide ((rd : Int) < (pp : Int)) = false := by rw [decide_eq_false_iff_not]; omega
              have d11 : decide (rd < pp) = false := by rw [decide_eq_false_iff_not]; omega
              have d12 : decide ((4294967296 : Int) ≤ (q : Int)) = false := by rw [decide_eq_false_iff_not]; omega
              have d13 : (decide ((4294967296 : Int) ≤ (q : Int)) || decide (rd < pp)) = false := by rw [d11, d12]; rfl
              clear c6 hrr hrd hr
              go_wp2_with fail
              go_ret2
              first | exact ⟨fin_ret HFQ.out HQ1.out HQ0.out, _, rfl⟩ | exact ⟨fin_ret HFQ.out HQ1.out HQ0.out, 0, (World.drewN_zero _).symm⟩
      · obtain ⟨qq, hqq⟩ : ∃ qq, q - 1 = qq := ⟨_, rfl⟩
        have c4 : ((q : Int) - 1) = (qq : Int) := by omega
        have c3 : (r : Int) + (a1 : Int) < 4294967296 := by omega
        rw [hqq] at HN1
        have d3 : decide (4294967296 ≤ (r : Int) + (a1 : Int)) = false := by rw [decide_eq_false_iff_not]; omega
        have d4 : ¬ (4294967296 ≤ (r : Int) + (a1 : Int)) := by omega
        have hb1 := Lib.hid (show qq ≤ 4294967298 by omega); have hrb := Lib.hid (show r + a1 < 4294967296 by omega)
        clear c2 hqq
        clear c1
        go_wp2_with fail
        go_round
        case rel => exact ⟨qq, r + a1, rfl, congrArg (Value.int .u64) (by omega), HN1.out, hb1.out, hrb.out⟩
        case measure => simp only [intOf]; omega
    · have p4 : q * a0 ≤ 4294967295 * 4294967295 := Nat.mul_le_mul (by omega) (by omega)
      obtain ⟨pp, hpp⟩ : ∃ pp, q * a0 = pp := ⟨_, rfl⟩
      have e5 : (q : Int) * (a0 : Int) = (pp : Int) := by rw [← hpp]; simp
      rw [hpp] at p4
      have c1' : (q : Int) < 4294967296 := by omega
      have p4' : (pp : Int) < 18446744073709551616 := by omega
      by_cases c5 : 4294967296 * r + d1 < pp
      · have n1 := dg_more HDG.out (by omega) (by rw [hpp]; exact c5)
        have HN1 := Lib.hid n1
        have hq0 : 0 < q := by
          rcases Nat.eq_zero_or_pos q with rfl | h
          · omega
          · exact h
        have c5' : 4294967296 * (r : Int) + (d1 : Int) < (pp : Int) := by omega
        clear n1 hpp HDG c5 p4 c1
        by_cases c2 : 4294967296 ≤ r + a1
        · have HF := Lib.hid (dg_full HN1.out (by omega) (by rw [← HYS.out]; exact HUY.out) ha0 c2)
          obtain ⟨qq, hqq⟩ : ∃ qq, q - 1 = qq := ⟨_, rfl⟩
          have c3 : (4294967296 : Int) ≤ (r : Int) + (a1 : Int) := by omega
          have c4 : ((q : Int) - 1) = (qq : Int) := by omega
          rw [hqq] at HF
          clear c2 hqq HN1
          obtain ⟨hq1, r1, hr1, hr1Y⟩ := dg_end HF.out.2 HYS.out HUY.out hd1
          have HR1Y := Lib.hid hr1Y
          obtain ⟨x1, x2, x3, x1b, x2b, x3b, m5, m6, m7, m8⟩ := un_words hr1 (by omega)
          obtain ⟨z0, z1, z2, i0, i1, i2, m9, m10, m11, hdg2⟩ := quo_words (d := d0) HYS.out hr1Y hY2 hd0 ha0 ha1p
          have HDG2 := Lib.hid hdg2
          have hr1b : (r1 : Int) < 18446744073709551616 := by omega
          have HR1 : Hid (u * 4294967296 + d1 = qq * Y + r1) := Lib.hid hr1
          have HQ1 := Lib.hid hq1
          clear hr1 hr1Y hdg2 HF hq1
          skip
          go_wp2_with fail
          try clear d13
          try clear d12
          try clear d11
          try clear d10
          try clear d9
          try clear d8
          try clear d7
          try clear d6
          try clear d5
          try clear e5
          try clear p4'
          try clear c1'
          try clear c3
          try clear c4
          try clear c5'
          try clear m5
          try clear m6
          try clear m7
          try clear m8
          try clear m9
          try clear m10
          try clear m11
          try clear hq0
          try clear hq
          try clear hr
          try clear hq1e
          try clear m1
          try clear m2
          try clear m3
          try clear b0
          try clear b1
          try clear b2
          try clear x1b
          try clear x2b
          try clear x3b
          go_loop [18, 16] (fun vq vr => ∃ q r : Nat, vq = .int .u64 q ∧ vr = .int .u64 r ∧ Dg r1 d0 a1 a0 q r ∧ q ≤ 4294967298 ∧ r < 4294967296) (fun _ vr => 4294967296 - (intOf vr).toNat)
          case atStart => exact ⟨z0, z1, rfl, rfl, HDG2.out, i0, i1⟩
          case round =>
            obtain ⟨q, r, rfl, rfl, hdg, hq, hr⟩ := hrel
            have HDG := Lib.hid hdg
            clear hdg
            by_cases c1 : 4294967296 ≤ q
            · have n1 := dg_big HDG.out (by rw [← HYS.out]; exact HR1Y.out) hd0 c1
              have HN1 := Lib.hid n1
              have c1' : (4294967296 : Int) ≤ (q : Int) := by omega
              clear n1 HDG
              by_cases c2 : 4294967296 ≤ r + a1
              · have HF := Lib.hid (dg_full HN1.out (by omega) (by rw [← HYS.out]; exact HR1Y.out) ha0 c2)
                obtain ⟨qq, hqq⟩ : ∃ qq, q - 1 = qq := ⟨_, rfl⟩
                have c3 : (4294967296 : Int) ≤ (r : Int) + (a1 : Int) := by omega
                have c4 : ((q : Int) - 1) = (qq : Int) := by omega
                rw [hqq] at HF
                clear c2 hqq HN1
                obtain ⟨hq0', r0, hr0, hr0Y⟩ := dg_end HF.out.2 HYS.out HR1Y.out hd0
                obtain ⟨y1, y2, y3, y1b, y2b, y3b, n5, n6, n7, n8⟩ := un_words hr0 (by omega)
                obtain ⟨hfq, hfr⟩ := fin_words HU.out HVS.out HYE.out HR1.out hr0 hr0Y
                rw [HQ.out] at hfq
                rw [HR.out] at hfr
                have n9 : (r0 : Int) / 2 ^ s = (R : Int) := by rw [← hfr]; simp
                have HFQ := Lib.hid hfq; have HQ0 := Lib.hid hq0'
                clear hr0 hfq hfr HF hq0'
                clear c1
                go_wp2_with fail
                go_ret2
                first | exact ⟨fin_ret HFQ.out HQ1.out HQ0.out, _, rfl⟩ | exact ⟨fin_ret HFQ.out HQ1.out HQ0.out, 0, (World.drewN_zero _).symm⟩
              · obtain ⟨qq, hqq⟩ : ∃ qq, q - 1 = qq := ⟨_, rfl⟩
                have c4 : ((q : Int) - 1) = (qq : Int) := by omega
                have c3 : (r : Int) + (a1 : Int) < 4294967296 := by omega
                rw [hqq] at HN1
                have d3 : decide (4294967296 ≤ (r : Int) + (a1 : Int)) = false := by rw [decide_eq_false_iff_not]; omega
                have d4 : ¬ (4294967296 ≤ (r : Int) + (a1 : Int)) := by omega
                have hb1 := Lib.hid (show qq ≤ 4294967298 by omega); have hrb := Lib.hid (show r + a1 < 4294967296 by omega)
                clear c2 hqq
                clear c1
                go_wp2_with fail
                go_round
                case rel => exact ⟨qq, r + a1, rfl, congrArg (Value.int .u64) (by omega), HN1.out, hb1.out, hrb.out⟩
                case measure => simp only [intOf]; omega
            · have p4 : q * a0 ≤ 4294967295 * 4294967295 := Nat.mul_le_mul (by omega) (by omega)
              obtain ⟨pp, hpp⟩ : ∃ pp, q * a0 = pp := ⟨_, rfl⟩
              have e5 : (q : Int) * (a0 : Int) = (pp : Int) := by rw [← hpp]; simp
              rw [hpp] at p4
              have c1' : (q : Int) < 4294967296 := by omega
              have p4' : (pp : Int) < 18446744073709551616 := by omega
              by_cases c5 : 4294967296 * r + d0 < pp
              · have n1 := dg_more HDG.out (by omega) (by rw [hpp]; exact c5)
                have HN1 := Lib.hid n1
                have hq0 : 0 < q := by
                  rcases Nat.eq_zero_or_pos q with rfl | h
                  · omega
                  · exact h
                have c5' : 4294967296 * (r : Int) + (d0 : Int) < (pp : Int) := by omega
                clear n1 hpp HDG c5 p4 c1
                by_cases c2 : 4294967296 ≤ r + a1
                · have HF := Lib.hid (dg_full HN1.out (by omega) (by rw [← HYS.out]; exact HR1Y.out) ha0 c2)
                  obtain ⟨qq, hqq⟩ : ∃ qq, q - 1 = qq := ⟨_, rfl⟩
                  have c3 : (4294967296 : Int) ≤ (r : Int) + (a1 : Int) := by omega
                  have c4 : ((q : Int) - 1) = (qq : Int) := by omega
                  rw [hqq] at HF
                  clear c2 hqq HN1
                  obtain ⟨hq0', r0, hr0, hr0Y⟩ := dg_end HF.out.2 HYS.out HR1Y.out hd0
                  obtain ⟨y1, y2, y3, y1b, y2b, y3b, n5, n6, n7, n8⟩ := un_words hr0 (by omega)
                  obtain ⟨hfq, hfr⟩ := fin_words HU.out HVS.out HYE.out HR1.out hr0 hr0Y
                  rw [HQ.out] at hfq
                  rw [HR.out] at hfr
                  have n9 : (r0 : Int) / 2 ^ s = (R : Int) := by rw [← hfr]; simp
                  have HFQ := Lib.hid hfq; have HQ0 := Lib.hid hq0'
                  clear hr0 hfq hfr HF hq0'
                  skip
                  go_wp2_with fail
                  go_ret2
                  first | exact ⟨fin_ret HFQ.out HQ1.out HQ0.out, _, rfl⟩ | exact ⟨fin_ret HFQ.out HQ1.out HQ0.out, 0, (World.drewN_zero _).symm⟩
                · obtain ⟨qq, hqq⟩ : ∃ qq, q - 1 = qq := ⟨_, rfl⟩
                  have c4 : ((q : Int) - 1) = (qq : Int) := by omega
                  have c3 : (r : Int) + (a1 : Int) < 4294967296 := by omega
                  rw [hqq] at HN1
                  have d3 : decide (4294967296 ≤ (r : Int) + (a1 : Int)) = false := by rw [decide_eq_false_iff_not]; omega
                  have d4 : ¬ (4294967296 ≤ (r : Int) + (a1 : Int)) := by omega
                  have hb1 := Lib.hid (show qq ≤ 4294967298 by omega); have hrb := Lib.hid (show r + a1 < 4294967296 by omega)
                  clear c2 hqq
                  skip
                  go_wp2_with fail
                  go_round
                  case rel => exact ⟨qq, r + a1, rfl, congrArg (Value.int .u64) (by omega), HN1.out, hb1.out, hrb.out⟩
                  case measure => simp only [intOf]; omega
              · have HF := Lib.hid (dg_done HDG.out (by omega) (by rw [hpp]; omega))
                have c6 : (pp : Int) ≤ 4294967296 * (r : Int) + (d0 : Int) := by omega
                clear HDG hpp c5 p4 c1 hq
                obtain ⟨hq0', r0, hr0, hr0Y⟩ := dg_end HF.out HYS.out HR1Y.out hd0
                obtain ⟨y1, y2, y3, y1b, y2b, y3b, n5, n6, n7, n8⟩ := un_words hr0 (by omega)
                obtain ⟨hfq, hfr⟩ := fin_words HU.out HVS.out HYE.out HR1.out hr0 hr0Y
                rw [HQ.out] at hfq
                rw [HR.out] at hfr
                have n9 : (r0 : Int) / 2 ^ s = (R : Int) := by rw [← hfr]; simp
                have HFQ := Lib.hid hfq; have HQ0 := Lib.hid hq0'
                clear hr0 hfq hfr HF hq0'
                obtain ⟨rr, hrr⟩ : ∃ rr : Nat, 4294967296 * r = rr := ⟨_, rfl⟩
                obtain ⟨rd, hrd⟩ : ∃ rd : Nat, rr + d0 = rd := ⟨_, rfl⟩
                have d5 : 4294967296 * (r : Int) = (rr : Int) := by omega
                have d6 : (rr : Int) + (d0 : Int) = (rd : Int) := by omega
                have d7 : (rr : Int) < 18446744073709551616 := by omega
                have d8 : (rd : Int) < 18446744073709551616 := by omega
                have d9 : (pp : Int) ≤ (rd : Int) := by omega
                have d10 : decide ((rd : Int) < (pp : Int)) = false := by rw [decide_eq_false_iff_not]; omega
                have d11 : decide (rd < pp) = false := by rw [decide_eq_false_iff_not]; omega
                have d12 : decide ((4294967296 : Int) ≤ (q : Int)) = false := by rw [decide_eq_false_iff_not]; omega
                have d13 : (decide ((4294967296 : Int) ≤ (q : Int)) || decide (rd < pp)) = false := by rw [d11, d12]; rfl
                clear c6 hrr hrd hr
                go_wp2_with fail
                go_ret2
                first | exact ⟨fin_ret HFQ.out HQ1.out HQ0.out, _, rfl⟩ | exact ⟨fin_ret HFQ.out HQ1.out HQ0.out, 0, (World.drewN_zero _).symm⟩
        · obtain ⟨qq, hqq⟩ : ∃ qq, q - 1 = qq := ⟨_, rfl⟩
          have c4 : ((q : Int) - 1) = (qq : Int) := by omega
          have c3 : (r : Int) + (a1 : Int) < 4294967296 := by omega
          rw [hqq] at HN1
          have d3 : decide (4294967296 ≤ (r : Int) + (a1 : Int)) = false := by rw [decide_eq_false_iff_not]; omega
          have d4 : ¬ (4294967296 ≤ (r : Int) + (a1 : Int)) := by omega
          have hb1 := Lib.hid (show qq ≤ 4294967298 by omega); have hrb := Lib.hid (show r + a1 < 4294967296 by omega)
          clear c2 hqq
          skip
          go_wp2_with fail
          go_round
          case rel => exact ⟨qq, r + a1, rfl, congrArg (Value.int .u64) (by omega), HN1.out, hb1.out, hrb.out⟩
          case measure => simp only [intOf]; omega
      · have HF := Lib.hid (dg_done HDG.out (by omega) (by rw [hpp]; omega))
        have c6 : (pp : Int) ≤ 4294967296 * (r : Int) + (d1 : Int) := by omega
        clear HDG hpp c5 p4 c1 hq
        obtain ⟨hq1, r1, hr1, hr1Y⟩ := dg_end HF.out HYS.out HUY.out hd1
        have HR1Y := Lib.hid hr1Y
        obtain ⟨x1, x2, x3, x1b, x2b, x3b, m5, m6, m7, m8⟩ := un_words hr1 (by omega)
        obtain ⟨z0, z1, z2, i0, i1, i2, m9, m10, m11, hdg2⟩ := quo_words (d := d0) HYS.out hr1Y hY2 hd0 ha0 ha1p
        have HDG2 := Lib.hid hdg2
        have hr1b : (r1 : Int) < 18446744073709551616 := by omega
        have HR1 : Hid (u * 4294967296 + d1 = q * Y + r1) := Lib.hid hr1
        have HQ1 := Lib.hid hq1
        clear hr1 hr1Y hdg2 HF hq1
        obtain ⟨rr, hrr⟩ : ∃ rr : Nat, 4294967296 * r = rr := ⟨_, rfl⟩
        obtain ⟨rd, hrd⟩ : ∃ rd : Nat, rr + d1 = rd := ⟨_, rfl⟩
        have d5 : 4294967296 * (r : Int) = (rr : Int) := by omega
        have d6 : (rr : Int) + (d1 : Int) = (rd : Int) := by omega
        have d7 : (rr : Int) < 18446744073709551616 := by omega
        have d8 : (rd : Int) < 18446744073709551616 := by omega
        have d9 : (pp : Int) ≤ (rd : Int) := by omega
        have d10 : decide ((rd : Int) < (pp : Int)) = false := by rw [decide_eq_false_iff_not]; omega
        have d11 : decide (rd < pp) = false := by rw [decide_eq_false_iff_not]; omega
        have d12 : decide ((4294967296 : Int) ≤ (q : Int)) = false := by rw [decide_eq_false_iff_not]; omega
        have d13 : (decide ((4294967296 : Int) ≤ (q : Int)) || decide (rd < pp)) = false := by rw [d11, d12]; rfl
        clear c6 hrr hrd hr
        go_wp2_with fail
        try clear d13
        try clear d12
        try clear d11
        try clear d10
        try clear d9
        try clear d8
        try clear d7
        try clear d6
        try clear d5
        try clear e5
        try clear p4'
        try clear c1'
        try clear c3
        try clear c4
        try clear c5'
        try clear m5
        try clear m6
        try clear m7
        try clear m8
        try clear m9
        try clear m10
        try clear m11
        try clear hq0
        try clear hq
        try clear hr
        try clear hq1e
        try clear m1
        try clear m2
        try clear m3
        try clear b0
        try clear b1
        try clear b2
        try clear x1b
        try clear x2b
        try clear x3b
        go_loop [18, 16] (fun vq vr => ∃ q r : Nat, vq = .int .u64 q ∧ vr = .int .u64 r ∧ Dg r1 d0 a1 a0 q r ∧ q ≤ 4294967298 ∧ r < 4294967296) (fun _ vr => 4294967296 - (intOf vr).toNat)
        case atStart => exact ⟨z0, z1, rfl, rfl, HDG2.out, i0, i1⟩
        case round =>
          obtain ⟨q, r, rfl, rfl, hdg, hq, hr⟩ := hrel
          have HDG := Lib.hid hdg
          clear hdg
          by_cases c1 : 4294967296 ≤ q
          · have n1 := dg_big HDG.out (by rw [← HYS.out]; exact HR1Y.out) hd0 c1
            have HN1 := Lib.hid n1
            have c1' : (4294967296 : Int) ≤ (q : Int) := by omega
            clear n1 HDG
            by_cases c2 : 4294967296 ≤ r + a1
            · have HF := Lib.hid (dg_full HN1.out (by omega) (by rw [← HYS.out]; exact HR1Y.out) ha0 c2)
              obtain ⟨qq, hqq⟩ : ∃ qq, q - 1 = qq := ⟨_, rfl⟩
              have c3 : (4294967296 : Int) ≤ (r : Int) + (a1 : Int) := by omega
              have c4 : ((q : Int) - 1) = (qq : Int) := by omega
              rw [hqq] at HF
              clear c2 hqq HN1
              obtain ⟨hq0', r0, hr0, hr0Y⟩ := dg_end HF.out.2 HYS.out HR1Y.out hd0
              obtain ⟨y1, y2, y3, y1b, y2b, y3b, n5, n6, n7, n8⟩ := un_words hr0 (by omega)
              obtain ⟨hfq, hfr⟩ := fin_words HU.out HVS.out HYE.out HR1.out hr0 hr0Y
              rw [HQ.out] at hfq
              rw [HR.out] at hfr
              have n9 : (r0 : Int) / 2 ^ s = (R : Int) := by rw [← hfr]; simp
              have HFQ := Lib.hid hfq; have HQ0 := Lib.hid hq0'
              clear hr0 hfq hfr HF hq0'
              clear c1
              go_wp2_with fail
              go_ret2
              first | exact ⟨fin_ret HFQ.out HQ1.out HQ0.out, _, rfl⟩ | exact ⟨fin_ret HFQ.out HQ1.out HQ0.out, 0, (World.drewN_zero _).symm⟩
            · obtain ⟨qq, hqq⟩ : ∃ qq, q - 1 = qq := ⟨_, rfl⟩
              have c4 : ((q : Int) - 1) = (qq : Int) := by omega
              have c3 : (r : Int) + (a1 : Int) < 4294967296 := by omega
              rw [hqq] at HN1
              have d3 : decide (4294967296 ≤ (r : Int) + (a1 : Int)) = false := by rw [decide_eq_false_iff_not]; omega
              have d4 : ¬ (4294967296 ≤ (r : Int) + (a1 : Int)) := by omega
              have hb1 := Lib.hid (show qq ≤ 4294967298 by omega); have hrb := Lib.hid (show r + a1 < 4294967296 by omega)
              clear c2 hqq
              clear c1
              go_wp2_with fail
              go_round
              case rel => exact ⟨qq, r + a1, rfl, congrArg (Value.int .u64) (by omega), HN1.out, hb1.out, hrb.out⟩
              case measure => simp only [intOf]; omega
          · have p4 : q * a0 ≤ 4294967295 * 4294967295 := Nat.mul_le_mul (by omega) (by omega)
            obtain ⟨pp, hpp⟩ : ∃ pp, q * a0 = pp := ⟨_, rfl⟩
            have e5 : (q : Int) * (a0 : Int) = (pp : Int) := by rw [← hpp]; simp
            rw [hpp] at p4
            have c1' : (q : Int) < 4294967296 := by omega
            have p4' : (pp : Int) < 18446744073709551616 := by omega
            by_cases c5 : 4294967296 * r + d0 < pp
            · have n1 := dg_more HDG.out (by omega) (by rw [hpp]; exact c5)
              have HN1 := Lib.hid n1
              have hq0 : 0 < q := by
                rcases Nat.eq_zero_or_pos q with rfl | h
                · omega
                · exact h
              have c5' : 4294967296 * (r : Int) + (d0 : Int) < (pp : Int) := by omega
              clear n1 hpp HDG c5 p4 c1
              by_cases c2 : 4294967296 ≤ r + a1
              · have HF := Lib.hid (dg_full HN1.out (by omega) (by rw [← HYS.out]; exact HR1Y.out) ha0 c2)
                obtain ⟨qq, hqq⟩ : ∃ qq, q - 1 = qq := ⟨_, rfl⟩
                have c3 : (4294967296 : Int) ≤ (r : Int) + (a1 : Int) := by omega
                have c4 : ((q : Int) - 1) = (qq : Int) := by omega
                rw [hqq] at HF
                clear c2 hqq HN1
                obtain ⟨hq0', r0, hr0, hr0Y⟩ := dg_end HF.out.2 HYS.out HR1Y.out hd0
                obtain ⟨y1, y2, y3, y1b, y2b, y3b, n5, n6, n7, n8⟩ := un_words hr0 (by omega)
                obtain ⟨hfq, hfr⟩ := fin_words HU.out HVS.out HYE.out HR1.out hr0 hr0Y
                rw [HQ.out] at hfq
                rw [HR.out] at hfr
                have n9 : (r0 : Int) / 2 ^ s = (R : Int) := by rw [← hfr]; simp
                have HFQ := Lib.hid hfq; have HQ0 := Lib.hid hq0'
                clear hr0 hfq hfr HF hq0'
                skip
                go_wp2_with fail
                go_ret2
                first | exact ⟨fin_ret HFQ.out HQ1.out HQ0.out, _, rfl⟩ | exact ⟨fin_ret HFQ.out HQ1.out HQ0.out, 0, (World.drewN_zero _).symm⟩
              · obtain ⟨qq, hqq⟩ : ∃ qq, q - 1 = qq := ⟨_, rfl⟩
                have c4 : ((q : Int) - 1) = (qq : Int) := by omega
                have c3 : (r : Int) + (a1 : Int) < 4294967296 := by omega
                rw [hqq] at HN1
                have d3 : decide (4294967296 ≤ (r : Int) + (a1 : Int)) = false := by rw [decide_eq_false_iff_not]; omega
                have d4 : ¬ (4294967296 ≤ (r : Int) + (a1 : Int)) := by omega
                have hb1 := Lib.hid (show qq ≤ 4294967298 by omega); have hrb := Lib.hid (show r + a1 < 4294967296 by omega)
                clear c2 hqq
                skip
                go_wp2_with fail
                go_round
                case rel => exact ⟨qq, r + a1, rfl, congrArg (Value.int .u64) (by omega), HN1.out, hb1.out, hrb.out⟩
                case measure => simp only [intOf]; omega
            · have HF := Lib.hid (dg_done HDG.out (by omega) (by rw [hpp]; omega))
              have c6 : (pp : Int) ≤ 4294967296 * (r : Int) + (d0 : Int) := by omega
              clear HDG hpp c5 p4 c1 hq
              obtain ⟨hq0', r0, hr0, hr0Y⟩ := dg_end HF.out HYS.out HR1Y.out hd0
              obtain ⟨y1, y2, y3, y1b, y2b, y3b, n5, n6, n7, n8⟩ := un_words hr0 (by omega)
              obtain ⟨hfq, hfr⟩ := fin_words HU.out HVS.out HYE.out HR1.out hr0 hr0Y
              rw [HQ.out] at hfq
              rw [HR.out] at hfr
              have n9 : (r0 : Int) / 2 ^ s = (R : Int) := by rw [← hfr]; simp
              have HFQ := Lib.hid hfq; have HQ0 := Lib.hid hq0'
              clear hr0 hfq hfr HF hq0'
              obtain ⟨rr, hrr⟩ : ∃ rr : Nat, 4294967296 * r = rr := ⟨_, rfl⟩
              obtain ⟨rd, hrd⟩ : ∃ rd : Nat, rr + d0 = rd := ⟨_, rfl⟩
              have d5 : 4294967296 * (r : Int) = (rr : Int) := by omega
              have d6 : (rr : Int) + (d0 : Int) = (rd : Int) := by omega
              have d7 : (rr : Int) < 18446744073709551616 := by omega
              have d8 : (rd : Int) < 18446744073709551616 := by omega
              have d9 : (pp : Int) ≤ (rd : Int) := by omega
              have d10 : decide ((rd : Int) < (pp : Int)) = false := by rw [decide_eq_false_iff_not]; omega
              have d11 : decide (rd < pp) = false := by rw [decide_eq_false_iff_not]; omega
              have d12 : decide ((4294967296 : Int) ≤ (q : Int)) = false := by rw [decide_eq_false_iff_not]; omega
              have d13 : (decide ((4294967296 : Int) ≤ (q : Int)) || decide (rd < pp)) = false := by rw [d11, d12]; rfl
              clear c6 hrr hrd hr
              go_wp2_with fail
              go_ret2
              first | exact ⟨fin_ret HFQ.out HQ1.out HQ0.out, _, rfl⟩ | exact ⟨fin_ret HFQ.out HQ1.out HQ0.out, 0, (World.drewN_zero _).symm⟩
end Go.Proofs.YtikjdmbfjkbndaaGreat
