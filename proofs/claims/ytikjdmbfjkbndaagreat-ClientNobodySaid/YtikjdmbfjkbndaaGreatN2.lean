/- fixed.Ceil by 2, Clamp, Sqrt. Conditions: those named in each theorem. -/
import Derived.Test.YtikjdmbfjkbndaaGreatN1
namespace Go.Proofs.YtikjdmbfjkbndaaGreat
open Go.RowKit

/-- the square root rounded down, bit by bit -/
def isqF (n : Nat) : Nat → Nat → Nat
  | 0, r => r
  | k + 1, r => if (r + 2 ^ k) * (r + 2 ^ k) ≤ n then isqF n k (r + 2 ^ k) else isqF n k r
def isq (n : Nat) : Nat := isqF n 32 0
theorem isqF_spec (n : Nat) : ∀ (k r : Nat), r * r ≤ n → n < (r + 2 ^ k) * (r + 2 ^ k) → isqF n k r * isqF n k r ≤ n ∧ n < (isqF n k r + 1) * (isqF n k r + 1)
  | 0, r, h0, h1 => ⟨h0, h1⟩
  | k + 1, r, h0, h1 => by
    unfold isqF
    by_cases h : (r + 2 ^ k) * (r + 2 ^ k) ≤ n
    · rw [if_pos h]
      refine isqF_spec n k _ h ?_
      rw [show r + 2 ^ k + 2 ^ k = r + 2 ^ (k + 1) by rw [Nat.pow_succ]; omega]
      exact h1
    · rw [if_neg h]
      exact isqF_spec n k r h0 (by omega)
theorem isq_spec (n : Nat) (h : n < 18446744073709551616) : isq n * isq n ≤ n ∧ n < (isq n + 1) * (isq n + 1) := isqF_spec n 32 0 (by omega) (by simpa using h)
theorem isq_unique {n r s : Nat} (h0 : r * r ≤ n) (h1 : n < (r + 1) * (r + 1)) (k0 : s * s ≤ n) (k1 : n < (s + 1) * (s + 1)) : r = s := by
  rcases Nat.lt_trichotomy r s with h | h | h
  · have := Nat.mul_le_mul (Nat.succ_le_of_lt h) (Nat.succ_le_of_lt h); simp only [Nat.succ_eq_add_one] at this; omega
  · exact h
  · have := Nat.mul_le_mul (Nat.succ_le_of_lt h) (Nat.succ_le_of_lt h); simp only [Nat.succ_eq_add_one] at this; omega
theorem isq_le {n : Nat} (h : n < 18446744073709551616) : isq n < 4294967296 := by
  have := (isq_spec n h).1
  refine Nat.lt_of_not_le fun hge => ?_
  have := Nat.mul_le_mul hge hge
  omega
theorem isq_mono_bd {n b : Nat} (h : n < 18446744073709551616) (hb : n < (b + 1) * (b + 1)) : isq n ≤ b := by
  have := (isq_spec n h).1
  refine Nat.le_of_not_lt fun hge => ?_
  have := Nat.mul_le_mul (Nat.succ_le_of_lt hge) (Nat.succ_le_of_lt hge)
  simp only [Nat.succ_eq_add_one] at this
  omega
set_option maxRecDepth 100000 in
set_option maxHeartbeats 1000000 in
theorem fsqrt (n : Nat) (w : World) (h1 : n ≤ 9223372036854775807) :
    Calls Tryz.prog 169 #[.int .i64 n] w fun e w' => e = .returned (.tuple #[.int .i64 (isq n : Int), .bool true]) ∧ w = w' := by
  have hisq := isq_le (n := n) (by omega)
  have HR : Hid (isq n = isqF n 32 0) := Lib.hid rfl
  generalize isq n = res at HR hisq ⊢
  go_enter Tryz.func169, Tryz.ntmps169
  go_wp2_with fail
  go_loop [4, 9] (fun vr vk => ∃ (r k x : Nat), vr = .int .u64 r ∧ vk = .int .i64 k ∧ r < 4294967296 ∧ k ≤ 32 ∧ Hid (res = isqF n (32 - k) r) ∧ Hid (r = 2 ^ (32 - k) * x)) (fun _ vk => 32 - (intOf vk).toNat)
  case atStart => exact ⟨0, 0, 0, rfl, rfl, by omega, by omega, HR, Lib.hid (by simp)⟩
  case round =>
    obtain ⟨r, k, x, rfl, rfl, hr, hk, HI, HX⟩ := hrel
    by_cases hk2 : k < 32
    · obtain ⟨j, hj⟩ : ∃ j, 31 - k = j := ⟨_, rfl⟩
      have hj2 : (31 : Int) - (k : Int) = (j : Int) := by omega
      have e1 : 32 - k = j + 1 := by omega
      have e2 : 32 - (k + 1) = j := by omega
      have hjb : j ≤ 31 := by omega
      have HS : Hid (res = if (r + 2 ^ j) * (r + 2 ^ j) ≤ n then isqF n j (r + 2 ^ j) else isqF n j r) := Lib.hid (by have := HI.out; rw [e1] at this; rw [this, isqF])
      have hxr := HX.out
      rw [e1] at hxr
      have hp : 2 ^ j ≤ 2 ^ 31 := Nat.pow_le_pow_right (by omega) hjb
      have hps : 2 ^ j < 2 ^ (j + 1) := by rw [Nat.pow_succ]; have := Nat.two_pow_pos j; omega
      have hor := or_low (a := r) (b := 2 ^ j) (j + 1) (by omega) (by omega) x hxr hps
      have HX1 : Hid (r = 2 ^ j * (2 * x)) := Lib.hid (by rw [hxr, Nat.pow_succ, Nat.mul_assoc])
      have HX2 : Hid (r + 2 ^ j = 2 ^ j * (2 * x + 1)) := Lib.hid (by rw [Nat.mul_add, Nat.mul_one, ← HX1.out])
      have hlt : r + 2 ^ j < 4294967296 := by
        have h3 : 2 ^ (j + 1) * x < 2 ^ (j + 1) * 2 ^ (31 - j) := by rw [← hxr, ← Nat.pow_add, show j + 1 + (31 - j) = 32 by omega]; exact hr
        have h4 : x < 2 ^ (31 - j) := Nat.lt_of_mul_lt_mul_left h3
        have h5 : 2 ^ (j + 1) * (x + 1) ≤ 2 ^ (j + 1) * 2 ^ (31 - j) := Nat.mul_le_mul_left _ h4
        rw [← Nat.pow_add, show j + 1 + (31 - j) = 32 by omega, Nat.mul_add, ← hxr, Nat.mul_one] at h5
        omega
      obtain ⟨pw, hpw⟩ : ∃ pw, 2 ^ j = pw := ⟨_, rfl⟩
      have hpi : (2 : Int) ^ j = (pw : Int) := by rw [← hpw]; simp
      rw [hpw] at hor HS hlt HX2
      have hm : min j 64 = j := by omega
      obtain ⟨nx, hnx⟩ : ∃ nx, r + pw = nx := ⟨_, rfl⟩
      rw [hnx] at hor HS hlt HX2
      have HP := Lib.hid hpw; have HE2 := Lib.hid e2
      obtain ⟨sq, hsq⟩ : ∃ sq, nx * nx = sq := ⟨_, rfl⟩
      have hsqb : sq ≤ 4294967295 * 4294967295 := by rw [← hsq]; exact Nat.mul_le_mul (by omega) (by omega)
      have hsqi : (nx : Int) * (nx : Int) = (sq : Int) := by rw [← hsq]; simp
      rw [hsq] at HS
      have hwr : IntKind.u64.wrap (sq : Int) = (sq : Int) := by rw [IntKind.wrap_u64]; omega
      have hwp : IntKind.u64.wrap (pw : Int) = (pw : Int) := by rw [IntKind.wrap_u64]; omega
      clear hpw hj hsq hnx hps hp hxr e1 e2 HI HX
      by_cases hle : sq ≤ n
      · have HS2 : Hid (res = isqF n j nx) := Lib.hid (by have := HS.out; rw [if_pos hle] at this; exact this)
        have q1 : decide ((sq : Int) ≤ (n : Int)) = true := by simp; omega
        clear HS
        go_wp2_with fail
        go_round
        case rel => exact ⟨nx, k + 1, 2 * x + 1, rfl, by go_num, hlt, by omega, Lib.hid (by rw [HE2.out]; exact HS2.out), Lib.hid (by rw [HE2.out, HP.out]; exact HX2.out)⟩
        case measure => simp only [intOf]; omega
      · have HS2 : Hid (res = isqF n j r) := Lib.hid (by have := HS.out; rw [if_neg hle] at this; exact this)
        have q1 : decide ((sq : Int) ≤ (n : Int)) = false := by simp; omega
        clear HS
        go_wp2_with fail
        go_round
        case rel => exact ⟨r, k + 1, 2 * x, rfl, by go_num, hr, by omega, Lib.hid (by rw [HE2.out]; exact HS2.out), Lib.hid (by rw [HE2.out]; exact HX1.out)⟩
        case measure => simp only [intOf]; omega
    · obtain rfl : k = 32 := by omega
      have HI2 : Hid (res = r) := Lib.hid HI.out
      clear HI HX hk hk2
      go_wp2_with fail
      go_ret2
      exact ⟨by rw [HI2.out]; rfl, rfl⟩
def clampI (n lo hi : Int) : Int := if n < lo then lo else if hi < n then hi else n
theorem clampI_id {n lo hi : Int} : lo ≤ hi → (clampI n lo hi = n ↔ lo ≤ n ∧ n ≤ hi) := by
  intro h
  unfold clampI
  split
  · omega
  · split <;> omega
set_option maxHeartbeats 1000000 in
theorem fclamp (n lo hi : Int) (w : World) : Calls Tryz.prog 224 #[.int .i64 n, .int .i64 lo, .int .i64 hi] w fun e w' => e = .returned (.int .i64 (clampI n lo hi)) ∧ w = w' := by
  by_cases h1 : n < lo
  · have hr : clampI n lo hi = lo := by unfold clampI; rw [if_pos h1]
    rw [hr]
    go_enter Tryz.func224, Tryz.ntmps224
    go_wp2
    go_ret
    exact ⟨rfl, rfl⟩
  · by_cases h2 : hi < n
    · have hr : clampI n lo hi = hi := by unfold clampI; rw [if_neg h1, if_pos h2]
      rw [hr]
      go_enter Tryz.func224, Tryz.ntmps224
      go_wp2
      go_ret
      exact ⟨rfl, rfl⟩
    · have hr : clampI n lo hi = n := by unfold clampI; rw [if_neg h1, if_neg h2]
      rw [hr]
      go_enter Tryz.func224, Tryz.ntmps224
      go_wp2
      go_ret
      exact ⟨rfl, rfl⟩
set_option maxHeartbeats 1000000 in
theorem fceil2 (a : Int) (w : World) (a0 : 0 ≤ a) (a1 : a ≤ 9223372036854775800) :
    Calls Tryz.prog 217 #[.int .i64 a, .int .i64 2] w fun e w' => e = .returned (.tuple #[.int .i64 ((a + 1) / 2), .bool true]) ∧ ∃ n, w' = w.drewN n := by
  have hb := fdivide a 2 w (by omega) (by omega) (by omega) (by omega)
  have e1 : a.tdiv 2 = a / 2 := Int.tdiv_eq_ediv_of_nonneg a0
  have e2 : a.tmod 2 = a % 2 := Int.tmod_eq_emod_of_nonneg a0
  rw [e1, e2] at hb
  have hr : a % 2 = 0 ∨ a % 2 = 1 := by omega
  have HB := Lib.hid hb
  clear hb e1 e2
  obtain ⟨q, hq⟩ : ∃ q, a / 2 = q := ⟨_, rfl⟩
  obtain ⟨r, hr2⟩ : ∃ r, a % 2 = r := ⟨_, rfl⟩
  have hqb : q ≤ 4611686018427387904 ∧ 0 ≤ q := by omega
  rw [hq, hr2] at HB
  rw [hr2] at hr
  rcases hr with rfl | rfl
  · have HV : Hid ((a + 1) / 2 = q) := Lib.hid (by omega)
    clear hq hr2
    go_enter Tryz.func217, Tryz.ntmps217
    go_wp2_with fail
    refine HB.out.mono ?_
    rintro e w' ⟨rfl, n, rfl⟩
    go_wp2_with fail
    go_ret2
    exact ⟨by rw [HV.out]; rfl, _, rfl⟩
  · have HV : Hid ((a + 1) / 2 = q + 1) := Lib.hid (by omega)
    clear hq hr2
    go_enter Tryz.func217, Tryz.ntmps217
    go_wp2_with fail
    refine HB.out.mono ?_
    rintro e w' ⟨rfl, n, rfl⟩
    go_wp2_with fail
    go_ret2
    exact ⟨by rw [HV.out]; rfl, _, rfl⟩
end Go.Proofs.YtikjdmbfjkbndaaGreat
