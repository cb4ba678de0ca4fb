/- Timestamps: plain, and the walks of package stamp and of assoc.instant. Conditions: those named in each theorem. -/
import Derived.Test.YtikjdmbfjkbndaaGreatC8
namespace Go.Proofs.YtikjdmbfjkbndaaGreat
open Go.RowKit

def fS (t : Int) : Int := (t - t / 1000000000 * 1000000000) * 4294967296 / 1000000000
def ofS (t : Int) : Int := (t / 1000000000 * 4294967296 + fS t) % 18446744073709551616
def dfS (a b : Int) : Int := (a - b + 9223372036854775808) % 18446744073709551616 - 9223372036854775808
def nnS (f : Int) : Int := (f * 1000000000 + 4294967295) / 4294967296
def tmR (s pivot : Int) : Int := (pivot / 1000000000 + (dfS s (ofS pivot) / 4294967296 + (fS pivot + dfS s (ofS pivot) % 4294967296) / 4294967296)) * 1000000000 + nnS ((fS pivot + dfS s (ofS pivot) % 4294967296) % 4294967296)
def tmS (s pivot : Int) : Int × Int :=
  if pivot < -8000000000000000000 ∨ 8000000000000000000 < pivot then (0, 2)
  else if tmR s pivot < -8000000000000000000 ∨ 8000000000000000000 < tmR s pivot then (0, 3) else (tmR s pivot, 0)
/-- the instant of a timestamp near now, relative to the base -/
def instS (s now : Int) : Int × Bool :=
  if (tmS s (3900000000000000000 + now)).2 = 0 ∧ isT ((tmS s (3900000000000000000 + now)).1 - 3900000000000000000) = true then ((tmS s (3900000000000000000 + now)).1 - 3900000000000000000, true) else (0, false)
theorem fS_bd (t : Int) : 0 ≤ fS t ∧ fS t ≤ 4294967295 := by unfold fS; omega
theorem dfS_bd (a b : Int) : -9223372036854775808 ≤ dfS a b ∧ dfS a b ≤ 9223372036854775807 := by unfold dfS; omega
theorem nnS_bd {f : Int} (h0 : 0 ≤ f) (h1 : f ≤ 4294967295) : 0 ≤ nnS f ∧ nnS f ≤ 1000000000 := by unfold nnS; omega
theorem i64_and32 (n : Int) : bits .and .i64 n 4294967295 = n % 4294967296 := by
  have hm : (BitVec.ofInt 64 4294967295).toNat = 2 ^ 32 - 1 := by decide
  have key : (BitVec.ofInt 64 n &&& BitVec.ofInt 64 4294967295).toNat = (n % ((2 ^ 64 : Nat) : Int)).toNat % 2 ^ 32 := by
    rw [BitVec.toNat_and, BitVec.toNat_ofInt, hm, Nat.and_two_pow_sub_one_eq_mod]
  show IntKind.i64.wrap ((BitVec.ofInt 64 n &&& BitVec.ofInt 64 4294967295).toNat : Nat) = n % 4294967296
  rw [key, IntKind.wrap_i64]
  omega
set_option maxRecDepth 100000 in
set_option maxHeartbeats 1000000 in
theorem pSplit (t : Int) (h0 : -9000000000000000000 ≤ t) (h1 : t ≤ 9223372036854775807) (w : World) :
    Calls Tryz.prog 275 #[.int .i64 t] w fun e w' => e = .returned (.tuple #[.int .i64 (t / 1000000000), .int .i64 (fS t)]) ∧ Only [] w w' := by
  have HF := Lib.hid (fun w' => o_drew (ffloor t 1000000000 w' (by omega) h1 (by omega) (by omega)))
  have HE : Hid (fS t = (t - t / 1000000000 * 1000000000) * 4294967296 / 1000000000) := Lib.hid rfl
  obtain ⟨q, hq⟩ : ∃ q, t / 1000000000 = q := ⟨_, rfl⟩
  have hb := fS_bd t
  generalize fS t = f at HE hb ⊢
  rw [hq] at HF HE ⊢
  have r1 : IntKind.i64.wrap (q * 1000000000) = q * 1000000000 := by rw [IntKind.wrap_i64]; omega
  obtain ⟨r, hr⟩ : ∃ r, t - q * 1000000000 = r := ⟨_, rfl⟩
  have r2 : IntKind.i64.wrap (t - q * 1000000000) = r := by rw [IntKind.wrap_i64]; omega
  have hrb : 0 ≤ r ∧ r ≤ 999999999 := by omega
  rw [hr] at HE
  have r3 : IntKind.i64.wrap (r * 4294967296) = r * 4294967296 := by rw [IntKind.wrap_i64]; omega
  have r4 : (r * 4294967296).tdiv 1000000000 = f := by rw [Int.tdiv_eq_ediv_of_nonneg (by omega), ← HE.out]
  have r5 : IntKind.i64.wrap f = f := by rw [IntKind.wrap_i64]; omega
  clear hq hr HE
  go_enter Tryz.func275, Tryz.ntmps275
  have OO := Lib.hid (Only.refl [] w)
  go_wp2_with fail
  refine (HF.out _).mono ?_
  rintro e w2 ⟨rfl, ho⟩
  replace OO := Lib.hid (OO.out.nil_trans ho)
  clear ho
  go_wp2
  go_ret2
  exact ⟨rfl, OO.out⟩
set_option maxRecDepth 100000 in
set_option maxHeartbeats 1000000 in
theorem pStampOf (t : Int) (h0 : -9000000000000000000 ≤ t) (h1 : t ≤ 9223372036854775807) (w : World) :
    Calls Tryz.prog 277 #[.int .i64 t] w fun e w' => e = .returned (.int .u64 (ofS t)) ∧ Only [] w w' := by
  have HF := Lib.hid (fun w' => pSplit t h0 h1 w')
  have hb := fS_bd t
  have HE : Hid (ofS t = (t / 1000000000 * 4294967296 + fS t) % 18446744073709551616) := Lib.hid rfl
  generalize ofS t = res at HE ⊢
  obtain ⟨q, hq⟩ : ∃ q, t / 1000000000 = q := ⟨_, rfl⟩
  generalize fS t = f at HF HE hb
  rw [hq] at HF HE
  obtain ⟨fn, rfl⟩ : ∃ fn : Nat, f = (fn : Int) := ⟨f.toNat, by omega⟩
  obtain ⟨u, hu⟩ : ∃ u, IntKind.u64.wrap q = u := ⟨_, rfl⟩
  obtain ⟨x, hx⟩ : ∃ x : Nat, (x : Int) = q % 4294967296 := ⟨(q % 4294967296).toNat, by omega⟩
  have hub : u = q % 18446744073709551616 := by rw [← hu, IntKind.wrap_u64]
  have r1 : IntKind.u64.wrap (u * 4294967296) = ((4294967296 * x : Nat) : Int) := by rw [IntKind.wrap_u64, hub]; omega
  have r2 : IntKind.u64.wrap (fn : Int) = (fn : Int) := by rw [IntKind.wrap_u64]; omega
  have r3 : IntKind.u64.wrap ((4294967296 * x : Nat) : Int) = ((4294967296 * x : Nat) : Int) := by rw [IntKind.wrap_u64]; omega
  have hor := or_low (a := 4294967296 * x) (b := fn) 32 (by omega) (by omega) x (by rfl) (by omega)
  have HV : Hid (res = ((4294967296 * x + fn : Nat) : Int)) := Lib.hid (by rw [HE.out]; omega)
  generalize 4294967296 * x = y at r1 r3 hor HV
  clear hq hx HE hub
  go_enter Tryz.func277, Tryz.ntmps277
  have OO := Lib.hid (Only.refl [] w)
  go_wp2_with fail
  refine (HF.out _).mono ?_
  rintro e w2 ⟨rfl, ho⟩
  replace OO := Lib.hid (OO.out.nil_trans ho)
  clear ho
  go_wp2
  go_ret
  exact ⟨by rw [HV.out]; rfl, OO.out⟩
set_option maxRecDepth 100000 in
set_option maxHeartbeats 1000000 in
theorem pDiff (a b : Int) (w : World) :
    Calls Tryz.prog 276 #[.int .u64 a, .int .u64 b] w fun e w' => e = .returned (.int .i64 (dfS a b)) ∧ Only [] w w' := by
  have r1 : IntKind.i64.wrap (IntKind.u64.wrap (a - b)) = dfS a b := by unfold dfS; rw [IntKind.wrap_u64, IntKind.wrap_i64]; omega
  generalize dfS a b = r at r1 ⊢
  go_enter Tryz.func276, Tryz.ntmps276
  have OO := Lib.hid (Only.refl [] w)
  go_wp2
  go_ret
  exact ⟨rfl, OO.out⟩
set_option maxRecDepth 100000 in
set_option maxHeartbeats 1000000 in
theorem pNanos (f : Int) (h0 : 0 ≤ f) (h1 : f ≤ 4294967295) (w : World) :
    Calls Tryz.prog 280 #[.int .i64 f] w fun e w' => e = .returned (.int .i64 (nnS f)) ∧ Only [] w w' := by
  have HE : Hid ((f * 1000000000 + 4294967295) / 4294967296 = nnS f) := Lib.hid rfl
  have r1 : IntKind.i64.wrap (f * 1000000000) = f * 1000000000 := by rw [IntKind.wrap_i64]; omega
  have r2 : IntKind.i64.wrap (f * 1000000000 + 4294967295) = f * 1000000000 + 4294967295 := by rw [IntKind.wrap_i64]; omega
  go_enter Tryz.func280, Tryz.ntmps280
  have OO := Lib.hid (Only.refl [] w)
  go_wp2
  go_ret
  exact ⟨by rw [← HE.out]; rfl, OO.out⟩
set_option maxRecDepth 100000 in
set_option maxHeartbeats 1000000 in
theorem pTime (s pivot : Int) (h0 : -9223372036854775808 ≤ pivot) (h1 : pivot ≤ 9223372036854775807) (w : World) :
    Calls Tryz.prog 222 #[.int .u64 s, .int .i64 pivot] w fun e w' => e = .returned (.tuple #[.int .i64 (tmS s pivot).1, .int .i64 (tmS s pivot).2]) ∧ Only [] w w' := by
  by_cases p1 : pivot < -8000000000000000000
  · have d1 : decide (pivot < -8000000000000000000) = true := decide_eq_true p1
    rw [show tmS s pivot = (0, 2) from by unfold tmS; rw [if_pos (.inl p1)]]
    go_enter Tryz.func222, Tryz.ntmps222
    have OO := Lib.hid (Only.refl [] w)
    go_wp2
    go_ret2
    exact ⟨rfl, OO.out⟩
  · have d1 : decide (pivot < -8000000000000000000) = false := decide_eq_false p1
    by_cases p2 : 8000000000000000000 < pivot
    · have d2 : decide (8000000000000000000 < pivot) = true := decide_eq_true p2
      rw [show tmS s pivot = (0, 2) from by unfold tmS; rw [if_pos (.inr p2)]]
      go_enter Tryz.func222, Tryz.ntmps222
      have OO := Lib.hid (Only.refl [] w)
      go_wp2
      go_ret2
      exact ⟨rfl, OO.out⟩
    · have d2 : decide (8000000000000000000 < pivot) = false := decide_eq_false p2
      have hne : ¬ (pivot < -8000000000000000000 ∨ 8000000000000000000 < pivot) := by omega
      have HE : Hid (tmS s pivot = if (pivot / 1000000000 + (dfS s (ofS pivot) / 4294967296 + (fS pivot + dfS s (ofS pivot) % 4294967296) / 4294967296)) * 1000000000 + nnS ((fS pivot + dfS s (ofS pivot) % 4294967296) % 4294967296) < -8000000000000000000 ∨ 8000000000000000000 < (pivot / 1000000000 + (dfS s (ofS pivot) / 4294967296 + (fS pivot + dfS s (ofS pivot) % 4294967296) / 4294967296)) * 1000000000 + nnS ((fS pivot + dfS s (ofS pivot) % 4294967296) % 4294967296) then (0, 3) else ((pivot / 1000000000 + (dfS s (ofS pivot) / 4294967296 + (fS pivot + dfS s (ofS pivot) % 4294967296) / 4294967296)) * 1000000000 + nnS ((fS pivot + dfS s (ofS pivot) % 4294967296) % 4294967296), 0)) := Lib.hid (by unfold tmS; rw [if_neg hne]; rfl)
      generalize tmS s pivot = res at HE ⊢
      have HS := Lib.hid (fun w' => pSplit pivot (by omega) (by omega) w')
      have HO := Lib.hid (fun w' => pStampOf pivot (by omega) (by omega) w')
      have HD := Lib.hid (fun w' => pDiff s (ofS pivot) w')
      have hfb := fS_bd pivot
      have hdb := dfS_bd s (ofS pivot)
      generalize dfS s (ofS pivot) = d at HE HD hdb
      generalize ofS pivot = op at HO HD
      generalize fS pivot = f at HE HS hfb
      obtain ⟨q, hq⟩ : ∃ q, pivot / 1000000000 = q := ⟨_, rfl⟩
      rw [hq] at HE HS
      have hqb : -8000000000 ≤ q ∧ q ≤ 8000000000 := by omega
      have b1 := i64_and32 d
      obtain ⟨d0, hd0⟩ : ∃ d0, d % 4294967296 = d0 := ⟨_, rfl⟩
      obtain ⟨d1', hd1⟩ : ∃ d1, d / 4294967296 = d1 := ⟨_, rfl⟩
      rw [hd0] at b1 HE
      rw [hd1] at HE
      have hd0b : 0 ≤ d0 ∧ d0 ≤ 4294967295 := by omega
      have hd1b : -2147483648 ≤ d1' ∧ d1' ≤ 2147483647 := by omega
      obtain ⟨lo, hlo⟩ : ∃ lo, f + d0 = lo := ⟨_, rfl⟩
      have r1 : IntKind.i64.wrap (f + d0) = lo := by rw [IntKind.wrap_i64]; omega
      rw [hlo] at HE
      obtain ⟨c, hc⟩ : ∃ c, lo / 4294967296 = c := ⟨_, rfl⟩
      have b2 := i64_and32 lo
      obtain ⟨l0, hl0⟩ : ∃ l0, lo % 4294967296 = l0 := ⟨_, rfl⟩
      rw [hl0] at b2 HE
      rw [hc] at HE
      have hl0b : 0 ≤ l0 ∧ l0 ≤ 4294967295 := by omega
      have hcb : 0 ≤ c ∧ c ≤ 1 := by omega
      have r2 : IntKind.i64.wrap (d1' + c) = d1' + c := by rw [IntKind.wrap_i64]; omega
      obtain ⟨sec, hsec⟩ : ∃ sec, q + (d1' + c) = sec := ⟨_, rfl⟩
      have r3 : IntKind.i64.wrap (q + (d1' + c)) = sec := by rw [IntKind.wrap_i64]; omega
      rw [hsec] at HE
      have HN := Lib.hid (fun w' => pNanos l0 hl0b.1 hl0b.2 w')
      have hnb := nnS_bd hl0b.1 hl0b.2
      generalize nnS l0 = nn at HE HN hnb
      have HM := Lib.hid (fun w' => o_same (fmul sec 1000000000 w' (by omega) (by omega) (by omega) (by omega)))
      clear hq hlo hd0 hl0 hsec hne
      obtain ⟨m, hm⟩ : ∃ m, sec * 1000000000 = m := ⟨_, rfl⟩
      rw [hm] at HE HM
      by_cases hin : -9223372036854775808 ≤ m ∧ m ≤ 9223372036854775807
      · rw [orZ_yes hin.1 hin.2, inI_yes hin.1 hin.2] at HM
        have HA := Lib.hid (fun w' => o_same (fadd m nn w' hin.1 hin.2 (by omega) (by omega)))
        obtain ⟨v, hv⟩ : ∃ v, m + nn = v := ⟨_, rfl⟩
        rw [hv] at HE HA
        by_cases hv2 : -9223372036854775808 ≤ v ∧ v ≤ 9223372036854775807
        · rw [orZ_yes hv2.1 hv2.2, inI_yes hv2.1 hv2.2] at HA
          by_cases v1 : v < -8000000000000000000
          · have e1 : decide (v < -8000000000000000000) = true := decide_eq_true v1
            obtain rfl : res = (0, 3) := by rw [HE.out, if_pos (.inl v1)]
            clear HE hm hv
            go_enter Tryz.func222, Tryz.ntmps222
            have OO := Lib.hid (Only.refl [] w)
            go_wp2_with fail
            refine (HS.out _).mono ?_
            rintro e w2 ⟨rfl, ho⟩
            replace OO := Lib.hid (OO.out.nil_trans ho)
            clear ho
            go_wp2_with fail
            refine (HO.out _).mono ?_
            rintro e w3 ⟨rfl, ho⟩
            replace OO := Lib.hid (OO.out.nil_trans ho)
            clear ho
            go_wp2_with fail
            refine (HD.out _).mono ?_
            rintro e w4 ⟨rfl, ho⟩
            replace OO := Lib.hid (OO.out.nil_trans ho)
            clear ho
            go_wp2_with fail
            refine (HM.out _).mono ?_
            rintro e w5 ⟨rfl, ho⟩
            replace OO := Lib.hid (OO.out.nil_trans ho)
            clear ho
            go_wp2_with fail
            refine (HN.out _).mono ?_
            rintro e w6 ⟨rfl, ho⟩
            replace OO := Lib.hid (OO.out.nil_trans ho)
            clear ho
            go_wp2_with fail
            refine (HA.out _).mono ?_
            rintro e w7 ⟨rfl, ho⟩
            replace OO := Lib.hid (OO.out.nil_trans ho)
            clear ho
            go_wp2
            go_ret2
            exact ⟨rfl, OO.out⟩
          · have e1 : decide (v < -8000000000000000000) = false := decide_eq_false v1
            by_cases v2 : 8000000000000000000 < v
            · have e2 : decide (8000000000000000000 < v) = true := decide_eq_true v2
              obtain rfl : res = (0, 3) := by rw [HE.out, if_pos (.inr v2)]
              clear HE hm hv
              go_enter Tryz.func222, Tryz.ntmps222
              have OO := Lib.hid (Only.refl [] w)
              go_wp2_with fail
              refine (HS.out _).mono ?_
              rintro e w2 ⟨rfl, ho⟩
              replace OO := Lib.hid (OO.out.nil_trans ho)
              clear ho
              go_wp2_with fail
              refine (HO.out _).mono ?_
              rintro e w3 ⟨rfl, ho⟩
              replace OO := Lib.hid (OO.out.nil_trans ho)
              clear ho
              go_wp2_with fail
              refine (HD.out _).mono ?_
              rintro e w4 ⟨rfl, ho⟩
              replace OO := Lib.hid (OO.out.nil_trans ho)
              clear ho
              go_wp2_with fail
              refine (HM.out _).mono ?_
              rintro e w5 ⟨rfl, ho⟩
              replace OO := Lib.hid (OO.out.nil_trans ho)
              clear ho
              go_wp2_with fail
              refine (HN.out _).mono ?_
              rintro e w6 ⟨rfl, ho⟩
              replace OO := Lib.hid (OO.out.nil_trans ho)
              clear ho
              go_wp2_with fail
              refine (HA.out _).mono ?_
              rintro e w7 ⟨rfl, ho⟩
              replace OO := Lib.hid (OO.out.nil_trans ho)
              clear ho
              go_wp2
              go_ret2
              exact ⟨rfl, OO.out⟩
            · have e2 : decide (8000000000000000000 < v) = false := decide_eq_false v2
              obtain rfl : res = (v, 0) := by rw [HE.out, if_neg (by omega)]
              clear HE hm hv
              go_enter Tryz.func222, Tryz.ntmps222
              have OO := Lib.hid (Only.refl [] w)
              go_wp2_with fail
              refine (HS.out _).mono ?_
              rintro e w2 ⟨rfl, ho⟩
              replace OO := Lib.hid (OO.out.nil_trans ho)
              clear ho
              go_wp2_with fail
              refine (HO.out _).mono ?_
              rintro e w3 ⟨rfl, ho⟩
              replace OO := Lib.hid (OO.out.nil_trans ho)
              clear ho
              go_wp2_with fail
              refine (HD.out _).mono ?_
              rintro e w4 ⟨rfl, ho⟩
              replace OO := Lib.hid (OO.out.nil_trans ho)
              clear ho
              go_wp2_with fail
              refine (HM.out _).mono ?_
              rintro e w5 ⟨rfl, ho⟩
              replace OO := Lib.hid (OO.out.nil_trans ho)
              clear ho
              go_wp2_with fail
              refine (HN.out _).mono ?_
              rintro e w6 ⟨rfl, ho⟩
              replace OO := Lib.hid (OO.out.nil_trans ho)
              clear ho
              go_wp2_with fail
              refine (HA.out _).mono ?_
              rintro e w7 ⟨rfl, ho⟩
              replace OO := Lib.hid (OO.out.nil_trans ho)
              clear ho
              go_wp2
              go_ret2
              exact ⟨rfl, OO.out⟩
        · rw [orZ_no (by omega), inI_no (by omega)] at HA
          obtain rfl : res = (0, 3) := by rw [HE.out, if_pos (by omega)]
          clear HE hm hv
          go_enter Tryz.func222, Tryz.ntmps222
          have OO := Lib.hid (Only.refl [] w)
          go_wp2_with fail
          refine (HS.out _).mono ?_
          rintro e w2 ⟨rfl, ho⟩
          replace OO := Lib.hid (OO.out.nil_trans ho)
          clear ho
          go_wp2_with fail
          refine (HO.out _).mono ?_
          rintro e w3 ⟨rfl, ho⟩
          replace OO := Lib.hid (OO.out.nil_trans ho)
          clear ho
          go_wp2_with fail
          refine (HD.out _).mono ?_
          rintro e w4 ⟨rfl, ho⟩
          replace OO := Lib.hid (OO.out.nil_trans ho)
          clear ho
          go_wp2_with fail
          refine (HM.out _).mono ?_
          rintro e w5 ⟨rfl, ho⟩
          replace OO := Lib.hid (OO.out.nil_trans ho)
          clear ho
          go_wp2_with fail
          refine (HN.out _).mono ?_
          rintro e w6 ⟨rfl, ho⟩
          replace OO := Lib.hid (OO.out.nil_trans ho)
          clear ho
          go_wp2_with fail
          refine (HA.out _).mono ?_
          rintro e w7 ⟨rfl, ho⟩
          replace OO := Lib.hid (OO.out.nil_trans ho)
          clear ho
          go_wp2
          go_ret2
          exact ⟨rfl, OO.out⟩
      · rw [orZ_no (by omega), inI_no (by omega)] at HM
        obtain rfl : res = (0, 3) := by rw [HE.out, if_pos (by omega)]
        clear HE hm
        go_enter Tryz.func222, Tryz.ntmps222
        have OO := Lib.hid (Only.refl [] w)
        go_wp2_with fail
        refine (HS.out _).mono ?_
        rintro e w2 ⟨rfl, ho⟩
        replace OO := Lib.hid (OO.out.nil_trans ho)
        clear ho
        go_wp2_with fail
        refine (HO.out _).mono ?_
        rintro e w3 ⟨rfl, ho⟩
        replace OO := Lib.hid (OO.out.nil_trans ho)
        clear ho
        go_wp2_with fail
        refine (HD.out _).mono ?_
        rintro e w4 ⟨rfl, ho⟩
        replace OO := Lib.hid (OO.out.nil_trans ho)
        clear ho
        go_wp2_with fail
        refine (HM.out _).mono ?_
        rintro e w5 ⟨rfl, ho⟩
        replace OO := Lib.hid (OO.out.nil_trans ho)
        clear ho
        go_wp2
        go_ret2
        exact ⟨rfl, OO.out⟩
set_option maxRecDepth 100000 in
set_option maxHeartbeats 1000000 in
theorem pReading (n : Int) (w : World) :
    Calls Tryz.prog 73 #[.int .i64 n] w fun e w' => e = .returned (.bool (isT n)) ∧ Only [] w w' := by
  by_cases h1 : (-4503599627370496 : Int) ≤ n
  · have a1 : decide ((-4503599627370496 : Int) ≤ n) = true := decide_eq_true h1
    obtain ⟨r, hr⟩ : ∃ r, decide (n ≤ (4503599627370496 : Int)) = r := ⟨_, rfl⟩
    rw [show isT n = r from by unfold isT wth; rw [a1, hr]; rfl]
    go_enter Tryz.func73, Tryz.ntmps73
    have OO := Lib.hid (Only.refl [] w)
    go_wp2
    go_ret
    exact ⟨rfl, OO.out⟩
  · have a1 : decide ((-4503599627370496 : Int) ≤ n) = false := decide_eq_false h1
    rw [show isT n = false from by unfold isT wth; rw [a1]; rfl]
    go_enter Tryz.func73, Tryz.ntmps73
    have OO := Lib.hid (Only.refl [] w)
    go_wp2
    go_ret
    exact ⟨rfl, OO.out⟩
set_option maxRecDepth 100000 in
set_option maxHeartbeats 1000000 in
theorem pInstant (s now : Int) (hn : isT now = true) (w : World) :
    Calls Tryz.prog 138 #[.int .u64 s, .int .i64 now] w fun e w' => e = .returned (.tuple #[.int .i64 (instS s now).1, .bool (instS s now).2]) ∧ Only [] w w' := by
  obtain ⟨n0, n1⟩ := wth_iff.1 (show isT now = true from hn)
  have HE : Hid (instS s now = if (tmS s (3900000000000000000 + now)).2 = 0 ∧ isT ((tmS s (3900000000000000000 + now)).1 - 3900000000000000000) = true then ((tmS s (3900000000000000000 + now)).1 - 3900000000000000000, true) else (0, false)) := Lib.hid rfl
  generalize instS s now = res at HE ⊢
  obtain ⟨pv, hpv⟩ : ∃ pv, 3900000000000000000 + now = pv := ⟨_, rfl⟩
  have r1 : IntKind.i64.wrap (3900000000000000000 + now) = pv := by rw [IntKind.wrap_i64]; omega
  rw [hpv] at HE
  have HT := Lib.hid (fun w' => pTime s pv (by omega) (by omega) w')
  have htb : -8000000000000000000 ≤ (tmS s pv).1 ∧ (tmS s pv).1 ≤ 8000000000000000000 := by
    unfold tmS
    split
    · simp
    · split
      · simp
      · simp only []; omega
  generalize tmS s pv = tt at HE HT htb
  obtain ⟨tv, te⟩ := tt
  dsimp only at HE HT htb
  obtain ⟨v, hv⟩ : ∃ v, tv - 3900000000000000000 = v := ⟨_, rfl⟩
  have HI : Hid (-12000000000000000000 ≤ v) := Lib.hid (by omega)
  rw [hv] at HE
  clear hpv
  by_cases hz : te = 0
  · subst hz
    obtain ⟨u, hu⟩ : ∃ u, IntKind.i64.wrap (tv - 3900000000000000000) = u := ⟨_, rfl⟩
    have HR := Lib.hid (fun w' => pReading u w')
    have hiu : isT v = isT u := by
      have h2 : u = v ∨ (isT v = false ∧ isT u = false) := by
        rw [IntKind.wrap_i64] at hu
        by_cases hlow : v < -9223372036854775808
        · refine .inr ⟨?_, ?_⟩
          · unfold isT; rw [wth_no]; omega
          · unfold isT; rw [wth_no]; omega
        · exact .inl (by omega)
      rcases h2 with h2 | h2
      · rw [h2]
      · rw [h2.1, h2.2]
    have hvu : isT u = true → u = v := by
      intro h
      obtain ⟨u0, u1⟩ := wth_iff.1 (show isT u = true from h)
      rw [IntKind.wrap_i64] at hu
      omega
    rw [hiu] at HE
    generalize isT u = b at HE HR hvu
    cases b
    · obtain rfl : res = (0, false) := by have := HE.out; simpa using this
      clear HE hvu hv
      go_enter Tryz.func138, Tryz.ntmps138
      have OO := Lib.hid (Only.refl [] w)
      go_wp2_with fail
      refine (HT.out _).mono ?_
      rintro e w2 ⟨rfl, ho⟩
      replace OO := Lib.hid (OO.out.nil_trans ho)
      clear ho
      go_wp2_with fail
      refine (HR.out _).mono ?_
      rintro e w3 ⟨rfl, ho⟩
      replace OO := Lib.hid (OO.out.nil_trans ho)
      clear ho
      go_wp2
      go_ret2
      exact ⟨rfl, OO.out⟩
    · obtain rfl := hvu rfl
      obtain rfl : res = (u, true) := by have := HE.out; simpa using this
      clear HE hvu hv
      go_enter Tryz.func138, Tryz.ntmps138
      have OO := Lib.hid (Only.refl [] w)
      go_wp2_with fail
      refine (HT.out _).mono ?_
      rintro e w2 ⟨rfl, ho⟩
      replace OO := Lib.hid (OO.out.nil_trans ho)
      clear ho
      go_wp2_with fail
      refine (HR.out _).mono ?_
      rintro e w3 ⟨rfl, ho⟩
      replace OO := Lib.hid (OO.out.nil_trans ho)
      clear ho
      go_wp2
      go_ret2
      exact ⟨rfl, OO.out⟩
  · have q1 : (te != 0) = true := by simpa using hz
    obtain rfl : res = (0, false) := by rw [HE.out, if_neg (fun h => hz h.1)]
    clear HE hv
    go_enter Tryz.func138, Tryz.ntmps138
    have OO := Lib.hid (Only.refl [] w)
    go_wp2_with fail
    refine (HT.out _).mono ?_
    rintro e w2 ⟨rfl, ho⟩
    replace OO := Lib.hid (OO.out.nil_trans ho)
    clear ho
    go_wp2
    go_ret2
    exact ⟨rfl, OO.out⟩
end Go.Proofs.YtikjdmbfjkbndaaGreat
