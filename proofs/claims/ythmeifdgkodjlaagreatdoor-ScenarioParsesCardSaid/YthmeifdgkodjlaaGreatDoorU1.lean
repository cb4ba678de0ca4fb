/- timesyncref09: segment, Check and Bound compute the oscillator's error and its greatest frequency error. Condition: the length. -/
import Derived.Test.YthmeifdgkodjlaaGreatDoorG2
namespace Go.Proofs.YthmeifdgkodjlaaGreatDoor
open Go.RowKit

set_option maxRecDepth 100000 in
set_option maxHeartbeats 2000000 in
theorem rSeg {w : World} {p : Option Addr} {n cap : Nat} {l : List Sg} (ph : Int) (k : Nat) (hk : k < l.length) (hv : VRow sgC 2 w p n cap l) (hn : n ≤ 100000) :
    Calls Tryz.prog 86 #[.agg #[.int .i64 ph, .slice p n cap], .int .i64 k] w fun e w' => e = .returned (.int .i64 (sgE l k)) ∧ Only [] w w' := by
  have hl := hv.len
  subst hl
  have HV := Lib.hid hv; clear hv
  generalize hgr : sgE l k = res
  have hsE : res = if inR (l.getD k sg0).a 0 1125899906842624 = true ∧ inR (l.getD k sg0).p (-500000) 500000 = true then (if k = 0 ∧ (l.getD k sg0).a ≠ 0 then 7 else if 0 < k ∧ (l.getD k sg0).a ≤ (l.getD (k - 1) sg0).a then 12 else 0) else 3 := hgr.symm.trans rfl
  clear hgr
  go_enter Tryz.func86, Tryz.ntmps86
  go_upto_region 1 with (fail)
  refine alloc_abs (G := fun w0 => Code.wp _ _ _ _ w0) ?_
  intro w1 hb1 ho1 hs1
  have B1 := Lib.hid hb1; have O1 := Lib.hid ho1
  clear hb1 ho1 hs1
  have g1 := cell_got B1.out 1; have l0 := got_lt B1.out
  obtain ⟨bk, off, hp, c0, c1, lb⟩ := HV.out.sg O1.out hk
  subst hp
  generalize l.getD k sg0 = s at c0 c1 hsE
  have HSE := Lib.hid hsE
  clear hsE
  go_upto_region 2 with (fail)
  refine alloc_abs (G := fun w0 => Code.wp _ _ _ _ w0) ?_
  intro w2 hb2 ho2 hs2
  have E2 := Lib.hid hb2; have O2 := Lib.hid (O1.out.nil_trans ho2); have B3 := Lib.hid (ho2.got B1.out (by simp))
  clear hb2 ho2 hs2 c0 c1 lb g1 l0
  have c0 := cell_got E2.out 0; have c1 := cell_got E2.out 1; have le := got_lt E2.out
  have g1 := cell_got B3.out 1; have l0 := got_lt B3.out
  by_cases ha : inR s.a 0 1125899906842624 = true
  · obtain ⟨a0, a1⟩ := inR_t.1 ha
    have e1 : decide (s.a < 0) = false := by simp; omega
    have e2 : decide (s.a > 1125899906842624) = false := by simp; omega
    have e3 : decide (1125899906842624 < s.a) = false := by simp; omega
    by_cases hp : inR s.p (-500000) 500000 = true
    · obtain ⟨b0, b1⟩ := inR_t.1 hp
      have e4 : decide (s.p < -500000) = false := by simp; omega
      have e5 : decide (s.p > 500000) = false := by simp; omega
      have e6 : decide (500000 < s.p) = false := by simp; omega
      have hs2 := HSE.out
      rw [if_pos ⟨ha, hp⟩] at hs2
      by_cases hk0 : k = 0
      · have k1 : ((k : Int) == 0) = true := by rw [hk0]; rfl
        have k2 : decide (0 < (k : Int)) = false := by simp; omega
        have k3 : decide ((k : Int) > 0) = false := by simp; omega
        have k4 : decide (0 < k) = false := by simp; omega
        by_cases hz : s.a = 0
        · have z1 : (s.a != 0) = false := by simp [hz]
          have HX : Hid (res = 0) := Lib.hid (by rw [hs2, if_neg (fun q => q.2 hz), if_neg (fun q => by omega)])
          clear hs2 hz ha hp hk0
          go_wp2_with fail
          go_quiet (fail)
          go_wp2
          go_ret
          exact ⟨by rw [HX.out]; rfl, O2.out.nil_trans (only_dr2 _ _)⟩
        · have z1 : (s.a != 0) = true := by simp [hz]
          have HX : Hid (res = 7) := Lib.hid (by rw [hs2, if_pos ⟨hk0, hz⟩])
          clear hs2 hz ha hp hk0
          go_wp2
          go_ret
          exact ⟨by rw [HX.out]; rfl, O2.out⟩
      · have k1 : ((k : Int) == 0) = false := by rw [beq_eq_false_iff_ne]; omega
        have k2 : decide (0 < (k : Int)) = true := by simp; omega
        have k3 : decide ((k : Int) > 0) = true := by simp; omega
        have k4 : decide (0 < k) = true := by simp; omega
        obtain ⟨bk', off', hp', p0, p1, lb⟩ := HV.out.sg O2.out (show k - 1 < l.length by omega)
        cases hp'
        generalize (l.getD (k - 1) sg0) = t at p0 p1 hs2
        clear p1
        have hi1 : (1 : Int) ≤ (k : Int) := by omega
        have hi2 : (k : Int) - 1 < (l.length : Int) := by omega
        have hi3 : IntKind.i64.wrap ((k : Int) - 1) = (k : Int) - 1 := IntWalk.i64_in _ (by omega)
        have hi4 : ((k : Int) - 1).toNat = k - 1 := by omega
        by_cases hle : s.a ≤ t.a
        · have z1 : decide (s.a ≤ t.a) = true := by simp [hle]
          have HX : Hid (res = 12) := Lib.hid (by rw [hs2, if_neg (fun q => hk0 q.1), if_pos ⟨by omega, hle⟩])
          clear hs2 hle ha hp hk0
          go_wp2_with fail
          go_quiet (fail)
          go_wp2
          go_ret
          exact ⟨by rw [HX.out]; rfl, O2.out.nil_trans (only_dr2 _ _)⟩
        · have z1 : decide (s.a ≤ t.a) = false := by simpa using hle
          have HX : Hid (res = 0) := Lib.hid (by rw [hs2, if_neg (fun q => hk0 q.1), if_neg (fun q => hle q.2)])
          clear hs2 hle ha hp hk0
          go_wp2_with fail
          go_quiet (fail)
          clear hi3 hi4
          go_wp2
          go_ret
          exact ⟨by rw [HX.out]; rfl, O2.out.nil_trans (only_dr2 _ _)⟩
    · have HX : Hid (res = 3) := Lib.hid (by rw [HSE.out, if_neg (fun q => hp q.2)])
      rcases inR_no hp with hq | ⟨hq, hr⟩
      · have e4 : decide (s.p < -500000) = true := by simp; omega
        clear ha hp
        go_wp2
        go_ret
        exact ⟨by rw [HX.out]; rfl, O2.out⟩
      · have e4 : decide (s.p < -500000) = false := by simp; omega
        have e5 : decide (s.p > 500000) = true := by simp; omega
        have e6 : decide (500000 < s.p) = true := by simp; omega
        clear ha hp
        go_wp2
        go_ret
        exact ⟨by rw [HX.out]; rfl, O2.out⟩
  · have HX : Hid (res = 3) := Lib.hid (by rw [HSE.out, if_neg (fun q => ha q.1)])
    rcases inR_no ha with hq | ⟨hq, hr⟩
    · have e1 : decide (s.a < 0) = true := by simp; omega
      clear ha
      go_wp2
      go_ret
      exact ⟨by rw [HX.out]; rfl, O2.out⟩
    · have e1 : decide (s.a < 0) = false := by simp; omega
      have e2 : decide (s.a > 1125899906842624) = true := by simp; omega
      have e3 : decide (1125899906842624 < s.a) = true := by simp; omega
      clear ha
      go_wp2
      go_ret
      exact ⟨by rw [HX.out]; rfl, O2.out⟩
set_option maxRecDepth 100000 in
set_option maxHeartbeats 2000000 in
theorem rOsc {w : World} {p : Option Addr} {n cap : Nat} {l : List Sg} (ph : Int) (hv : VRow sgC 2 w p n cap l) (hn : n ≤ 100000) :
    Calls Tryz.prog 49 #[.agg #[.int .i64 ph, .slice p n cap]] w fun e w' => e = .returned (.int .i64 (oscE ph l)) ∧ Only [] w w' := by
  have hl := hv.len
  subst hl
  have HV := Lib.hid hv; clear hv
  go_enter Tryz.func49, Tryz.ntmps49
  go_upto_region 1 with (fail)
  refine alloc_abs (G := fun w0 => Code.wp _ _ _ _ w0) ?_
  intro w1 hb1 ho1 hs1
  have B1 := Lib.hid hb1; have O1 := Lib.hid ho1
  clear hb1 ho1 hs1
  have g0 := cell_got B1.out 0; have g1 := cell_got B1.out 1
  have l0 := got_lt B1.out
  by_cases h0 : l.length = 0
  · have d1 : ((l.length : Int) == 0) = true := by rw [h0]; rfl
    have HR : Hid (oscE ph l = 14) := Lib.hid (by unfold oscE; rw [if_pos h0])
    go_wp2
    go_ret
    exact ⟨by rw [HR.out]; rfl, O1.out⟩
  · have d1 : ((l.length : Int) == 0) = false := by rw [beq_eq_false_iff_ne]; omega
    by_cases h16 : 16 < l.length
    · have d2 : decide ((l.length : Int) > 16) = true := by simp; omega
      have d3 : decide (16 < (l.length : Int)) = true := by simp; omega
      have HR : Hid (oscE ph l = 6) := Lib.hid (by unfold oscE; rw [if_neg h0, if_pos h16])
      go_wp2
      go_ret
      exact ⟨by rw [HR.out]; rfl, O1.out⟩
    · have d2 : decide ((l.length : Int) > 16) = false := by simp; omega
      have d3 : decide (16 < (l.length : Int)) = false := by simp; omega
      by_cases hph : inR ph (-1125899906842624) 1125899906842624 = true
      · obtain ⟨p0, p1⟩ := inR_t.1 hph
        have e1 : decide (ph < -1125899906842624) = false := by simp; omega
        have e2 : decide (ph > 1125899906842624) = false := by simp; omega
        have e3 : decide (1125899906842624 < ph) = false := by simp; omega
        have HR : Hid (oscE ph l = fe (sgE l) l.length 0) := Lib.hid (by unfold oscE; rw [if_neg h0, if_neg h16, if_pos hph])
        clear hph
        go_wp2
        go_loopw [3] (fun vi wr => OscR w1 l vi wr) (fun vi _ => l.length - (intOf vi).toNat)
        case atStart => exact ⟨0, Nat.zero_le _, rfl, rfl, Only.refl _ _⟩
        case round =>
          clear d1 d2 d3 e1 e2 e3 p0 p1 g0 g1 l0
          obtain ⟨k, hk, rfl, hfe, ho⟩ := hrel
          have HF := Lib.hid hfe; have OO := Lib.hid ho; have OA := Lib.hid (O1.out.nil_trans ho); have B2 := Lib.hid (ho.got B1.out (by simp))
          clear hfe ho
          have g0 := cell_got B2.out 0; have g1 := cell_got B2.out 1; have l0 := got_lt B2.out
          by_cases hlt : k < l.length
          · have HNO : Hid (sgE l k ≠ 0 → oscE ph l = sgE l k) := Lib.hid (fun h => by rw [HR.out, HF.out, fe_no hlt h])
            have HYE : Hid (sgE l k = 0 → fe (sgE l) l.length 0 = fe (sgE l) (l.length - (k + 1)) (k + 1)) := Lib.hid (fun h => by rw [HF.out, fe_yes hlt h])
            have HS := Lib.hid (rSeg ph k hlt (HV.out.kept OA.out) hn)
            generalize sgE l k = res at HNO HYE HS
            go_wp2_with fail
            refine HS.out.mono ?_
            rintro e w2 ⟨rfl, ho2⟩
            have O2 := Lib.hid (OO.out.nil_trans ho2); have OB := Lib.hid (OA.out.nil_trans ho2)
            clear ho2
            by_cases hr : res = 0
            · have HX := Lib.hid (HYE.out hr)
              have r1 : (res != 0) = false := by simp [hr]
              have r2 : (res == 0) = true := by simp [hr]
              clear hr HNO HYE
              go_wp2
              go_roundw
              case rel => exact ⟨k + 1, by omega, by go_num, HX.out, O2.out⟩
              case measure => first | (simp [intOf]; done) | (simp [intOf]; omega)
            · have HX := Lib.hid (HNO.out hr)
              have r1 : (res != 0) = true := by simp [hr]
              have r2 : (res == 0) = false := by simp [hr]
              clear hr HNO HYE
              go_wp2
              go_ret
              exact ⟨by rw [HX.out]; rfl, OB.out⟩
          · have HX : Hid (oscE ph l = 0) := Lib.hid (by rw [HR.out, HF.out, fe_end (by omega)])
            obtain rfl : k = l.length := by omega
            go_wp2
            go_ret
            exact ⟨by rw [HX.out]; rfl, OA.out⟩
      · have HR : Hid (oscE ph l = 3) := Lib.hid (by unfold oscE; rw [if_neg h0, if_neg h16, if_neg hph])
        rcases inR_no hph with hq | ⟨hq, hr⟩
        · have e1 : decide (ph < -1125899906842624) = true := by simp; omega
          clear hph
          go_wp2
          go_ret
          exact ⟨by rw [HR.out]; rfl, O1.out⟩
        · have e1 : decide (ph < -1125899906842624) = false := by simp; omega
          have e2 : decide (ph > 1125899906842624) = true := by simp; omega
          have e3 : decide (1125899906842624 < ph) = true := by simp; omega
          clear hph
          go_wp2
          go_ret
          exact ⟨by rw [HR.out]; rfl, O1.out⟩
set_option maxRecDepth 100000 in
set_option maxHeartbeats 2000000 in
theorem rBound {w : World} {p : Option Addr} {n cap : Nat} {l : List Sg} (ph : Int) (hv : VRow sgC 2 w p n cap l) (hn : n ≤ 100000) :
    Calls Tryz.prog 50 #[.agg #[.int .i64 ph, .slice p n cap]] w fun e w' => e = .returned (.int .i64 (oscB ph l)) ∧ Only [] w w' := by
  have hl := hv.len
  subst hl
  have HV := Lib.hid hv; clear hv
  go_enter Tryz.func50, Tryz.ntmps50
  go_wp2_with fail
  refine alloc_abs (G := fun w0 => Calls _ _ _ w0 _) ?_
  intro w1 hb1 ho1 hs1
  have B1 := Lib.hid hb1; have O1 := Lib.hid ho1
  clear hb1 ho1 hs1
  refine (rOsc ph (HV.out.kept O1.out) hn).mono ?_
  rintro e w2 ⟨rfl, ho2⟩
  have B2 := Lib.hid (ho2.got B1.out (by simp)); have O2 := Lib.hid (O1.out.nil_trans ho2)
  clear ho2 B1 O1
  have g0 := cell_got B2.out 0; have g1 := cell_got B2.out 1
  have l0 := got_lt B2.out
  by_cases hc : oscE ph l = 0
  · have HR : Hid (oscB ph l = oscM l) := Lib.hid (by unfold oscB; rw [if_pos hc])
    have hall : ∀ s ∈ l, -500000 ≤ s.p ∧ s.p ≤ 500000 := fun s hs => by
      obtain ⟨i, hi, rfl⟩ := List.getElem_of_mem hs
      have := (oscE_ok hc).2.2.2 i hi
      unfold sgE at this
      by_cases hq : inR (l.getD i sg0).a 0 1125899906842624 = true ∧ inR (l.getD i sg0).p (-500000) 500000 = true
      · have h2 := inR_t.1 hq.2
        rwa [show l.getD i sg0 = l[i] by simp [List.getD_eq_getElem?_getD, hi]] at h2
      · rw [if_neg hq] at this; cases this
    have HAL := Lib.hid hall
    rw [hc]
    clear hc hall
    go_wp2
    go_loopw [3, 4] (fun v vi wr => BndR w2 l v vi wr) (fun _ vi _ => l.length - (intOf vi).toNat)
    case atStart => exact ⟨0, Nat.zero_le _, rfl, rfl, Only.refl _ _⟩
    case round =>
      clear g0 g1 l0
      obtain ⟨k, hk, rfl, rfl, ho⟩ := hrel
      have OO := Lib.hid ho; have OA := Lib.hid (O2.out.nil_trans ho); have B3 := Lib.hid (ho.got B2.out (by simp))
      clear ho
      have g1 := cell_got B3.out 1; have l0 := got_lt B3.out
      by_cases hlt : k < l.length
      · obtain ⟨bk, off, hp, c0, c1, lb⟩ := HV.out.sg OA.out hlt
        subst hp
        have hgk := getD_some sg0 hlt
        have hsb := HAL.out _ (List.mem_of_getElem? hgk)
        have htk : oscM (l.take (k + 1)) = max (max (oscM (l.take k)) (l.getD k sg0).p) (-(l.getD k sg0).p) := by rw [List.take_add_one, hgk]; exact oscM_snoc _ _
        have hmb := oscM_bd (l := l.take k) (fun s hs => HAL.out s (List.mem_of_mem_take hs))
        generalize l.getD k sg0 = s at c0 c1 hsb htk
        generalize oscM (l.take k) = z at hmb htk ⊢
        have HTK := Lib.hid htk
        clear hgk htk
        obtain ⟨s0, s1⟩ := hsb
        obtain ⟨m0, m1⟩ := hmb
        go_wp2_with fail
        go_quiet (fail)
        go_wp2
        go_roundw
        case rel => exact ⟨k + 1, by omega, by go_num, by rw [HTK.out]; first | rfl | (congr 1; omega), OO.out.nil_trans (only_dr2 _ _)⟩
        case measure => first | (simp [intOf]; done) | (simp [intOf]; omega)
      · rw [List.take_of_length_le (by omega)]
        obtain rfl : k = l.length := by omega
        go_wp2
        go_ret
        exact ⟨by rw [HR.out]; rfl, OA.out⟩
  · have HR : Hid (oscB ph l = 0) := Lib.hid (by unfold oscB; rw [if_neg hc])
    have b1 : (oscE ph l == 0) = false := by simp [hc]
    have b2 : (oscE ph l != 0) = true := by simp [hc]
    clear hc
    go_wp2
    go_ret
    exact ⟨by rw [HR.out]; rfl, O2.out⟩
end Go.Proofs.YthmeifdgkodjlaaGreatDoor
