/- timesyncref16: right and Check compute the error of a link. Condition: the length. -/
import Derived.Test.YthmeifdgkodjlaaGreatDoorU1
namespace Go.Proofs.YthmeifdgkodjlaaGreatDoor
open Go.RowKit

theorem rRight (n lim : Int) (w : World) : Calls Tryz.prog 88 #[.int .i64 n, .int .i64 lim] w fun e w' => e = .returned (.bool (inR n 0 lim)) ∧ w = w' := by
  by_cases h0 : 0 ≤ n
  · have d1 : decide (n ≥ 0) = true := by simpa using h0
    have d2 : decide (0 ≤ n) = true := by simpa using h0
    have HR : Hid (inR n 0 lim = decide (n ≤ lim)) := Lib.hid (by simp [inR, h0])
    clear h0
    go_enter Tryz.func88, Tryz.ntmps88
    go_wp2
    go_ret
    exact ⟨by rw [HR.out]; rfl, rfl⟩
  · have d1 : decide (n ≥ 0) = false := by simpa using h0
    have d2 : decide (0 ≤ n) = false := by simpa using h0
    have HR : Hid (inR n 0 lim = false) := Lib.hid (by simp [inR, h0])
    clear h0
    go_enter Tryz.func88, Tryz.ntmps88
    go_wp2
    go_ret
    exact ⟨by rw [HR.out]; rfl, rfl⟩
set_option maxRecDepth 100000 in
set_option maxHeartbeats 4000000 in
theorem rLink {w : World} {p : Option Addr} {n cap : Nat} (l : Lk) (hv : VRow chC 3 w p n cap l.ch) (hn : n ≤ 100000) :
    Calls Tryz.prog 52 #[lkV l p n cap] w fun e w' => e = .returned (.int .i64 (linkE l)) ∧ Only [] w w' := by
  have hl := hv.len
  subst hl
  have HV := Lib.hid hv; clear hv
  unfold lkV
  go_enter Tryz.func52, Tryz.ntmps52
  go_upto_region 1 with (fail)
  refine alloc_abs (G := fun w0 => Code.wp _ _ _ _ w0) ?_
  intro w1 hb1 ho1 hs1
  have B1 := Lib.hid hb1; have O1 := Lib.hid ho1
  clear hb1 ho1 hs1
  have g0 := cell_got B1.out 0; have g1 := cell_got B1.out 1; have g2 := cell_got B1.out 2; have g3 := cell_got B1.out 3; have g4 := cell_got B1.out 4; have g6 := cell_got B1.out 6
  have l0 := got_lt B1.out
  go_wp2_with fail
  refine (rRight l.d0 10000000000 w1).mono ?_
  rintro e w2 ⟨rfl, rfl⟩
  by_cases h1 : inR l.d0 0 10000000000 = true
  · rw [h1]
    go_wp2_with fail
    refine (rRight l.d1 10000000000 w1).mono ?_
    rintro e w2 ⟨rfl, rfl⟩
    by_cases h2 : inR l.d1 0 10000000000 = true
    · rw [h2]
      go_wp2_with fail
      refine (rRight l.v0 10000000000 w1).mono ?_
      rintro e w2 ⟨rfl, rfl⟩
      by_cases h3 : inR l.v0 0 10000000000 = true
      · rw [h3]
        go_wp2_with fail
        refine (rRight l.v1 10000000000 w1).mono ?_
        rintro e w2 ⟨rfl, rfl⟩
        by_cases h4 : inR l.v1 0 10000000000 = true
        · rw [h4]
          go_wp2_with fail
          refine (rRight l.lo 1000 w1).mono ?_
          rintro e w2 ⟨rfl, rfl⟩
          by_cases h5 : inR l.lo 0 1000 = true
          · rw [h5]
            have HR : Hid (linkE l = if l.ch.all chR = true then (if 16 < l.ch.length then 6 else fe (chO l.ch) (l.ch.length - 1) 1) else 3) := Lib.hid (by unfold linkE; rw [if_pos (by unfold lkR; rw [h1, h2, h3, h4, h5]; rfl)])
            clear h1 h2 h3 h4 h5
            clear g0 g1 g2 g3 g4
            go_wp2
            go_loopw [3] (fun vi wr => LcI w1 l.ch vi wr) (fun vi _ => l.ch.length - (intOf vi).toNat)
            case atStart => exact ⟨0, Nat.zero_le _, rfl, rfl, Only.refl _ _⟩
            case round =>
              clear g6 l0
              obtain ⟨k, hk, rfl, hall, ho⟩ := hrel
              have HA := Lib.hid hall; have OO := Lib.hid ho; have OA := Lib.hid (O1.out.nil_trans ho); have B3 := Lib.hid (ho.got B1.out (by simp))
              clear hall ho
              have g6 := cell_got B3.out 6; have l0 := got_lt B3.out
              by_cases hlt : k < l.ch.length
              · obtain ⟨bk, off, hp, c0, c1, c2, lb⟩ := HV.out.ch OA.out hlt
                subst hp
                have hgk := getD_some ch0 hlt
                have hmem := List.mem_of_getElem? hgk
                have htk : (l.ch.take (k + 1)).all chR = chR (l.ch.getD k ch0) := by rw [List.take_add_one, hgk]; simp [List.all_append, HA.out]
                have HNO : Hid (chR (l.ch.getD k ch0) = false → linkE l = 3) := Lib.hid (fun h => by rw [HR.out, if_neg (fun hq => by rw [List.all_eq_true] at hq; rw [hq _ hmem] at h; cases h)])
                generalize l.ch.getD k ch0 = c at c0 c1 c2 htk HNO hgk hmem
                have HTK := Lib.hid htk
                clear hgk hmem htk
                go_upto_region 7 with (fail)
                refine alloc_abs (G := fun w0 => Code.wp _ _ _ _ w0) ?_
                intro w4 hb4 ho4 hs4
                have E4 := Lib.hid hb4; have O4 := Lib.hid (OO.out.nil_trans ho4); have OB := Lib.hid (OA.out.nil_trans ho4)
                clear hb4 ho4 hs4 c0 c1 c2 lb g6 l0
                have c0 := cell_got E4.out 0; have c1 := cell_got E4.out 1; have c2 := cell_got E4.out 2; have le := got_lt E4.out
                go_wp2_with fail
                refine (rRight c.a 1125899906842624 w4).mono ?_
                rintro e w5 ⟨rfl, rfl⟩
                by_cases ha : inR c.a 0 1125899906842624 = true
                · rw [ha]
                  go_wp2_with fail
                  refine (rRight c.d 1 w4).mono ?_
                  rintro e w5 ⟨rfl, rfl⟩
                  by_cases hd : inR c.d 0 1 = true
                  · rw [hd]
                    go_wp2_with fail
                    refine (rRight c.y 10000000000 w4).mono ?_
                    rintro e w5 ⟨rfl, rfl⟩
                    by_cases hy : inR c.y 0 10000000000 = true
                    · rw [hy]
                      have HX := Lib.hid (HTK.out.trans (show chR c = true by unfold chR; rw [ha, hd, hy]; rfl))
                      clear ha hd hy
                      go_wp2
                      go_roundw
                      case rel => exact ⟨k + 1, by omega, by go_num, HX.out, O4.out⟩
                      case measure => first | (simp [intOf]; done) | (simp [intOf]; omega)
                    · have HX := Lib.hid (HNO.out (show chR c = false by unfold chR; rw [Bool.not_eq_true] at hy; rw [ha, hd, hy]; rfl))
                      rw [Bool.not_eq_true] at hy
                      rw [hy]
                      clear ha hd hy
                      go_wp2
                      go_ret
                      exact ⟨by rw [HX.out]; rfl, OB.out⟩
                  · rw [Bool.not_eq_true] at hd
                    rw [hd]
                    have HX := Lib.hid (HNO.out (show chR c = false by unfold chR; rw [ha, hd]; rfl))
                    clear ha hd
                    go_wp2
                    go_ret
                    exact ⟨by rw [HX.out]; rfl, OB.out⟩
                · rw [Bool.not_eq_true] at ha
                  rw [ha]
                  have HX := Lib.hid (HNO.out (show chR c = false by unfold chR; rw [ha]; rfl))
                  clear ha
                  go_wp2
                  go_ret
                  exact ⟨by rw [HX.out]; rfl, OB.out⟩
              · obtain rfl : k = l.ch.length := by omega
                have hal := HA.out
                rw [List.take_of_length_le (Nat.le_refl _)] at hal
                have hr2 := HR.out
                rw [if_pos hal] at hr2
                by_cases h16 : 16 < l.ch.length
                · have d2 : decide ((l.ch.length : Int) > 16) = true := by simp; omega
                  have d3 : decide (16 < (l.ch.length : Int)) = true := by simp; omega
                  have HX : Hid (linkE l = 6) := Lib.hid (by rw [hr2, if_pos h16])
                  clear hr2 hal
                  go_wp2
                  go_ret
                  exact ⟨by rw [HX.out]; rfl, OA.out⟩
                · have d2 : decide ((l.ch.length : Int) > 16) = false := by simp; omega
                  have d3 : decide (16 < (l.ch.length : Int)) = false := by simp; omega
                  have HX : Hid (linkE l = fe (chO l.ch) (l.ch.length - 1) 1) := Lib.hid (by rw [hr2, if_neg h16])
                  clear hr2 hal
                  obtain ⟨wo, hwo⟩ : ∃ wo : World, wo = wr := ⟨_, rfl⟩
                  subst hwo
                  go_wp2
                  go_loopw [5] (fun vi wr => LcJ wo l.ch vi wr) (fun vi _ => l.ch.length - (intOf vi).toNat)
                  case atStart => exact ⟨1, Nat.le_refl _, rfl, rfl, Only.refl _ _⟩
                  case round =>
                    clear g6 l0 d2 d3
                    obtain ⟨k, hk, rfl, hfe, ho⟩ := hrel
                    have HF := Lib.hid hfe; have OO' := Lib.hid ho; have OA' := Lib.hid (OA.out.nil_trans ho); have B4 := Lib.hid (ho.got B3.out (by simp))
                    clear hfe ho
                    have g6 := cell_got B4.out 6; have l0 := got_lt B4.out
                    by_cases hlt : k < l.ch.length
                    · obtain ⟨bk, off, hp, c0, c1, c2, lb⟩ := HV.out.ch OA'.out hlt
                      obtain ⟨bk', off', hp', p0, p1, p2, lb'⟩ := HV.out.ch OA'.out (show k - 1 < l.ch.length by omega)
                      subst hp
                      cases hp'
                      clear p1 p2 lb' c1 c2
                      have hE : chO l.ch k = if (l.ch.getD k ch0).a < (l.ch.getD (k - 1) ch0).a then 12 else 0 := rfl
                      generalize l.ch.getD k ch0 = s at c0 hE
                      generalize l.ch.getD (k - 1) ch0 = t at p0 hE
                      have hi1 : (1 : Int) ≤ (k : Int) := by omega
                      have hi2 : (k : Int) - 1 < (l.ch.length : Int) := by omega
                      have hi3 : IntKind.i64.wrap ((k : Int) - 1) = (k : Int) - 1 := IntWalk.i64_in _ (by omega)
                      have hi4 : ((k : Int) - 1).toNat = k - 1 := by omega
                      by_cases hc : s.a < t.a
                      · have z1 : decide (s.a < t.a) = true := by simp [hc]
                        rw [if_pos hc] at hE
                        have HY : Hid (linkE l = 12) := Lib.hid (by rw [HX.out, HF.out, fe_no hlt (by rw [hE]; decide), hE])
                        clear hE hc
                        go_wp2_with fail
                        go_quiet (fail)
                        go_wp2
                        go_ret
                        exact ⟨by rw [HY.out]; rfl, OA'.out.nil_trans (only_dr2 _ _)⟩
                      · have z1 : decide (s.a < t.a) = false := by simpa using hc
                        rw [if_neg hc] at hE
                        have HY := Lib.hid (HF.out.trans (fe_yes hlt hE))
                        clear hE hc
                        go_wp2_with fail
                        go_quiet (fail)
                        clear hi3 hi4
                        go_wp2
                        go_roundw
                        case rel => exact ⟨k + 1, by omega, by go_num, HY.out, OO'.out.nil_trans (only_dr2 _ _)⟩
                        case measure => first | (simp [intOf]; done) | (simp [intOf]; omega)
                    · have HY : Hid (linkE l = 0) := Lib.hid (by rw [HX.out, HF.out, fe_end (by omega)])
                      have n1 : decide ((k : Int) < (l.ch.length : Int)) = false := by simp; omega
                      have n2 : decide (k < l.ch.length) = false := by simp; omega
                      go_wp2
                      go_ret
                      exact ⟨by rw [HY.out]; rfl, OA'.out⟩
          · rw [Bool.not_eq_true] at h5
            have HR : Hid (linkE l = 3) := Lib.hid (by unfold linkE; rw [if_neg (by unfold lkR; rw [h1, h2, h3, h4, h5]; simp)])
            rw [h5]
            clear h1 h2 h3 h4 h5
            go_wp2
            go_ret
            exact ⟨by rw [HR.out]; rfl, O1.out⟩
        · rw [Bool.not_eq_true] at h4
          have HR : Hid (linkE l = 3) := Lib.hid (by unfold linkE; rw [if_neg (by unfold lkR; rw [h1, h2, h3, h4]; simp)])
          rw [h4]
          clear h1 h2 h3 h4
          go_wp2
          go_ret
          exact ⟨by rw [HR.out]; rfl, O1.out⟩
      · rw [Bool.not_eq_true] at h3
        have HR : Hid (linkE l = 3) := Lib.hid (by unfold linkE; rw [if_neg (by unfold lkR; rw [h1, h2, h3]; simp)])
        rw [h3]
        clear h1 h2 h3
        go_wp2
        go_ret
        exact ⟨by rw [HR.out]; rfl, O1.out⟩
    · rw [Bool.not_eq_true] at h2
      have HR : Hid (linkE l = 3) := Lib.hid (by unfold linkE; rw [if_neg (by unfold lkR; rw [h1, h2]; simp)])
      rw [h2]
      clear h1 h2
      go_wp2
      go_ret
      exact ⟨by rw [HR.out]; rfl, O1.out⟩
  · rw [Bool.not_eq_true] at h1
    have HR : Hid (linkE l = 3) := Lib.hid (by unfold linkE; rw [if_neg (by unfold lkR; rw [h1]; simp)])
    rw [h1]
    clear  h1
    go_wp2
    go_ret
    exact ⟨by rw [HR.out]; rfl, O1.out⟩
end Go.Proofs.YthmeifdgkodjlaaGreatDoor
