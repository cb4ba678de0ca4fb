/- Indicator of package leap. Condition: the table of the months is laid; the length. -/
import Derived.Test.YtnfejojakikeeaaGreatDoorK5
namespace Go.Proofs.YtnfejojakikeeaaGreatDoor
open Go.RowKit

/-- the indicator of a change -/
def indC (c : Int) : Int := if c = 1 then 1 else if c = -1 then 2 else 0
/-- the first month behind a month -/
def nxY (y m : Int) : Int := if m = 12 then y + 1 else y
def nxM (m : Int) : Int := if m = 12 then 1 else m + 1
def IndR (b x : Int) (es : List Le) (utc v : Int) : Prop :=
  if chkT b x es = 0 ∧ -8000000000 ≤ utc then
    (if x ≤ utc then v = 3 else ∃ y m d, IsCv (utc / 86400) y m d ∧ v = if (secR (nxY y m) (nxM m)).2 = 0 then indC (chg b (secR (nxY y m) (nxM m)).1 es) else 0)
  else v = 0
set_option maxRecDepth 100000 in
set_option maxHeartbeats 2000000 in
theorem kInd {w : World} {p : Option Addr} {n cap : Nat} {es : List Le} (b x utc : Int) (hv : VRow leC 2 w p n cap es) (hn : n ≤ 100000) (hd : Mdy w) :
    Calls Tryz.prog 20 #[.agg #[.int .i64 b, .int .i64 x, .slice p n cap], .int .i64 utc] w fun e w' => (∃ v, e = .returned (.int .i64 v) ∧ IndR b x es utc v) ∧ Only [] w w' := by
  have hl := hv.len
  subst hl
  have HV := Lib.hid hv; have HD := Lib.hid hd; clear hv hd
  go_enter Tryz.func20, Tryz.ntmps20
  go_wp2_with fail
  refine alloc_abs (G := fun w0 => Calls _ _ _ w0 _) ?_
  intro w1 hb1 ho1 hs1
  have B1 := Lib.hid hb1; have O1 := Lib.hid ho1
  clear hb1 ho1 hs1
  refine (kcheck b x (HV.out.kept O1.out) hn (HD.out.kept O1.out)).mono ?_
  rintro e w2 ⟨rfl, ho2⟩
  have B2 := Lib.hid (ho2.got B1.out (by simp)); have O2 := Lib.hid (O1.out.nil_trans ho2)
  clear ho2 B1 O1
  have g0 := cell_got B2.out 0; have g1 := cell_got B2.out 1; have g2 := cell_got B2.out 2
  have l0 := got_lt B2.out
  by_cases hc : chkT b x es = 0
  · obtain ⟨_, cb, cx, cr, _⟩ := chkT_ok hc
    have hxb := inM_t.1 cx
    have HCB := Lib.hid cb; have HCR := Lib.hid (fun e he => (cr e he).1)
    have HC := Lib.hid hc
    rw [hc]
    clear hc cb cr cx
    by_cases hlo : utc < -8000000000
    · have d1 : decide (utc < -8000000000) = true := by simpa using hlo
      have HX : Hid (IndR b x es utc 0) := Lib.hid (by unfold IndR; rw [if_neg (by omega)])
      clear hlo
      go_wp2
      go_ret
      exact ⟨⟨0, rfl, HX.out⟩, O2.out⟩
    · have d1 : decide (utc < -8000000000) = false := by simpa using hlo
      have hlo' : -8000000000 ≤ utc := by omega
      clear hlo
      by_cases hx : x ≤ utc
      · have d2 : decide (utc ≥ x) = true := by simpa using hx
        have d3 : decide (x ≤ utc) = true := by simpa using hx
        have HX : Hid (IndR b x es utc 3) := Lib.hid (by unfold IndR; rw [if_pos ⟨HC.out, hlo'⟩, if_pos hx])
        clear hx
        go_wp2
        go_ret
        exact ⟨⟨3, rfl, HX.out⟩, O2.out⟩
      · have d2 : decide (utc ≥ x) = false := by simpa using hx
        have d3 : decide (x ≤ utc) = false := by simpa using hx
        have HX : Hid (∀ v, IndR b x es utc v = ∃ y m d, IsCv (utc / 86400) y m d ∧ v = if (secR (nxY y m) (nxM m)).2 = 0 then indC (chg b (secR (nxY y m) (nxM m)).1 es) else 0) := Lib.hid (fun v => by unfold IndR; rw [if_pos ⟨HC.out, hlo'⟩, if_neg hx])
        have HOF := Lib.hid (cof_yes utc w2 hlo' (by omega) (HD.out.kept O2.out))
        clear hx
        go_wp2_with fail
        refine HOF.out.mono ?_
        rintro e w3 ⟨⟨y, m, d, hcv, rfl⟩, ho3⟩
        have B3 := Lib.hid (ho3.got B2.out (by simp)); have O3 := Lib.hid (O2.out.nil_trans ho3)
        clear ho3 B2 O2 HOF g0 g1 g2 l0
        obtain ⟨y0, y1, m0, m1, _⟩ := id hcv
        have HX2 : Hid (∀ v, (v = if (secR (nxY y m) (nxM m)).2 = 0 then indC (chg b (secR (nxY y m) (nxM m)).1 es) else 0) → IndR b x es utc v) := Lib.hid (fun v h => by rw [HX.out]; exact ⟨y, m, d, hcv, h⟩)
        clear hcv HX
        generalize utc % 86400 / 3600 = H
        generalize utc % 86400 / 60 % 60 = M
        generalize utc % 86400 % 60 = S
        unfold civV
        go_upto_region 6 with (fail)
        refine alloc_abs (G := fun w0 => Code.wp _ _ _ _ w0) ?_
        intro w4 hb4 ho4 hs4
        have hlt4 : w.heap.size ≤ w3.heap.size := O3.out.size
        have B4 := Lib.hid (ho4.got B3.out (by simp)); have O4 := Lib.hid (O3.out.nil_trans ho4)
        have c0 := cell_got hb4 0; have c1 := cell_got hb4 1
        have lc := got_lt hb4
        have C4 := Lib.hid hb4
        clear hb4 ho4 hs4 B3 O3
        go_upto_region 9 with (fail)
        refine alloc_abs (G := fun w0 => Code.wp _ _ _ _ w0) ?_
        intro w5 hb5 ho5 hs5
        have hlt5 : w.heap.size ≤ w4.heap.size := O4.out.size
        have hlt6 : w.heap.size < w4.heap.size := got_lt B4.out
        have B5 := Lib.hid (ho5.got B4.out (by simp)); have O5 := Lib.hid (O4.out.nil_trans ho5)
        have C5 := Lib.hid (ho5.got C4.out (by simp)); have D5 := Lib.hid hb5
        clear hb5 ho5 hs5 B4 O4 C4 c0 c1 lc
        have c0 := cell_got C5.out 0; have c1 := cell_got C5.out 1
        have lc := got_lt C5.out
        have e0 := cell_got D5.out 0; have e1 := cell_got D5.out 1; have e2 := cell_got D5.out 2; have e3 := cell_got D5.out 3; have e4 := cell_got D5.out 4; have e5 := cell_got D5.out 5; have e6 := cell_got D5.out 6
        have le := got_lt D5.out
        by_cases hm : m = 12
        · have q1 : (m == 12) = true := by simp [hm]
          have hnx : nxY y m = y + 1 ∧ nxM m = 1 := by simp [nxY, nxM, hm]
          rw [hnx.1, hnx.2] at HX2
          have f0 := frozen_got D5.out 0; have f1 := frozen_got D5.out 1; have f2 := frozen_got D5.out 2; have f3 := frozen_got D5.out 3; have f4 := frozen_got D5.out 4; have f5 := frozen_got D5.out 5; have f6 := frozen_got D5.out 6
          clear hnx hm
          go_wp2_with fail
          refine wabs (G := fun w0 => Calls _ _ _ w0 _) (R := fun w6 => Only [w4.heap.size] w5 w6 ∧ Only [] w w6) ⟨?_, ?_⟩ ?_
          · with_reducible repeat (first | exact Only.refl _ _ | refine Only.setCell ?_ (.inl (by simp)) _)
          · with_reducible repeat (first | exact O5.out | refine Only.setCell ?_ (.inr hlt5) _)
          rintro w6 ⟨ho6, O6⟩
          have HSC := Lib.hid (csec (y + 1) 1 w6 (by omega) (by omega) (HD.out.kept O6))
          unfold civV at HSC
          have B6 := Lib.hid (ho6.got B5.out (by simp; omega))
          have O6' := Lib.hid O6
          clear ho6 O6 c0 c1 lc e0 e1 e2 e3 e4 e5 e6 f0 f1 f2 f3 f4 f5 f6 le
          refine HSC.out.mono ?_
          rintro e w7 ⟨rfl, ho7⟩
          have B7 := Lib.hid (ho7.got B6.out (by simp)); have O7 := Lib.hid (O6'.out.nil_trans ho7)
          clear ho7
          have g0 := cell_got B7.out 0; have g1 := cell_got B7.out 1; have g2 := cell_got B7.out 2
          have l0 := got_lt B7.out
          by_cases hz : (secR (y + 1) 1).2 = 0
          · have HX3 : Hid (IndR b x es utc (indC (chg b (secR (y + 1) 1).1 es))) := Lib.hid (HX2.out _ (by rw [if_pos hz]))
            rw [hz]
            generalize (secR (y + 1) 1).1 = at' at HX3 ⊢
            have HCG := Lib.hid (kchange b x at' (HV.out.kept O7.out) hn HCB.out HCR.out)
            generalize chg b at' es = cg at HX3 HCG
            clear hz HX2 HSC
            go_wp2_with fail
            refine HCG.out.mono ?_
            rintro e w8 ⟨rfl, ho8⟩
            have O8 := Lib.hid (O7.out.nil_trans ho8)
            clear ho8 g0 g1 g2 l0
            by_cases h1 : cg = 1
            · have r1 : (cg == 1) = true := by simp [h1]
              have HX4 : Hid (IndR b x es utc 1) := Lib.hid (by have := HX3.out; rwa [show indC cg = 1 by simp [indC, h1]] at this)
              clear h1
              go_wp2
              go_ret
              exact ⟨⟨1, rfl, HX4.out⟩, O8.out⟩
            · have r1 : (cg == 1) = false := by simp [h1]
              by_cases h2 : cg = -1
              · have r2 : (cg == -1) = true := by simp [h2]
                have HX4 : Hid (IndR b x es utc 2) := Lib.hid (by have := HX3.out; rwa [show indC cg = 2 by simp [indC, h2]] at this)
                clear h1 h2
                go_wp2
                go_ret
                exact ⟨⟨2, rfl, HX4.out⟩, O8.out⟩
              · have r2 : (cg == -1) = false := by simp [h2]
                have HX4 : Hid (IndR b x es utc 0) := Lib.hid (by have := HX3.out; rwa [show indC cg = 0 by simp [indC, h1, h2]] at this)
                clear h1 h2
                go_wp2
                go_ret
                exact ⟨⟨0, rfl, HX4.out⟩, O8.out⟩
          · have HX3 : Hid (IndR b x es utc 0) := Lib.hid (HX2.out _ (by rw [if_neg hz]))
            have z1 : ((secR (y + 1) 1).2 == 0) = false := by simp [hz]
            have z2 : ((secR (y + 1) 1).2 != 0) = true := by simp [hz]
            clear hz HX2 HSC
            go_wp2
            go_ret
            exact ⟨⟨0, rfl, HX3.out⟩, O7.out⟩
        · have q1 : (m == 12) = false := by simp [hm]
          have hnx : nxY y m = y ∧ nxM m = m + 1 := by simp [nxY, nxM, hm]
          rw [hnx.1, hnx.2] at HX2
          have HSC := Lib.hid (csec y (m + 1) w5 (by omega) (by omega) (HD.out.kept O5.out))
          unfold civV at HSC
          clear hnx hm
          go_wp2_with fail
          clear c0 c1 lc e0 e1 e2 e3 e4 e5 e6 le
          refine HSC.out.mono ?_
          rintro e w7 ⟨rfl, ho7⟩
          have B7 := Lib.hid (ho7.got B5.out (by simp)); have O7 := Lib.hid (O5.out.nil_trans ho7)
          clear ho7
          have g0 := cell_got B7.out 0; have g1 := cell_got B7.out 1; have g2 := cell_got B7.out 2
          have l0 := got_lt B7.out
          by_cases hz : (secR y (m + 1)).2 = 0
          · have HX3 : Hid (IndR b x es utc (indC (chg b (secR y (m + 1)).1 es))) := Lib.hid (HX2.out _ (by rw [if_pos hz]))
            rw [hz]
            generalize (secR y (m + 1)).1 = at' at HX3 ⊢
            have HCG := Lib.hid (kchange b x at' (HV.out.kept O7.out) hn HCB.out HCR.out)
            generalize chg b at' es = cg at HX3 HCG
            clear hz HX2 HSC
            go_wp2_with fail
            refine HCG.out.mono ?_
            rintro e w8 ⟨rfl, ho8⟩
            have O8 := Lib.hid (O7.out.nil_trans ho8)
            clear ho8 g0 g1 g2 l0
            by_cases h1 : cg = 1
            · have r1 : (cg == 1) = true := by simp [h1]
              have HX4 : Hid (IndR b x es utc 1) := Lib.hid (by have := HX3.out; rwa [show indC cg = 1 by simp [indC, h1]] at this)
              clear h1
              go_wp2
              go_ret
              exact ⟨⟨1, rfl, HX4.out⟩, O8.out⟩
            · have r1 : (cg == 1) = false := by simp [h1]
              by_cases h2 : cg = -1
              · have r2 : (cg == -1) = true := by simp [h2]
                have HX4 : Hid (IndR b x es utc 2) := Lib.hid (by have := HX3.out; rwa [show indC cg = 2 by simp [indC, h2]] at this)
                clear h1 h2
                go_wp2
                go_ret
                exact ⟨⟨2, rfl, HX4.out⟩, O8.out⟩
              · have r2 : (cg == -1) = false := by simp [h2]
                have HX4 : Hid (IndR b x es utc 0) := Lib.hid (by have := HX3.out; rwa [show indC cg = 0 by simp [indC, h1, h2]] at this)
                clear h1 h2
                go_wp2
                go_ret
                exact ⟨⟨0, rfl, HX4.out⟩, O8.out⟩
          · have HX3 : Hid (IndR b x es utc 0) := Lib.hid (HX2.out _ (by rw [if_neg hz]))
            have z1 : ((secR y (m + 1)).2 == 0) = false := by simp [hz]
            have z2 : ((secR y (m + 1)).2 != 0) = true := by simp [hz]
            clear hz HX2 HSC
            go_wp2
            go_ret
            exact ⟨⟨0, rfl, HX3.out⟩, O7.out⟩
  · have HX : Hid (IndR b x es utc 0) := Lib.hid (by unfold IndR; rw [if_neg (fun h => hc h.1)])
    have b1 : (chkT b x es == 0) = false := by simp [hc]
    have b2 : (chkT b x es != 0) = true := by simp [hc]
    clear hc
    go_wp2
    go_ret
    exact ⟨⟨0, rfl, HX.out⟩, O2.out⟩
end Go.Proofs.YtnfejojakikeeaaGreatDoor
