/- The reference's UTC. Condition: the length. -/
import Derived.Test.YtnfejojakikeeaaGreatDoorQ7
namespace Go.Proofs.YtnfejojakikeeaaGreatDoor
open Go.RowKit

theorem hit_a {b x tai c : Int} {es : List Le} (h : taiR b x es c false = (tai, 0)) : utcR b x es tai = (c, false, 0) := by
  have := one_b (b := b) (x := x) (utc := c) (ex := false) (es := es) (by rw [h])
  rwa [h] at this
theorem hit_b {b x tai c : Int} {es : List Le} (h : taiR b x es c true = (tai, 0)) : utcR b x es tai = (c, true, 0) := by
  have := one_b (b := b) (x := x) (utc := c) (ex := true) (es := es) (by rw [h])
  rwa [h] at this
theorem utcR_bad {b x tai : Int} {es : List Le} (hc : chkT b x es = 0) (h : (utcR b x es tai).2.2 ≠ 0) : utcR b x es tai = (0, false, 3) := by
  by_cases hd : inI (tai - uO b tai es) = true ∧ inM (tai - uO b tai es - (if uE b tai es es.length then 1 else 0)) 8000000000 = true
  · exfalso; apply h; unfold utcR; rw [if_pos hc, if_pos hd]
  · unfold utcR; rw [if_pos hc, if_neg hd]
theorem utc_far {b x tai : Int} {es : List Le} (hc : chkT b x es = 0) (h : inM tai 8000002000 = false) : utcR b x es tai = (0, false, 3) := by
  refine utcR_bad hc (fun h0 => ?_)
  obtain ⟨_, hm, _, _⟩ := utcR_ok h0
  obtain ⟨_, hb, _, hr, _⟩ := chkT_ok hc
  have h1 := inM_t.1 (uO_bd (tai := tai) hb (fun e he => (hr e he).1))
  have h2 := inM_t.1 hm
  have h3 := inM_f.1 h
  split at h2 <;> omega
theorem utc_miss {b x tai : Int} {es : List Le} (hc : chkT b x es = 0) (h : ∀ j, j ≤ es.length → taiR b x es (tai - oO b es j) false ≠ (tai, 0) ∧ taiR b x es (tai - oO b es j - 1) true ≠ (tai, 0)) : utcR b x es tai = (0, false, 3) := by
  refine utcR_bad hc (fun h0 => ?_)
  have ho := one_a h0
  obtain ⟨_, _, h1, h2⟩ := utcR_ok h0
  obtain ⟨k, k0, _, _, k3, _⟩ := (gd_of hc).utc_at (tai := tai)
  rw [h1, h2, k3] at ho
  cases hu : uE b tai es es.length with
  | true =>
    rw [hu] at ho
    exact (h k k0).2 ho
  | false =>
    rw [hu] at ho
    simp only [Bool.false_eq_true, if_false, Int.sub_zero] at ho
    exact (h k k0).1 ho
def UtcQ (w1 : World) (b x tai : Int) (es : List Le) (vi : Value) (wr : World) : Prop :=
  ∃ k : Nat, k ≤ es.length + 1 ∧ vi = .int .i64 ((k : Int) - 1) ∧ (∀ j, j < k → taiR b x es (tai - oO b es j) false ≠ (tai, 0) ∧ taiR b x es (tai - oO b es j - 1) true ≠ (tai, 0)) ∧ Only [] w1 wr
set_option maxRecDepth 100000 in
set_option maxHeartbeats 4000000 in
theorem rUTC {w : World} {p : Option Addr} {n cap : Nat} {es : List Le} (b x tai : Int) (hv : VRow leC 2 w p n cap es) (hn : n ≤ 100000) :
    Calls Tryz.prog 13 #[.agg #[.int .i64 b, .int .i64 x, .slice p n cap], .int .i64 tai] w fun e w' => e = .returned (.tuple #[.int .i64 (utcR b x es tai).1, .bool (utcR b x es tai).2.1, .int .i64 (utcR b x es tai).2.2]) ∧ Only [] w w' := by
  have hl := hv.len
  subst hl
  have HV := Lib.hid hv; clear hv
  go_enter Tryz.func13, Tryz.ntmps13
  go_wp2_with fail
  refine alloc_abs (G := fun w0 => Calls _ _ _ w0 _) ?_
  intro w1 hb1 ho1 hs1
  have B1 := Lib.hid hb1; have O1 := Lib.hid ho1
  clear hb1 ho1 hs1
  refine (rCheck b x (HV.out.kept O1.out) hn).mono ?_
  rintro e w2 ⟨rfl, ho2⟩
  have B2 := Lib.hid (ho2.got B1.out (by simp)); have O2 := Lib.hid (O1.out.nil_trans ho2)
  clear ho2 B1 O1
  have g0 := cell_got B2.out 0; have g1 := cell_got B2.out 1; have g2 := cell_got B2.out 2
  have l0 := got_lt B2.out
  by_cases hc : chkT b x es = 0
  · have HC := Lib.hid hc
    rw [hc]
    clear hc
    have hwi := rin tai 8000002000 w2 (by omega) (by omega)
    by_cases hi : inM tai 8000002000 = true
    · rw [hi] at hwi
      have HWI := Lib.hid hwi
      obtain ⟨hib0, hib1⟩ := inM_t.1 hi
      clear hwi hi
      go_wp2_with fail
      refine HWI.out.mono ?_
      rintro e w' ⟨rfl, rfl⟩
      go_wp2
      go_loopw [8] (fun vi wr => UtcQ w2 b x tai es vi wr) (fun vi _ => es.length + 1 - (intOf vi + 1).toNat)
      case atStart => exact ⟨0, Nat.zero_le _, rfl, fun j hj => by omega, Only.refl _ _⟩
      case round =>
        obtain ⟨k, hk, rfl, hmi, ho⟩ := hrel
        have HM := Lib.hid hmi; have OO := Lib.hid ho; have OA := Lib.hid (O2.out.nil_trans ho); have B3 := Lib.hid (ho.got B2.out (by simp))
        clear hmi ho g0 g1 g2 l0
        have g0 := cell_got B3.out 0; have g1 := cell_got B3.out 1; have g2 := cell_got B3.out 2
        have l0 := got_lt B3.out
        by_cases hlt : k < es.length + 1
        · have q1 : decide ((k : Int) - 1 < (es.length : Int)) = true := by simp; omega
          have hob : -1000 ≤ oO b es k ∧ oO b es k ≤ 1000 := (gd_of HC.out).bo k (by omega)
          have hT := fun w' (ho' : Only [] w w') => rTAI b x (tai - oO b es k) false (HV.out.kept ho') hn
          have hU := fun w' (ho' : Only [] w w') => rTAI b x (tai - oO b es k - 1) true (HV.out.kept ho') hn
          have hA := hit_a (b := b) (x := x) (tai := tai) (c := tai - oO b es k) (es := es)
          have hB := hit_b (b := b) (x := x) (tai := tai) (c := tai - oO b es k - 1) (es := es)
          have hN : taiR b x es (tai - oO b es k) false ≠ (tai, 0) → taiR b x es (tai - oO b es k - 1) true ≠ (tai, 0) → ∀ j, j < k + 1 → taiR b x es (tai - oO b es j) false ≠ (tai, 0) ∧ taiR b x es (tai - oO b es j - 1) true ≠ (tai, 0) := by
            intro h1 h2 j hj
            by_cases hjk : j = k
            · subst hjk; exact ⟨h1, h2⟩
            · exact HM.out j (by omega)
          have hoo : (k = 0 ∧ oO b es k = b) ∨ (1 ≤ k ∧ oO b es k = (es.getD (k - 1) ⟨0, 0⟩).o) := by
            rcases k with _ | k
            · exact .inl ⟨rfl, by simp [oO, prvO]⟩
            · exact .inr ⟨by omega, oO_succ b es k⟩
          generalize oO b es k = ok at hob hT hU hA hB hN hoo
          obtain ⟨ob0, ob1⟩ := hob
          have HT := Lib.hid hT; have HU := Lib.hid hU; have HA := Lib.hid hA; have HB := Lib.hid hB; have HN := Lib.hid hN
          clear hT hU hA hB hN HM
          rcases hoo with ⟨rfl, hbb⟩ | ⟨hk1, hoe⟩
          · have hbb' : b = ok := hbb.symm
            clear hbb
            subst hbb'
            have d0 : decide (((0 : Nat) : Int) - 1 ≥ 0) = false := by decide
            have d1 : decide (0 ≤ ((0 : Nat) : Int) - 1) = false := by decide
            go_wp2_with fail
            refine (HT.out wr OA.out).mono ?_
            rintro e w4 ⟨rfl, ho4⟩
            have B4 := Lib.hid (ho4.got B3.out (by simp)); have O4 := Lib.hid (OO.out.nil_trans ho4); have OB := Lib.hid (OA.out.nil_trans ho4)
            clear ho4 g0 g1 g2 l0 HT
            have g0 := cell_got B4.out 0; have g1 := cell_got B4.out 1; have g2 := cell_got B4.out 2
            have l0 := got_lt B4.out
            generalize taiR b x es (tai - b) false = R at HA HN ⊢
            obtain ⟨r1, r2⟩ := R
            dsimp only
            by_cases h2 : r2 = 0 ∧ r1 = tai
            · obtain ⟨rfl, rfl⟩ := h2
              have HX : Hid (utcR b x es r1 = (r1 - b, false, 0)) := Lib.hid (HA.out rfl)
              go_wp2
              go_ret3
              exact ⟨by rw [HX.out]; rfl, OB.out⟩
            · have hpk : ((r2 == 0) && (r1 == tai)) = false := by
                rw [Bool.eq_false_iff]; simp only [ne_eq, Bool.and_eq_true, beq_iff_eq]; exact h2
              have hne : (r1, r2) ≠ (tai, (0 : Int)) := fun q => h2 ⟨congrArg Prod.snd q, congrArg Prod.fst q⟩
              have HNE := Lib.hid hne
              clear hne
              by_cases h3 : r2 = 0
              · have p1 : (r2 == 0) = true := by simp [h3]
                have p2 : (r1 == tai) = false := by simp; exact fun q => h2 ⟨h3, q⟩
                clear hpk h2 h3
                go_wp2_with fail
                refine (HU.out w4 OB.out).mono ?_
                rintro e w5 ⟨rfl, ho5⟩
                have O5 := Lib.hid (O4.out.nil_trans ho5); have OC := Lib.hid (OB.out.nil_trans ho5)
                clear ho5 g0 g1 g2 l0 HU
                generalize taiR b x es (tai - b - 1) true = R2 at HB HN ⊢
                obtain ⟨s1, s2⟩ := R2
                dsimp only
                by_cases h5 : s2 = 0
                · by_cases h6 : s1 = tai
                  · have HX : Hid (utcR b x es tai = (tai - b - 1, true, 0)) := Lib.hid (HB.out (by rw [h5, h6]))
                    have p3 : (s2 == 0) = true := by simp [h5]
                    have p4 : (s1 == tai) = true := by simp [h6]
                    clear h5 h6
                    go_wp2
                    go_ret3
                    exact ⟨by rw [HX.out]; rfl, OC.out⟩
                  · have p3 : (s2 == 0) = true := by simp [h5]
                    have p4 : (s1 == tai) = false := by simp [h6]
                    have HNN := Lib.hid (HN.out HNE.out (fun q => h6 (congrArg Prod.fst q)))
                    clear h5 h6
                    go_wp2
                    go_roundw
                    case rel => exact ⟨0 + 1, by omega, by go_num, HNN.out, O5.out⟩
                    case measure => first | (simp [intOf]; done) | (simp [intOf]; omega)
                · have p3 : (s2 == 0) = false := by simp [h5]
                  have HNN := Lib.hid (HN.out HNE.out (fun q => h5 (congrArg Prod.snd q)))
                  clear h5
                  go_wp2
                  go_roundw
                  case rel => exact ⟨0 + 1, by omega, by go_num, HNN.out, O5.out⟩
                  case measure => first | (simp [intOf]; done) | (simp [intOf]; omega)
              · have p1 : (r2 == 0) = false := by simp [h3]
                clear hpk h2 h3
                go_wp2_with fail
                refine (HU.out w4 OB.out).mono ?_
                rintro e w5 ⟨rfl, ho5⟩
                have O5 := Lib.hid (O4.out.nil_trans ho5); have OC := Lib.hid (OB.out.nil_trans ho5)
                clear ho5 g0 g1 g2 l0 HU
                generalize taiR b x es (tai - b - 1) true = R2 at HB HN ⊢
                obtain ⟨s1, s2⟩ := R2
                dsimp only
                by_cases h5 : s2 = 0
                · by_cases h6 : s1 = tai
                  · have HX : Hid (utcR b x es tai = (tai - b - 1, true, 0)) := Lib.hid (HB.out (by rw [h5, h6]))
                    have p3 : (s2 == 0) = true := by simp [h5]
                    have p4 : (s1 == tai) = true := by simp [h6]
                    clear h5 h6
                    go_wp2
                    go_ret3
                    exact ⟨by rw [HX.out]; rfl, OC.out⟩
                  · have p3 : (s2 == 0) = true := by simp [h5]
                    have p4 : (s1 == tai) = false := by simp [h6]
                    have HNN := Lib.hid (HN.out HNE.out (fun q => h6 (congrArg Prod.fst q)))
                    clear h5 h6
                    go_wp2
                    go_roundw
                    case rel => exact ⟨0 + 1, by omega, by go_num, HNN.out, O5.out⟩
                    case measure => first | (simp [intOf]; done) | (simp [intOf]; omega)
                · have p3 : (s2 == 0) = false := by simp [h5]
                  have HNN := Lib.hid (HN.out HNE.out (fun q => h5 (congrArg Prod.snd q)))
                  clear h5
                  go_wp2
                  go_roundw
                  case rel => exact ⟨0 + 1, by omega, by go_num, HNN.out, O5.out⟩
                  case measure => first | (simp [intOf]; done) | (simp [intOf]; omega)
          · obtain ⟨bk, off, hp, c0, c1, lb⟩ := HV.out.pt (k := k - 1) OA.out (by omega)
            subst hp
            rw [← hoe] at c1
            clear hoe c0
            have d0 : decide ((k : Int) - 1 ≥ 0) = true := by simp; omega
            have d1 : decide (0 ≤ (k : Int) - 1) = true := by simp; omega
            have hi1 : (1 : Int) ≤ (k : Int) := by omega
            have hi2 : (k : Int) - 1 < (es.length : Int) := by omega
            have hi4 : ((k : Int) - 1).toNat = k - 1 := by omega
            go_wp2_with fail
            refine (HT.out wr OA.out).mono ?_
            rintro e w4 ⟨rfl, ho4⟩
            have B4 := Lib.hid (ho4.got B3.out (by simp)); have O4 := Lib.hid (OO.out.nil_trans ho4); have OB := Lib.hid (OA.out.nil_trans ho4)
            clear ho4 g0 g1 g2 l0 HT
            have g0 := cell_got B4.out 0; have g1 := cell_got B4.out 1; have g2 := cell_got B4.out 2
            have l0 := got_lt B4.out
            generalize taiR b x es (tai - ok) false = R at HA HN ⊢
            obtain ⟨r1, r2⟩ := R
            dsimp only
            by_cases h2 : r2 = 0 ∧ r1 = tai
            · obtain ⟨rfl, rfl⟩ := h2
              have HX : Hid (utcR b x es r1 = (r1 - ok, false, 0)) := Lib.hid (HA.out rfl)
              go_wp2
              go_ret3
              exact ⟨by rw [HX.out]; rfl, OB.out⟩
            · have hpk : ((r2 == 0) && (r1 == tai)) = false := by
                rw [Bool.eq_false_iff]; simp only [ne_eq, Bool.and_eq_true, beq_iff_eq]; exact h2
              have hne : (r1, r2) ≠ (tai, (0 : Int)) := fun q => h2 ⟨congrArg Prod.snd q, congrArg Prod.fst q⟩
              have HNE := Lib.hid hne
              clear hne
              by_cases h3 : r2 = 0
              · have p1 : (r2 == 0) = true := by simp [h3]
                have p2 : (r1 == tai) = false := by simp; exact fun q => h2 ⟨h3, q⟩
                clear hpk h2 h3
                go_wp2_with fail
                refine (HU.out w4 OB.out).mono ?_
                rintro e w5 ⟨rfl, ho5⟩
                have O5 := Lib.hid (O4.out.nil_trans ho5); have OC := Lib.hid (OB.out.nil_trans ho5)
                clear ho5 g0 g1 g2 l0 HU
                generalize taiR b x es (tai - ok - 1) true = R2 at HB HN ⊢
                obtain ⟨s1, s2⟩ := R2
                dsimp only
                by_cases h5 : s2 = 0
                · by_cases h6 : s1 = tai
                  · have HX : Hid (utcR b x es tai = (tai - ok - 1, true, 0)) := Lib.hid (HB.out (by rw [h5, h6]))
                    have p3 : (s2 == 0) = true := by simp [h5]
                    have p4 : (s1 == tai) = true := by simp [h6]
                    clear h5 h6
                    go_wp2
                    go_ret3
                    exact ⟨by rw [HX.out]; rfl, OC.out⟩
                  · have p3 : (s2 == 0) = true := by simp [h5]
                    have p4 : (s1 == tai) = false := by simp [h6]
                    have HNN := Lib.hid (HN.out HNE.out (fun q => h6 (congrArg Prod.fst q)))
                    clear h5 h6
                    go_wp2
                    go_roundw
                    case rel => exact ⟨k + 1, by omega, by go_num, HNN.out, O5.out⟩
                    case measure => first | (simp [intOf]; done) | (simp [intOf]; omega)
                · have p3 : (s2 == 0) = false := by simp [h5]
                  have HNN := Lib.hid (HN.out HNE.out (fun q => h5 (congrArg Prod.snd q)))
                  clear h5
                  go_wp2
                  go_roundw
                  case rel => exact ⟨k + 1, by omega, by go_num, HNN.out, O5.out⟩
                  case measure => first | (simp [intOf]; done) | (simp [intOf]; omega)
              · have p1 : (r2 == 0) = false := by simp [h3]
                clear hpk h2 h3
                go_wp2_with fail
                refine (HU.out w4 OB.out).mono ?_
                rintro e w5 ⟨rfl, ho5⟩
                have O5 := Lib.hid (O4.out.nil_trans ho5); have OC := Lib.hid (OB.out.nil_trans ho5)
                clear ho5 g0 g1 g2 l0 HU
                generalize taiR b x es (tai - ok - 1) true = R2 at HB HN ⊢
                obtain ⟨s1, s2⟩ := R2
                dsimp only
                by_cases h5 : s2 = 0
                · by_cases h6 : s1 = tai
                  · have HX : Hid (utcR b x es tai = (tai - ok - 1, true, 0)) := Lib.hid (HB.out (by rw [h5, h6]))
                    have p3 : (s2 == 0) = true := by simp [h5]
                    have p4 : (s1 == tai) = true := by simp [h6]
                    clear h5 h6
                    go_wp2
                    go_ret3
                    exact ⟨by rw [HX.out]; rfl, OC.out⟩
                  · have p3 : (s2 == 0) = true := by simp [h5]
                    have p4 : (s1 == tai) = false := by simp [h6]
                    have HNN := Lib.hid (HN.out HNE.out (fun q => h6 (congrArg Prod.fst q)))
                    clear h5 h6
                    go_wp2
                    go_roundw
                    case rel => exact ⟨k + 1, by omega, by go_num, HNN.out, O5.out⟩
                    case measure => first | (simp [intOf]; done) | (simp [intOf]; omega)
                · have p3 : (s2 == 0) = false := by simp [h5]
                  have HNN := Lib.hid (HN.out HNE.out (fun q => h5 (congrArg Prod.snd q)))
                  clear h5
                  go_wp2
                  go_roundw
                  case rel => exact ⟨k + 1, by omega, by go_num, HNN.out, O5.out⟩
                  case measure => first | (simp [intOf]; done) | (simp [intOf]; omega)
        · have q1 : decide ((k : Int) - 1 < (es.length : Int)) = false := by simp; omega
          have HX : Hid (utcR b x es tai = (0, false, 3)) := Lib.hid (utc_miss HC.out (fun j hj => HM.out j (by omega)))
          go_wp2
          go_ret3
          exact ⟨by rw [HX.out]; rfl, OA.out⟩
    · have hi2 : inM tai 8000002000 = false := by simpa using hi
      rw [hi2] at hwi
      have HWI := Lib.hid hwi
      have HX : Hid (utcR b x es tai = (0, false, 3)) := Lib.hid (utc_far HC.out hi2)
      clear hwi hi hi2
      go_wp2_with fail
      refine HWI.out.mono ?_
      rintro e w' ⟨rfl, rfl⟩
      go_wp2
      go_ret3
      exact ⟨by rw [HX.out]; rfl, O2.out⟩
  · have HX : Hid (utcR b x es tai = (0, false, chkT b x es)) := Lib.hid (by unfold utcR; rw [if_neg hc])
    have b1 : (chkT b x es == 0) = false := by simp [hc]
    have b2 : (chkT b x es != 0) = true := by simp [hc]
    clear hc
    go_wp2
    go_ret3
    exact ⟨by rw [HX.out]; rfl, O2.out⟩
end Go.Proofs.YtnfejojakikeeaaGreatDoor
