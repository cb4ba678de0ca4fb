/- ScenarioLinks: the link that joins two nodes and its direction are the reference's; the other way round it is the same link in the other direction, for every scene and both numbers. Conditions: those of the given row. -/
import Derived.Test.YthmeifdgkodjlaaGreatDoorG7
namespace Go.Proofs.YthmeifdgkodjlaaGreatDoor
open Go.ChangeShapes Go.WideShapes Go.ChangeAt Go.RowKit

theorem links_cases (a b : Int) (l : List Lk) : (lnk l a b = none ∧ lnk l b a = none) ∨ (∃ j d, a = b ∧ lnk l a b = some (j, d) ∧ lnk l b a = some (j, d)) ∨ (∃ j d, a ≠ b ∧ lnk l a b = some (j, d) ∧ lnk l b a = some (j, !d)) := by
  cases h : lnk l a b with
  | none =>
    have h1 := lnk_fst a b l 0
    have h2 : lnkF a b l 0 = none := h
    rw [h2] at h1
    refine .inl ⟨rfl, ?_⟩
    show lnkF b a l 0 = none
    cases h3 : lnkF b a l 0 with
    | none => rfl
    | some x => rw [h3] at h1; cases h1
  | some x =>
    obtain ⟨j, d⟩ := x
    by_cases hab : a = b
    · subst hab; exact .inr (.inl ⟨j, d, rfl, rfl, h⟩)
    · exact .inr (.inr ⟨j, d, hab, rfl, lnk_rev hab l 0 j d h⟩)

set_option maxRecDepth 100000 in
set_option maxHeartbeats 1000000 in
theorem rLnk {w : World} (s : ScW) (a b : Int) (hs : s.Ok w) :
    Calls Tryz.prog 19 #[scV s, .int .i64 a, .int .i64 b] w fun e w' => e = .returned (lnkV (lnk s.sc.lk a b)) ∧ Only [] w w' := by
  obtain ⟨nd, ls, ft, un, sd, pn, cn, p, cap, pf, cf⟩ := s
  have hn := hs.ll
  have HV := Lib.hid hs.lk; clear hs
  show Calls _ _ _ _ (fun e w' => e = .returned (lnkV (lnk (ls.map LkW.l) a b)) ∧ _)
  unfold scV
  dsimp only at hn HV ⊢
  obtain ⟨res, hres⟩ : ∃ res, res = lnk (ls.map LkW.l) a b := ⟨_, rfl⟩
  rw [← hres]
  have HRS := Lib.hid hres
  clear hres
  go_enter Tryz.func19, Tryz.ntmps19
  go_upto_region 1 with (fail)
  refine alloc_abs (G := fun w0 => Code.wp _ _ _ _ w0) ?_
  intro w1 hb1 ho1 hs1
  have B1 := Lib.hid hb1; have O1 := Lib.hid ho1
  clear hb1 ho1 hs1
  go_wp2
  go_loopw [8] (fun vi wr => LnI w1 a b ls vi wr) (fun vi _ => ls.length - (intOf vi).toNat)
  case atStart => exact ⟨0, Nat.zero_le _, rfl, rfl, Only.refl _ _⟩
  case round =>
    obtain ⟨k, hk, rfl, hln, ho⟩ := hrel
    have G := Lib.hid (ho.got B1.out (by simp))
    have HL := Lib.hid (HRS.out.trans hln); have HL0 := Lib.hid hln; have OO := Lib.hid ho; have OA := Lib.hid (O1.out.nil_trans ho)
    clear hln ho
    have g1 := cell_got G.out 1; have l0 := got_lt G.out
    by_cases hlt : k < ls.length
    · obtain ⟨bk, off, hp, lb, c0, c1, c2, c3, c4, c5, c6, c7, c8⟩ := HV.out.lk OA.out hlt
      subst hp
      have hdr := lnkF_drop (a := a) (b := b) (l := ls.map LkW.l) (k := k) (by simpa using hlt)
      rw [show (ls.map LkW.l).getD k lk0 = (ls.getD k lw0).l by simp [List.getD_eq_getElem?_getD, hlt]] at hdr
      generalize ls.getD k lw0 = c at c0 c1 c2 c3 c4 c5 c6 c7 c8 hdr
      have HD := Lib.hid hdr
      clear hdr
      by_cases h1 : c.l.A = a ∧ c.l.B = b
      · have HQ : Hid (res = some (k, false)) := Lib.hid (by rw [HL.out, HD.out, if_pos h1])
        have ax : (c.l.A == a) = true := by simp [h1.1]
        have bx : (c.l.B == b) = true := by simp [h1.2]
        clear h1
        go_wp2
        refine bodyPost_ret (v := .tuple #[.int .i64 k, .int .i64 0]) (by simp [results, Tryz.results19, go_sem]) rfl ⟨by rw [HQ.out]; rfl, OA.out⟩
      · by_cases h2 : c.l.A = b ∧ c.l.B = a
        · have HQ : Hid (res = some (k, true)) := Lib.hid (by rw [HL.out, HD.out, if_neg h1, if_pos h2])
          have ay : (c.l.A == b) = true := by simp [h2.1]
          have bY : (c.l.B == a) = true := by simp [h2.2]
          by_cases h3 : c.l.A = a
          · have ax : (c.l.A == a) = true := by simp [h3]
            have bx : (c.l.B == b) = false := by rw [beq_eq_false_iff_ne]; exact fun q => h1 ⟨h3, q⟩
            clear h1 h2 h3
            go_wp2
            refine bodyPost_ret (v := .tuple #[.int .i64 k, .int .i64 1]) (by simp [results, Tryz.results19, go_sem]) rfl ⟨by rw [HQ.out]; rfl, OA.out⟩
          · have ax : (c.l.A == a) = false := by simp [h3]
            clear h1 h2 h3
            go_wp2
            refine bodyPost_ret (v := .tuple #[.int .i64 k, .int .i64 1]) (by simp [results, Tryz.results19, go_sem]) rfl ⟨by rw [HQ.out]; rfl, OA.out⟩
        · have HQ := Lib.hid (HL0.out.trans (by rw [HD.out, if_neg h1, if_neg h2]))
          have hAB : ∃ x1 x2 x3 x4 : Bool, (c.l.A == a) = x1 ∧ (c.l.B == b) = x2 ∧ (c.l.A == b) = x3 ∧ (c.l.B == a) = x4 ∧ (x1 && x2) = false ∧ (x3 && x4) = false := by
            refine ⟨_, _, _, _, rfl, rfl, rfl, rfl, ?_, ?_⟩
            · rw [Bool.eq_false_iff]; intro q; rw [Bool.and_eq_true, beq_iff_eq, beq_iff_eq] at q; exact h1 q
            · rw [Bool.eq_false_iff]; intro q; rw [Bool.and_eq_true, beq_iff_eq, beq_iff_eq] at q; exact h2 q
          clear h1 h2
          obtain ⟨x1, x2, x3, x4, e1, e2, e3, e4, q1, q2⟩ := hAB
          cases x1 <;> cases x3
          · clear q1 q2
            go_wp2
            go_roundw
            case rel => exact ⟨k + 1, by omega, by go_num, HQ.out, OO.out⟩
            case measure => first | (simp [intOf]; done) | (simp [intOf]; omega)
          · obtain rfl : x4 = false := by simpa using q2
            clear q1 q2
            go_wp2
            go_roundw
            case rel => exact ⟨k + 1, by omega, by go_num, HQ.out, OO.out⟩
            case measure => first | (simp [intOf]; done) | (simp [intOf]; omega)
          · obtain rfl : x2 = false := by simpa using q1
            clear q1 q2
            go_wp2
            go_roundw
            case rel => exact ⟨k + 1, by omega, by go_num, HQ.out, OO.out⟩
            case measure => first | (simp [intOf]; done) | (simp [intOf]; omega)
          · obtain rfl : x2 = false := by simpa using q1
            obtain rfl : x4 = false := by simpa using q2
            clear q1 q2
            go_wp2
            go_roundw
            case rel => exact ⟨k + 1, by omega, by go_num, HQ.out, OO.out⟩
            case measure => first | (simp [intOf]; done) | (simp [intOf]; omega)
    · obtain rfl : k = ls.length := by omega
      have HQ : Hid (res = none) := Lib.hid (by rw [HL.out, List.drop_of_length_le (by simp)]; rfl)
      go_wp2
      refine bodyPost_ret (v := .tuple #[.int .i64 (-1), .int .i64 0]) (by simp [results, Tryz.results19, go_sem]) rfl ⟨by rw [HQ.out]; rfl, OA.out⟩

set_option maxRecDepth 100000 in
set_option maxHeartbeats 1000000 in
theorem links_walk {w : World} (s : ScW) (hv : s.Ok0 w) (a b : Int) (he : Env w) :
    Calls Tryz.prog 7 #[scV s, .int .i64 a, .int .i64 b] w fun e w' => e = .returned (.bool true) ∧ Only [] w w' := by
  have HV := Lib.hid hv; have HE := Lib.hid he
  obtain ⟨sc, hsc⟩ : ∃ sc, s.sc = sc := ⟨_, rfl⟩
  have HSC := Lib.hid hsc
  clear hv he hsc
  obtain ⟨nd, lk, ft, un, sd, pn, cn, pl, cl, pf, cf⟩ := s
  simp only [scV]
  go_enter Tryz.func7, Tryz.ntmps7
  go_upto_region 1 with (fail)
  refine alloc_abs (G := fun w0 => Code.wp _ _ _ _ w0) ?_
  intro w1 hb1 ho1 hs1
  have B1 := Lib.hid hb1; have O1 := Lib.hid ho1
  clear hb1 ho1 hs1
  have c0 := cell_got B1.out 0; have c1 := cell_got B1.out 1; have c2 := cell_got B1.out 2; have c3 := cell_got B1.out 3; have c4 := cell_got B1.out 4; have lc := got_lt B1.out
  have HSM := Lib.hid (pSmall _ (HV.out.nd.kept O1.out) (HV.out.lk.kept O1.out))
  go_wp2_with fail
  refine HSM.out.mono ?_
  rintro e w2 ⟨rfl, ho2⟩
  have O2 := Lib.hid (O1.out.nil_trans ho2); have B2 := Lib.hid (ho2.got B1.out (by simp))
  clear ho2 O1 B1 HSM c0 c1 c2 c3 c4 lc
  have c0 := cell_got B2.out 0; have c1 := cell_got B2.out 1; have c2 := cell_got B2.out 2; have c3 := cell_got B2.out 3; have c4 := cell_got B2.out 4; have lc := got_lt B2.out
  by_cases hsm : smW ⟨nd, lk, ft, un, sd, pn, cn, pl, cl, pf, cf⟩ = true
  · have HOK := Lib.hid (HV.out.ok hsm)
    rw [hsm]
    clear hsm
    have h1 := fun w' (ho : Only [] w w') => pLnk _ a b (HOK.out.kept ho)
    have h2 := fun w' (ho : Only [] w w') => rLnk _ a b (HOK.out.kept ho)
    have h3 := fun w' (ho : Only [] w w') => pLnk _ b a (HOK.out.kept ho)
    simp only [HSC.out, scV] at h1 h2 h3
    rcases links_cases a b sc.lk with ⟨q1, q2⟩ | ⟨j, d, rfl, q1, q2⟩ | ⟨j, d, hab, q1, q2⟩
    · simp only [q1, q2, lnkV] at h1 h2 h3
      have H1 := Lib.hid h1; have H2 := Lib.hid h2; have H3 := Lib.hid h3
      clear h1 h2 h3 q1 q2
      have K3 := Lib.hid (H1.out w2 O2.out)
      go_wp2_with fail
      refine K3.out.mono ?_
      rintro e w3 ⟨rfl, ho3⟩
      have O3 := Lib.hid (O2.out.nil_trans ho3); have B3 := Lib.hid (ho3.got B2.out (by simp))
      clear ho3 O2 B2 K3 c0 c1 c2 c3 c4 lc
      have c0 := cell_got B3.out 0; have c1 := cell_got B3.out 1; have c2 := cell_got B3.out 2; have c3 := cell_got B3.out 3; have c4 := cell_got B3.out 4; have lc := got_lt B3.out
      have K4 := Lib.hid (H2.out w3 O3.out)
      go_wp2_with fail
      refine K4.out.mono ?_
      rintro e w4 ⟨rfl, ho4⟩
      have O4 := Lib.hid (O3.out.nil_trans ho4); have B4 := Lib.hid (ho4.got B3.out (by simp))
      clear ho4 O3 B3 K4 c0 c1 c2 c3 c4 lc
      have c0 := cell_got B4.out 0; have c1 := cell_got B4.out 1; have c2 := cell_got B4.out 2; have c3 := cell_got B4.out 3; have c4 := cell_got B4.out 4; have lc := got_lt B4.out
      have K5 := Lib.hid (H3.out w4 O4.out)
      go_wp2_with fail
      refine K5.out.mono ?_
      rintro e w5 ⟨rfl, ho5⟩
      have O5 := Lib.hid (O4.out.nil_trans ho5); have B5 := Lib.hid (ho5.got B4.out (by simp))
      clear ho5 O4 B4 K5 c0 c1 c2 c3 c4 lc
      have c0 := cell_got B5.out 0; have c1 := cell_got B5.out 1; have c2 := cell_got B5.out 2; have c3 := cell_got B5.out 3; have c4 := cell_got B5.out 4; have lc := got_lt B5.out
      have HA := Lib.hid (pAwake w5 (HE.out.kept O5.out))
      go_wp2_with fail
      refine HA.out.mono ?_
      rintro e w8 ⟨rfl, ho8⟩
      have O8 := Lib.hid (O5.out.nil_trans ho8)
      clear ho8
      go_wp2
      go_ret
      exact ⟨rfl, O8.out⟩
    · have jn : decide ((j : Int) < 0) = false := by simp
      have jp : decide ((j : Int) ≥ 0) = true := by simp
      cases d
      · simp only [q1, lnkV] at h1 h2 h3
        have H1 := Lib.hid h1; have H2 := Lib.hid h2; have H3 := Lib.hid h3
        clear h1 h2 h3 q1 q2
        have K3 := Lib.hid (H1.out w2 O2.out)
        go_wp2_with fail
        refine K3.out.mono ?_
        rintro e w3 ⟨rfl, ho3⟩
        have O3 := Lib.hid (O2.out.nil_trans ho3); have B3 := Lib.hid (ho3.got B2.out (by simp))
        clear ho3 O2 B2 K3 c0 c1 c2 c3 c4 lc
        have c0 := cell_got B3.out 0; have c1 := cell_got B3.out 1; have c2 := cell_got B3.out 2; have c3 := cell_got B3.out 3; have c4 := cell_got B3.out 4; have lc := got_lt B3.out
        have K4 := Lib.hid (H2.out w3 O3.out)
        go_wp2_with fail
        refine K4.out.mono ?_
        rintro e w4 ⟨rfl, ho4⟩
        have O4 := Lib.hid (O3.out.nil_trans ho4); have B4 := Lib.hid (ho4.got B3.out (by simp))
        clear ho4 O3 B3 K4 c0 c1 c2 c3 c4 lc
        have c0 := cell_got B4.out 0; have c1 := cell_got B4.out 1; have c2 := cell_got B4.out 2; have c3 := cell_got B4.out 3; have c4 := cell_got B4.out 4; have lc := got_lt B4.out
        have K5 := Lib.hid (H1.out w4 O4.out)
        go_wp2_with fail
        refine K5.out.mono ?_
        rintro e w5 ⟨rfl, ho5⟩
        have O5 := Lib.hid (O4.out.nil_trans ho5); have B5 := Lib.hid (ho5.got B4.out (by simp))
        clear ho5 O4 B4 K5 c0 c1 c2 c3 c4 lc
        have c0 := cell_got B5.out 0; have c1 := cell_got B5.out 1; have c2 := cell_got B5.out 2; have c3 := cell_got B5.out 3; have c4 := cell_got B5.out 4; have lc := got_lt B5.out
        have HA := Lib.hid (pAwake w5 (HE.out.kept O5.out))
        go_wp2_with fail
        refine HA.out.mono ?_
        rintro e w8 ⟨rfl, ho8⟩
        have O8 := Lib.hid (O5.out.nil_trans ho8)
        clear ho8
        go_wp2
        go_ret
        exact ⟨rfl, O8.out⟩
      · simp only [q1, lnkV] at h1 h2 h3
        have H1 := Lib.hid h1; have H2 := Lib.hid h2; have H3 := Lib.hid h3
        clear h1 h2 h3 q1 q2
        have K3 := Lib.hid (H1.out w2 O2.out)
        go_wp2_with fail
        refine K3.out.mono ?_
        rintro e w3 ⟨rfl, ho3⟩
        have O3 := Lib.hid (O2.out.nil_trans ho3); have B3 := Lib.hid (ho3.got B2.out (by simp))
        clear ho3 O2 B2 K3 c0 c1 c2 c3 c4 lc
        have c0 := cell_got B3.out 0; have c1 := cell_got B3.out 1; have c2 := cell_got B3.out 2; have c3 := cell_got B3.out 3; have c4 := cell_got B3.out 4; have lc := got_lt B3.out
        have K4 := Lib.hid (H2.out w3 O3.out)
        go_wp2_with fail
        refine K4.out.mono ?_
        rintro e w4 ⟨rfl, ho4⟩
        have O4 := Lib.hid (O3.out.nil_trans ho4); have B4 := Lib.hid (ho4.got B3.out (by simp))
        clear ho4 O3 B3 K4 c0 c1 c2 c3 c4 lc
        have c0 := cell_got B4.out 0; have c1 := cell_got B4.out 1; have c2 := cell_got B4.out 2; have c3 := cell_got B4.out 3; have c4 := cell_got B4.out 4; have lc := got_lt B4.out
        have K5 := Lib.hid (H1.out w4 O4.out)
        go_wp2_with fail
        refine K5.out.mono ?_
        rintro e w5 ⟨rfl, ho5⟩
        have O5 := Lib.hid (O4.out.nil_trans ho5); have B5 := Lib.hid (ho5.got B4.out (by simp))
        clear ho5 O4 B4 K5 c0 c1 c2 c3 c4 lc
        have c0 := cell_got B5.out 0; have c1 := cell_got B5.out 1; have c2 := cell_got B5.out 2; have c3 := cell_got B5.out 3; have c4 := cell_got B5.out 4; have lc := got_lt B5.out
        have HA := Lib.hid (pAwake w5 (HE.out.kept O5.out))
        go_wp2_with fail
        refine HA.out.mono ?_
        rintro e w8 ⟨rfl, ho8⟩
        have O8 := Lib.hid (O5.out.nil_trans ho8)
        clear ho8
        go_wp2
        go_ret
        exact ⟨rfl, O8.out⟩
    · have jn : decide ((j : Int) < 0) = false := by simp
      have jp : decide ((j : Int) ≥ 0) = true := by simp
      have ab : (a == b) = false := by simp [hab]
      have abn : (a != b) = true := by simp [hab]
      cases d
      · simp only [q1, q2, lnkV, Bool.not_false] at h1 h2 h3
        have H1 := Lib.hid h1; have H2 := Lib.hid h2; have H3 := Lib.hid h3
        clear h1 h2 h3 q1 q2 hab
        have K3 := Lib.hid (H1.out w2 O2.out)
        go_wp2_with fail
        refine K3.out.mono ?_
        rintro e w3 ⟨rfl, ho3⟩
        have O3 := Lib.hid (O2.out.nil_trans ho3); have B3 := Lib.hid (ho3.got B2.out (by simp))
        clear ho3 O2 B2 K3 c0 c1 c2 c3 c4 lc
        have c0 := cell_got B3.out 0; have c1 := cell_got B3.out 1; have c2 := cell_got B3.out 2; have c3 := cell_got B3.out 3; have c4 := cell_got B3.out 4; have lc := got_lt B3.out
        have K4 := Lib.hid (H2.out w3 O3.out)
        go_wp2_with fail
        refine K4.out.mono ?_
        rintro e w4 ⟨rfl, ho4⟩
        have O4 := Lib.hid (O3.out.nil_trans ho4); have B4 := Lib.hid (ho4.got B3.out (by simp))
        clear ho4 O3 B3 K4 c0 c1 c2 c3 c4 lc
        have c0 := cell_got B4.out 0; have c1 := cell_got B4.out 1; have c2 := cell_got B4.out 2; have c3 := cell_got B4.out 3; have c4 := cell_got B4.out 4; have lc := got_lt B4.out
        have K5 := Lib.hid (H3.out w4 O4.out)
        go_wp2_with fail
        refine K5.out.mono ?_
        rintro e w5 ⟨rfl, ho5⟩
        have O5 := Lib.hid (O4.out.nil_trans ho5); have B5 := Lib.hid (ho5.got B4.out (by simp))
        clear ho5 O4 B4 K5 c0 c1 c2 c3 c4 lc
        have c0 := cell_got B5.out 0; have c1 := cell_got B5.out 1; have c2 := cell_got B5.out 2; have c3 := cell_got B5.out 3; have c4 := cell_got B5.out 4; have lc := got_lt B5.out
        have HA := Lib.hid (pAwake w5 (HE.out.kept O5.out))
        go_wp2_with fail
        refine HA.out.mono ?_
        rintro e w8 ⟨rfl, ho8⟩
        have O8 := Lib.hid (O5.out.nil_trans ho8)
        clear ho8
        go_wp2
        go_ret
        exact ⟨rfl, O8.out⟩
      · simp only [q1, q2, lnkV, Bool.not_true] at h1 h2 h3
        have H1 := Lib.hid h1; have H2 := Lib.hid h2; have H3 := Lib.hid h3
        clear h1 h2 h3 q1 q2 hab
        have K3 := Lib.hid (H1.out w2 O2.out)
        go_wp2_with fail
        refine K3.out.mono ?_
        rintro e w3 ⟨rfl, ho3⟩
        have O3 := Lib.hid (O2.out.nil_trans ho3); have B3 := Lib.hid (ho3.got B2.out (by simp))
        clear ho3 O2 B2 K3 c0 c1 c2 c3 c4 lc
        have c0 := cell_got B3.out 0; have c1 := cell_got B3.out 1; have c2 := cell_got B3.out 2; have c3 := cell_got B3.out 3; have c4 := cell_got B3.out 4; have lc := got_lt B3.out
        have K4 := Lib.hid (H2.out w3 O3.out)
        go_wp2_with fail
        refine K4.out.mono ?_
        rintro e w4 ⟨rfl, ho4⟩
        have O4 := Lib.hid (O3.out.nil_trans ho4); have B4 := Lib.hid (ho4.got B3.out (by simp))
        clear ho4 O3 B3 K4 c0 c1 c2 c3 c4 lc
        have c0 := cell_got B4.out 0; have c1 := cell_got B4.out 1; have c2 := cell_got B4.out 2; have c3 := cell_got B4.out 3; have c4 := cell_got B4.out 4; have lc := got_lt B4.out
        have K5 := Lib.hid (H3.out w4 O4.out)
        go_wp2_with fail
        refine K5.out.mono ?_
        rintro e w5 ⟨rfl, ho5⟩
        have O5 := Lib.hid (O4.out.nil_trans ho5); have B5 := Lib.hid (ho5.got B4.out (by simp))
        clear ho5 O4 B4 K5 c0 c1 c2 c3 c4 lc
        have c0 := cell_got B5.out 0; have c1 := cell_got B5.out 1; have c2 := cell_got B5.out 2; have c3 := cell_got B5.out 3; have c4 := cell_got B5.out 4; have lc := got_lt B5.out
        have HA := Lib.hid (pAwake w5 (HE.out.kept O5.out))
        go_wp2_with fail
        refine HA.out.mono ?_
        rintro e w8 ⟨rfl, ho8⟩
        have O8 := Lib.hid (O5.out.nil_trans ho8)
        clear ho8
        go_wp2
        go_ret
        exact ⟨rfl, O8.out⟩
  · rw [show smW ⟨nd, lk, ft, un, sd, pn, cn, pl, cl, pf, cf⟩ = false by simpa using hsm]
    clear hsm
    have HA := Lib.hid (pAwake w2 (HE.out.kept O2.out))
    go_wp2_with fail
    refine HA.out.mono ?_
    rintro e w8 ⟨rfl, ho8⟩
    have O8 := Lib.hid (O2.out.nil_trans ho8)
    clear ho8
    go_wp2
    go_ret
    exact ⟨rfl, O8.out⟩
set_option maxRecDepth 100000 in
theorem scenarioLinks_lifted (os : Os) (started : os.Started) (H : Type) (enc : TypeId × Value → H) :
    ReturnsInHanded {} Tryz.checked os 7 .any (fun w args => (Rows.scenarioLinksSpec.pre enc Tryz.prog Tryz.f7 Rows.scenarioLinksRow.domain false w args ∧ laidMetH Tryz.prog Rows.scenarioLinksRow.laid w) ∧ sizedMet enc Tryz.prog Tryz.f7 (OpenSpec.ofChange Rows.scenarioLinksSpec) false w args)
      (Rows.scenarioLinksSpec.post enc Tryz.prog Tryz.f7 false true false false) := by
  refine returnsInHanded_of_change_and_shaped (C := Tryz.checked) (X := fun w _ => laidMetH Tryz.prog Rows.scenarioLinksRow.laid w) (fun _ _ _ hh h => h.of_heap hh) law_own started (by kernel_rfl) Tryz.func7
    (ChangeSpec.witness_shaped (enc := enc) (C := Tryz.checked) (os := os) (X := fun w _ => laidMetH Tryz.prog Rows.scenarioLinksRow.laid w) false (World.laidAll Tryz.prog os Rows.scenarioLinksRow.laid) #[.agg #[.slice none 0 0, .slice none 0 0, .slice none 0 0, .int .i64 0, .int .u64 0], .int .i64 0, .int .i64 0] 8 (World.laidAll_os _ _ _)
      (World.shaped_of_ZipB (by kernel_rfl) (by kernel_rfl)) (by kernel_rfl) (by kernel_rfl) (by kernel_rfl)
      (by rw [MakeChecks.laidMetH_plain _ _ _ (by kernel_rfl)]; exact laidMet_laidAll _ (by kernel_rfl) (by kernel_rfl))) ?_
  intro W base args ds gs before hval0 hW hcnd _ hL hsh _
  have hval : ∀ (j : Nat) t v, Tryz.f7.params[j]? = some t → args[j]? = some v → Value.okWide Tryz.prog W .any base t v := hval0
  have hW' := hW
  obtain ⟨p, q, hA0, hV, rfl, hfz, hnd⟩ := hW
  have hA : DataW.TrodAll enc Tryz.prog W 0 (fun _ => true) true Tryz.f7.params.toList args.toList ds p := hA0
  rw [Tryz.params7] at hA hval
  obtain ⟨v0, vs0, d0, ds0, p0, q0, hargs, rfl, rfl, h0, r0⟩ := trodAll_cons hA
  obtain ⟨v1, vs1, d1, ds1, p1, q1, rfl, rfl, rfl, h1, r1⟩ := trodAll_cons r0
  obtain ⟨v2, vs2, d2, ds2, p2, q2, rfl, rfl, rfl, h2, r2⟩ := trodAll_cons r1
  obtain ⟨rfl, rfl, rfl⟩ := trodAll_nil r2
  obtain rfl : args = #[v0, v1, v2] := by cases args; simp_all
  obtain ⟨rfl, rfl⟩ := trodVars_none hV
  have k0 := h0
  have lt0 : ∀ x ∈ p0, x.block < W.heap.size := by obtain ⟨m, hm⟩ := k0; exact DataW.trod_lt m _ _ _ hm
  obtain ⟨s0, rfl, z0⟩ := scene_of (hval 0 27 v0 rfl rfl) h0
  obtain ⟨a1, rfl, rfl, rfl, w1⟩ := open_int Tryz.underlying3 (hval 1 3 v1 rfl rfl) h1
  obtain ⟨a2, rfl, rfl, rfl, w2⟩ := open_int Tryz.underlying3 (hval 2 3 v2 rfl rfl) h2
  clear hA0 hval0
  refine (links_walk s0 z0 a1 a2 (env_of_laid (by kernel_rfl) (by simp [Rows.scenarioLinksRow]) (by simp [Rows.scenarioLinksRow]) (by simp [Rows.scenarioLinksRow]) hL hsh)).mono fun e W' ⟨he, ho⟩ => ?_
  subst he
  have bel : Below W.heap.size W W' := ho.nil_below
  exact ⟨_, rfl, _, _, _, [], _, [], hW', trodAll_mk1 (shut_bool Tryz.underlying4 _), (trodAll_cons_mk (Below.trod law_laidOut (by kernel_rfl) (of_decide_eq_true (by kernel_rfl)) k0 bel lt0) (trodAll_cons_mk (shut_int Tryz.underlying3 w1) (trodAll_cons_mk (shut_int Tryz.underlying3 w2) trodAll_mk0))), rfl, bel.frame _, fun h => by cases h⟩

theorem scenarioLinks_over : Rows.scenarioLinksRow.holds Tryz.pinned (OpenSpec.ofChange Rows.scenarioLinksSpec) :=
  OpenClaim.holds_of_wide 7 Tryz.f7 rfl rfl rfl rfl rfl rfl rfl ⟨rfl, rfl, rfl, rfl, rfl⟩ rfl rfl rfl rfl rfl (by kernel_rfl) Tryz.func7 (by kernel_rfl)
    (of_decide_eq_true (by kernel_rfl)) (by unfold Func.isWrapper; first | (rw [if_pos (by decide +kernel)]; kernel_rfl) | (rw [if_neg (by decide +kernel)]; exact ⟨rfl, rfl⟩))
    (fun os started H enc _ => scenarioLinks_lifted os started H enc)

theorem scenarioLinks_holds : Rows.ScenarioLinksCardSaid :=
  Claim7.holds_tied_plain_at .later [] [.data, .data, .data, .data, .sentinel, .sentinel, .pinned] true (true, "ad56d0d74317d7d29a88cd7d6ee526fd1d84a70b822a4bf7753bf90f46e7eb24") true scenarioLinks_over (fun _ h => by cases h) (by kernel_rfl) (fun _ h => by cases h) scenarioLinks_row_tie rfl ⟨rfl, rfl⟩ (by kernel_rfl) rfl
    (fun f fn hf hfn => by
      obtain rfl : f = 7 := Option.some.inj ((show Tryz.prog.funcNamed "timesync/timesynclaw56.ScenarioLinks" = some 7 by kernel_rfl).symm.trans hf) |>.symm
      obtain rfl : fn = Tryz.f7 := (Option.some.inj (Tryz.func7.symm.trans hfn)).symm
      exact ⟨by kernel_rfl, fun j t ht => by
        rw [Tryz.params7] at ht
        have hm : t ∈ [27, 3, 3] := by simpa using Array.mem_of_getElem? ht
        have hall : ([27, 3, 3].all fun u => !Tryz.prog.wantsStandIn u) = true := by kernel_rfl
        exact (show Tryz.prog.wantsStandIn t = false by simpa using List.all_eq_true.1 hall t hm)⟩)
    (by kernel_rfl)
end Go.Proofs.YthmeifdgkodjlaaGreatDoor
