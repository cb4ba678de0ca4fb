/- For ScenarioLinks: the link that joins two nodes and its direction are the reference's; the other way round it is the same link in the other direction, for every scene and both numbers. Conditions: those of the given row. -/
import Derived.Test.YthmeifdgkodjlaaGreatDoorG2
namespace Go.Proofs.YthmeifdgkodjlaaGreatDoor
open Go.ChangeShapes Go.WideShapes Go.ChangeAt Go.RowKit

theorem links_cases (a b : Int) (l : List Lk) : (lnk l a b = none ∧ lnk l b a = none) ∨ (∃ j d, a = b ∧ lnk l a b = some (j, d) ∧ lnk l b a = some (j, d)) ∨ (∃ j d, a ≠ b ∧ lnk l a b = some (j, d) ∧ lnk l b a = some (j, !d)) := by
  cases h : lnk l a b with
  | none =>
    have h1 := lnk_fst a b l 0
    have h2 : lnkF a b l 0 = none := h
    rw [h2] at h1
    refine .inl ⟨rfl, ?_⟩
    show lnkF b a l 0 = none
    cases h3 : lnkF b a l 0 with
    | none => rfl
    | some x => rw [h3] at h1; cases h1
  | some x =>
    obtain ⟨j, d⟩ := x
    by_cases hab : a = b
    · subst hab; exact .inr (.inl ⟨j, d, rfl, rfl, h⟩)
    · exact .inr (.inr ⟨j, d, hab, rfl, lnk_rev hab l 0 j d h⟩)

set_option maxRecDepth 100000 in
set_option maxHeartbeats 1000000 in
theorem rLnk {w : World} (s : ScW) (a b : Int) (hs : s.Ok w) :
    Calls Tryz.prog 19 #[scV s, .int .i64 a, .int .i64 b] w fun e w' => e = .returned (lnkV (lnk s.sc.lk a b)) ∧ Only [] w w' := by
  obtain ⟨nd, ls, ft, un, sd, pn, cn, p, cap, pf, cf⟩ := s
  have hn := hs.ll
  have HV := Lib.hid hs.lk; clear hs
  show Calls _ _ _ _ (fun e w' => e = .returned (lnkV (lnk (ls.map LkW.l) a b)) ∧ _)
  unfold scV
  dsimp only at hn HV ⊢
  obtain ⟨res, hres⟩ : ∃ res, res = lnk (ls.map LkW.l) a b := ⟨_, rfl⟩
  rw [← hres]
  have HRS := Lib.hid hres
  clear hres
  go_enter Tryz.func19, Tryz.ntmps19
  go_upto_region 1 with (fail)
  refine alloc_abs (G := fun w0 => Code.wp _ _ _ _ w0) ?_
  intro w1 hb1 ho1 hs1
  have B1 := Lib.hid hb1; have O1 := Lib.hid ho1
  clear hb1 ho1 hs1
  go_wp2
  go_loopw [8] (fun vi wr => LnI w1 a b ls vi wr) (fun vi _ => ls.length - (intOf vi).toNat)
  case atStart => exact ⟨0, Nat.zero_le _, rfl, rfl, Only.refl _ _⟩
  case round =>
    obtain ⟨k, hk, rfl, hln, ho⟩ := hrel
    have G := Lib.hid (ho.got B1.out (by simp))
    have HL := Lib.hid (HRS.out.trans hln); have HL0 := Lib.hid hln; have OO := Lib.hid ho; have OA := Lib.hid (O1.out.nil_trans ho)
    clear hln ho
    have g1 := cell_got G.out 1; have l0 := got_lt G.out
    by_cases hlt : k < ls.length
    · obtain ⟨bk, off, hp, lb, c0, c1, c2, c3, c4, c5, c6, c7, c8⟩ := HV.out.lk OA.out hlt
      subst hp
      have hdr := lnkF_drop (a := a) (b := b) (l := ls.map LkW.l) (k := k) (by simpa using hlt)
      rw [show (ls.map LkW.l).getD k lk0 = (ls.getD k lw0).l by simp [List.getD_eq_getElem?_getD, hlt]] at hdr
      generalize ls.getD k lw0 = c at c0 c1 c2 c3 c4 c5 c6 c7 c8 hdr
      have HD := Lib.hid hdr
      clear hdr
      by_cases h1 : c.l.A = a ∧ c.l.B = b
      · have HQ : Hid (res = some (k, false)) := Lib.hid (by rw [HL.out, HD.out, if_pos h1])
        have ax : (c.l.A == a) = true := by simp [h1.1]
        have bx : (c.l.B == b) = true := by simp [h1.2]
        clear h1
        go_wp2
        refine bodyPost_ret (v := .tuple #[.int .i64 k, .int .i64 0]) (by simp [results, Tryz.results19, go_sem]) rfl ⟨by rw [HQ.out]; rfl, OA.out⟩
      · by_cases h2 : c.l.A = b ∧ c.l.B = a
        · have HQ : Hid (res = some (k, true)) := Lib.hid (by rw [HL.out, HD.out, if_neg h1, if_pos h2])
          have ay : (c.l.A == b) = true := by simp [h2.1]
          have bY : (c.l.B == a) = true := by simp [h2.2]
          by_cases h3 : c.l.A = a
          · have ax : (c.l.A == a) = true := by simp [h3]
            have bx : (c.l.B == b) = false := by rw [beq_eq_false_iff_ne]; exact fun q => h1 ⟨h3, q⟩
            clear h1 h2 h3
            go_wp2
            refine bodyPost_ret (v := .tuple #[.int .i64 k, .int .i64 1]) (by simp [results, Tryz.results19, go_sem]) rfl ⟨by rw [HQ.out]; rfl, OA.out⟩
          · have ax : (c.l.A == a) = false := by simp [h3]
            clear h1 h2 h3
            go_wp2
            refine bodyPost_ret (v := .tuple #[.int .i64 k, .int .i64 1]) (by simp [results, Tryz.results19, go_sem]) rfl ⟨by rw [HQ.out]; rfl, OA.out⟩
        · have HQ := Lib.hid (HL0.out.trans (by rw [HD.out, if_neg h1, if_neg h2]))
          have hAB : ∃ x1 x2 x3 x4 : Bool, (c.l.A == a) = x1 ∧ (c.l.B == b) = x2 ∧ (c.l.A == b) = x3 ∧ (c.l.B == a) = x4 ∧ (x1 && x2) = false ∧ (x3 && x4) = false := by
            refine ⟨_, _, _, _, rfl, rfl, rfl, rfl, ?_, ?_⟩
            · rw [Bool.eq_false_iff]; intro q; rw [Bool.and_eq_true, beq_iff_eq, beq_iff_eq] at q; exact h1 q
            · rw [Bool.eq_false_iff]; intro q; rw [Bool.and_eq_true, beq_iff_eq, beq_iff_eq] at q; exact h2 q
          clear h1 h2
          obtain ⟨x1, x2, x3, x4, e1, e2, e3, e4, q1, q2⟩ := hAB
          cases x1 <;> cases x3
          · clear q1 q2
            go_wp2
            go_roundw
            case rel => exact ⟨k + 1, by omega, by go_num, HQ.out, OO.out⟩
            case measure => first | (simp [intOf]; done) | (simp [intOf]; omega)
          · obtain rfl : x4 = false := by simpa using q2
            clear q1 q2
            go_wp2
            go_roundw
            case rel => exact ⟨k + 1, by omega, by go_num, HQ.out, OO.out⟩
            case measure => first | (simp [intOf]; done) | (simp [intOf]; omega)
          · obtain rfl : x2 = false := by simpa using q1
            clear q1 q2
            go_wp2
            go_roundw
            case rel => exact ⟨k + 1, by omega, by go_num, HQ.out, OO.out⟩
            case measure => first | (simp [intOf]; done) | (simp [intOf]; omega)
          · obtain rfl : x2 = false := by simpa using q1
            obtain rfl : x4 = false := by simpa using q2
            clear q1 q2
            go_wp2
            go_roundw
            case rel => exact ⟨k + 1, by omega, by go_num, HQ.out, OO.out⟩
            case measure => first | (simp [intOf]; done) | (simp [intOf]; omega)
    · obtain rfl : k = ls.length := by omega
      have HQ : Hid (res = none) := Lib.hid (by rw [HL.out, List.drop_of_length_le (by simp)]; rfl)
      go_wp2
      refine bodyPost_ret (v := .tuple #[.int .i64 (-1), .int .i64 0]) (by simp [results, Tryz.results19, go_sem]) rfl ⟨by rw [HQ.out]; rfl, OA.out⟩

end Go.Proofs.YthmeifdgkodjlaaGreatDoor
