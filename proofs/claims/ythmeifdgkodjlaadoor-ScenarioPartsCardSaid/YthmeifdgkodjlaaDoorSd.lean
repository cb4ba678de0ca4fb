/- scenario.Link. Condition: the lengths. -/
import Derived.Test.YthmeifdgkodjlaaDoorSc
namespace Go.Proofs.YthmeifdgkodjlaaDoor
open Go.RowKit

/-- a scene in memory -/
structure ScW where
  nd : List NdW
  lk : List LkW
  ft : List Ft
  un : Int
  sd : Int
  pn : Option Addr
  cn : Nat
  pl : Option Addr
  cl : Nat
  pf : Option Addr
  cf : Nat
def ScW.sc (s : ScW) : Sc := ⟨s.nd.map NdW.n, s.lk.map LkW.l, s.ft, s.un, s.sd⟩
def scV (s : ScW) : Value := .agg #[.slice s.pn s.nd.length s.cn, .slice s.pl s.lk.length s.cl, .slice s.pf s.ft.length s.cf, .int .i64 s.un, .int .u64 s.sd]
structure ScW.Ok (w : World) (s : ScW) : Prop where
  nd : VRow ndC 7 w s.pn s.nd.length s.cn s.nd
  lk : VRow lkC 9 w s.pl s.lk.length s.cl s.lk
  ft : VRow ftC 5 w s.pf s.ft.length s.cf s.ft
  ndo : ∀ x ∈ s.nd, x.Ok w
  lko : ∀ x ∈ s.lk, x.Ok w
  ln : s.nd.length ≤ 100000
  ll : s.lk.length ≤ 100000
  lf : s.ft.length ≤ 100000
theorem ScW.Ok.kept {w w' : World} {s : ScW} (h : s.Ok w) (ho : Only [] w w') : s.Ok w' :=
  ⟨h.nd.kept ho, h.lk.kept ho, h.ft.kept ho, fun x hx => (h.ndo x hx).kept ho, fun x hx => (h.lko x hx).kept ho, h.ln, h.ll, h.lf⟩
/-- what Link returns -/
def lnkV (o : Option (Nat × Bool)) : Value := match o with
  | none => .tuple #[.int .i64 (-1), .int .i64 0]
  | some (i, false) => .tuple #[.int .i64 i, .int .i64 0]
  | some (i, true) => .tuple #[.int .i64 i, .int .i64 1]
theorem lnkF_drop {a b : Int} {l : List Lk} {k : Nat} (hk : k < l.length) : lnkF a b (l.drop k) k = if (l.getD k lk0).A = a ∧ (l.getD k lk0).B = b then some (k, false) else if (l.getD k lk0).A = b ∧ (l.getD k lk0).B = a then some (k, true) else lnkF a b (l.drop (k + 1)) (k + 1) := by
  rw [List.drop_eq_getElem_cons hk, show l.getD k lk0 = l[k] by simp [List.getD_eq_getElem?_getD, hk]]
  rfl
def LnI (w : World) (a b : Int) (ls : List LkW) (vi : Value) (wr : World) : Prop :=
  ∃ k : Nat, k ≤ ls.length ∧ vi = .int .i64 k ∧ lnk (ls.map LkW.l) a b = lnkF a b ((ls.map LkW.l).drop k) k ∧ Only [] w wr
set_option maxRecDepth 100000 in
set_option maxHeartbeats 4000000 in
theorem pLnk {w : World} (s : ScW) (a b : Int) (hs : s.Ok w) :
    Calls Tryd.prog 15 #[scV s, .int .i64 a, .int .i64 b] w fun e w' => e = .returned (lnkV (lnk s.sc.lk a b)) ∧ Only [] w w' := by
  obtain ⟨nd, ls, ft, un, sd, pn, cn, p, cap, pf, cf⟩ := s
  have hn := hs.ll
  have HV := Lib.hid hs.lk; clear hs
  show Calls _ _ _ _ (fun e w' => e = .returned (lnkV (lnk (ls.map LkW.l) a b)) ∧ _)
  unfold scV
  dsimp only at hn HV ⊢
  obtain ⟨res, hres⟩ : ∃ res, res = lnk (ls.map LkW.l) a b := ⟨_, rfl⟩
  rw [← hres]
  have HRS := Lib.hid hres
  clear hres
  go_enter Tryd.func15, Tryd.ntmps15
  go_upto_region 1 with (fail)
  refine alloc_abs (G := fun w0 => Code.wp _ _ _ _ w0) ?_
  intro w1 hb1 ho1 hs1
  have B1 := Lib.hid hb1; have O1 := Lib.hid ho1
  clear hb1 ho1 hs1
  have g1 := cell_got B1.out 1; have l0 := got_lt B1.out
  go_wp2
  go_loopw [13] (fun vi wr => LnI w1 a b ls vi wr) (fun vi _ => ls.length - (intOf vi).toNat)
  case atStart => exact ⟨0, Nat.zero_le _, rfl, rfl, Only.refl _ _⟩
  case round =>
    clear g1 l0
    obtain ⟨k, hk, rfl, hln, ho⟩ := hrel
    have HL := Lib.hid (HRS.out.trans hln); have HL0 := Lib.hid hln; have OO := Lib.hid ho; have OA := Lib.hid (O1.out.nil_trans ho)
    clear hln ho
    by_cases hlt : k < ls.length
    · obtain ⟨bk, off, hp, lb, c0, c1, c2, c3, c4, c5, c6, c7, c8⟩ := HV.out.lk OA.out hlt
      subst hp
      have hdr := lnkF_drop (a := a) (b := b) (l := ls.map LkW.l) (k := k) (by simpa using hlt)
      rw [show (ls.map LkW.l).getD k lk0 = (ls.getD k lw0).l by simp [List.getD_eq_getElem?_getD, hlt]] at hdr
      generalize ls.getD k lw0 = c at c0 c1 c2 c3 c4 c5 c6 c7 c8 hdr
      have HD := Lib.hid hdr
      clear hdr
      go_upto_region 4 with (fail)
      refine alloc_abs (G := fun w0 => Code.wp _ _ _ _ w0) ?_
      intro w4 hb4 ho4 hs4
      have E4 := Lib.hid hb4; have O4 := Lib.hid (OO.out.nil_trans ho4); have OB := Lib.hid (OA.out.nil_trans ho4)
      clear hb4 ho4 hs4 c0 c1 c2 c3 c4 c5 c6 c7 c8 lb
      have c0 := cell_got E4.out 0; have c1 := cell_got E4.out 1; have le := got_lt E4.out
      by_cases h1 : c.l.A = a ∧ c.l.B = b
      · have HQ : Hid (res = some (k, false)) := Lib.hid (by rw [HL.out, HD.out, if_pos h1])
        have ax : (c.l.A == a) = true := by simp [h1.1]
        have bx : (c.l.B == b) = true := by simp [h1.2]
        clear h1
        go_wp2
        refine bodyPost_ret (v := .tuple #[.int .i64 k, .int .i64 0]) (by simp [results, Tryd.results15, go_sem]) rfl ⟨by rw [HQ.out]; rfl, OB.out⟩
      · by_cases h2 : c.l.A = b ∧ c.l.B = a
        · have HQ : Hid (res = some (k, true)) := Lib.hid (by rw [HL.out, HD.out, if_neg h1, if_pos h2])
          have ay : (c.l.A == b) = true := by simp [h2.1]
          have bY : (c.l.B == a) = true := by simp [h2.2]
          by_cases h3 : c.l.A = a
          · have ax : (c.l.A == a) = true := by simp [h3]
            have bx : (c.l.B == b) = false := by rw [beq_eq_false_iff_ne]; exact fun q => h1 ⟨h3, q⟩
            clear h1 h2 h3
            go_wp2
            refine bodyPost_ret (v := .tuple #[.int .i64 k, .int .i64 1]) (by simp [results, Tryd.results15, go_sem]) rfl ⟨by rw [HQ.out]; rfl, OB.out⟩
          · have ax : (c.l.A == a) = false := by simp [h3]
            clear h1 h2 h3
            go_wp2
            refine bodyPost_ret (v := .tuple #[.int .i64 k, .int .i64 1]) (by simp [results, Tryd.results15, go_sem]) rfl ⟨by rw [HQ.out]; rfl, OB.out⟩
        · have HQ := Lib.hid (HL0.out.trans (by rw [HD.out, if_neg h1, if_neg h2]))
          have hAB : ∃ x1 x2 x3 x4 : Bool, (c.l.A == a) = x1 ∧ (c.l.B == b) = x2 ∧ (c.l.A == b) = x3 ∧ (c.l.B == a) = x4 ∧ (x1 && x2) = false ∧ (x3 && x4) = false := by
            refine ⟨_, _, _, _, rfl, rfl, rfl, rfl, ?_, ?_⟩
            · rw [Bool.eq_false_iff]; intro q; rw [Bool.and_eq_true, beq_iff_eq, beq_iff_eq] at q; exact h1 q
            · rw [Bool.eq_false_iff]; intro q; rw [Bool.and_eq_true, beq_iff_eq, beq_iff_eq] at q; exact h2 q
          clear h1 h2
          obtain ⟨x1, x2, x3, x4, e1, e2, e3, e4, q1, q2⟩ := hAB
          cases x1 <;> cases x3
          · clear q1 q2
            go_wp2
            go_roundw
            case rel => exact ⟨k + 1, by omega, by go_num, HQ.out, O4.out⟩
            case measure => first | (simp [intOf]; done) | (simp [intOf]; omega)
          · obtain rfl : x4 = false := by simpa using q2
            clear q1 q2
            go_wp2
            go_roundw
            case rel => exact ⟨k + 1, by omega, by go_num, HQ.out, O4.out⟩
            case measure => first | (simp [intOf]; done) | (simp [intOf]; omega)
          · obtain rfl : x2 = false := by simpa using q1
            clear q1 q2
            go_wp2
            go_roundw
            case rel => exact ⟨k + 1, by omega, by go_num, HQ.out, O4.out⟩
            case measure => first | (simp [intOf]; done) | (simp [intOf]; omega)
          · obtain rfl : x2 = false := by simpa using q1
            obtain rfl : x4 = false := by simpa using q2
            clear q1 q2
            go_wp2
            go_roundw
            case rel => exact ⟨k + 1, by omega, by go_num, HQ.out, O4.out⟩
            case measure => first | (simp [intOf]; done) | (simp [intOf]; omega)
    · obtain rfl : k = ls.length := by omega
      have HQ : Hid (res = none) := Lib.hid (by rw [HL.out, List.drop_of_length_le (by simp)]; rfl)
      go_wp2
      refine bodyPost_ret (v := .tuple #[.int .i64 (-1), .int .i64 0]) (by simp [results, Tryd.results15, go_sem]) rfl ⟨by rw [HQ.out]; rfl, OA.out⟩
end Go.Proofs.YthmeifdgkodjlaaDoor
