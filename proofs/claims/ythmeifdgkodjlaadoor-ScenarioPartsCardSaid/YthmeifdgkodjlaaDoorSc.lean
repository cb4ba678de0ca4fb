/- scenario.checkLink and scenario.Link; the records of nodes and links in memory. Condition: the lengths. -/
import Derived.Test.YthmeifdgkodjlaaDoorSb
namespace Go.Proofs.YthmeifdgkodjlaaDoor
open Go.RowKit

/-- a link in memory: its changes lie at `p` -/
structure LkW where
  l : Lk
  p : Option Addr
  c : Nat
structure NdW where
  n : Nd
  ps : Option Addr
  cs : Nat
  pv : Option Addr
  cv : Nat
def lkC (x : LkW) : List Value := [.int .i64 x.l.A, .int .i64 x.l.B, .int .i64 x.l.d0, .int .i64 x.l.d1, .int .i64 x.l.v0, .int .i64 x.l.v1, .int .i64 x.l.lo, .int .u64 x.l.sd, .slice x.p x.l.ch.length x.c]
def slV (x : LkW) : Value := .agg #[.int .i64 x.l.A, .int .i64 x.l.B, .int .i64 x.l.d0, .int .i64 x.l.d1, .int .i64 x.l.v0, .int .i64 x.l.v1, .int .i64 x.l.lo, .int .u64 x.l.sd, .slice x.p x.l.ch.length x.c]
def ndC (x : NdW) : List Value := [.int .i64 x.n.ph, .slice x.ps x.n.sg.length x.cs, .int .i64 x.n.tol, .bool x.n.rf, .int .i64 x.n.er, .int .i64 x.n.st, .slice x.pv x.n.sv.length x.cv]
theorem lkC_len (x : LkW) : (lkC x).length = 9 := rfl
theorem ndC_len (x : NdW) : (ndC x).length = 7 := rfl
theorem lkC_one (x : LkW) : ∀ u ∈ lkC x, u.oneCell' = true := by simp [lkC, Value.oneCell']
theorem ndC_one (x : NdW) : ∀ u ∈ ndC x, u.oneCell' = true := by simp [ndC, Value.oneCell']
/-- what a link's record points to -/
structure LkW.Ok (w : World) (x : LkW) : Prop where
  row : VRow chC 3 w x.p x.l.ch.length x.c x.l.ch
  len : x.l.ch.length ≤ 100000
structure NdW.Ok (w : World) (x : NdW) : Prop where
  seg : VRow sgC 2 w x.ps x.n.sg.length x.cs x.n.sg
  srv : VRow itC 1 w x.pv x.n.sv.length x.cv x.n.sv
  len : x.n.sg.length ≤ 100000
  ren : x.n.sv.length ≤ 100000
theorem LkW.Ok.kept {w w' : World} {x : LkW} (h : x.Ok w) (ho : Only [] w w') : x.Ok w' := ⟨h.row.kept ho, h.len⟩
theorem NdW.Ok.kept {w w' : World} {x : NdW} (h : x.Ok w) (ho : Only [] w w') : x.Ok w' := ⟨h.seg.kept ho, h.srv.kept ho, h.len, h.ren⟩
def lw0 : LkW := ⟨lk0, none, 0⟩
def nw0 : NdW := ⟨nd0, none, 0, none, 0⟩
theorem VRow.lk {w wr : World} {cap k : Nat} {p : Option Addr} {l : List LkW} (hv : VRow lkC 9 w p l.length cap l) (ho : Only [] w wr) (hk : k < l.length) :
    ∃ bk off, p = some ⟨bk, off, none⟩ ∧ bk < wr.heap.size ∧ wr.cell? ⟨bk, off + k * 9, none⟩ = some (.int .i64 (l.getD k lw0).l.A) ∧ wr.cell? ⟨bk, off + k * 9 + 1, none⟩ = some (.int .i64 (l.getD k lw0).l.B)
      ∧ wr.cell? ⟨bk, off + k * 9 + 2, none⟩ = some (.int .i64 (l.getD k lw0).l.d0) ∧ wr.cell? ⟨bk, off + k * 9 + 3, none⟩ = some (.int .i64 (l.getD k lw0).l.d1) ∧ wr.cell? ⟨bk, off + k * 9 + 4, none⟩ = some (.int .i64 (l.getD k lw0).l.v0)
      ∧ wr.cell? ⟨bk, off + k * 9 + 5, none⟩ = some (.int .i64 (l.getD k lw0).l.v1) ∧ wr.cell? ⟨bk, off + k * 9 + 6, none⟩ = some (.int .i64 (l.getD k lw0).l.lo) ∧ wr.cell? ⟨bk, off + k * 9 + 7, none⟩ = some (.int .u64 (l.getD k lw0).l.sd)
      ∧ wr.cell? ⟨bk, off + k * 9 + 8, none⟩ = some (.slice (l.getD k lw0).p (l.getD k lw0).l.ch.length (l.getD k lw0).c) := by
  obtain ⟨bk, off, hp, hb, hc⟩ := hv.at_ ho (getD_some lw0 hk)
  exact ⟨bk, off, hp, hb, hc 0 _ rfl, hc 1 _ rfl, hc 2 _ rfl, hc 3 _ rfl, hc 4 _ rfl, hc 5 _ rfl, hc 6 _ rfl, hc 7 _ rfl, hc 8 _ rfl⟩
theorem VRow.nd {w wr : World} {cap k : Nat} {p : Option Addr} {l : List NdW} (hv : VRow ndC 7 w p l.length cap l) (ho : Only [] w wr) (hk : k < l.length) :
    ∃ bk off, p = some ⟨bk, off, none⟩ ∧ bk < wr.heap.size ∧ wr.cell? ⟨bk, off + k * 7, none⟩ = some (.int .i64 (l.getD k nw0).n.ph) ∧ wr.cell? ⟨bk, off + k * 7 + 1, none⟩ = some (.slice (l.getD k nw0).ps (l.getD k nw0).n.sg.length (l.getD k nw0).cs)
      ∧ wr.cell? ⟨bk, off + k * 7 + 2, none⟩ = some (.int .i64 (l.getD k nw0).n.tol) ∧ wr.cell? ⟨bk, off + k * 7 + 3, none⟩ = some (.bool (l.getD k nw0).n.rf) ∧ wr.cell? ⟨bk, off + k * 7 + 4, none⟩ = some (.int .i64 (l.getD k nw0).n.er)
      ∧ wr.cell? ⟨bk, off + k * 7 + 5, none⟩ = some (.int .i64 (l.getD k nw0).n.st) ∧ wr.cell? ⟨bk, off + k * 7 + 6, none⟩ = some (.slice (l.getD k nw0).pv (l.getD k nw0).n.sv.length (l.getD k nw0).cv) := by
  obtain ⟨bk, off, hp, hb, hc⟩ := hv.at_ ho (getD_some nw0 hk)
  exact ⟨bk, off, hp, hb, hc 0 _ rfl, hc 1 _ rfl, hc 2 _ rfl, hc 3 _ rfl, hc 4 _ rfl, hc 5 _ rfl, hc 6 _ rfl⟩
/-- the error of a link, given the links before it -/
def clE (x : Lk) (bef : List Lk) (nodes : Int) : Int :=
  if inR x.A 0 (nodes - 1) = true ∧ inR x.B 0 (nodes - 1) = true then (if x.B ≤ x.A then 12 else if twin bef x = true then 10 else linkE x) else 3
theorem leE_cl (l : List Lk) (nodes : Int) (i : Nat) : leE l nodes i = clE (l.getD i lk0) (l.take i) nodes := rfl
def ClI (w : World) (x : Lk) (ls : List LkW) (vi : Value) (wr : World) : Prop :=
  ∃ k : Nat, k ≤ ls.length ∧ vi = .int .i64 k ∧ twin ((ls.map LkW.l).take k) x = false ∧ Only [] w wr
set_option maxRecDepth 100000 in
set_option maxHeartbeats 4000000 in
theorem pCLink {w : World} {p : Option Addr} {n cap : Nat} {ls : List LkW} (x : LkW) (nodes : Int) (hx : x.Ok w) (hv : VRow lkC 9 w p n cap ls) (hn : n ≤ 100000) :
    Calls Tryd.prog 28 #[slV x, .slice p n cap, .int .i64 nodes] w fun e w' => e = .returned (.int .i64 (clE x.l (ls.map LkW.l) nodes)) ∧ Only [] w w' := by
  have hl := hv.len
  subst hl
  obtain ⟨⟨A, B, d0, d1, v0, v1, lo, sd, ch⟩, pc, cc⟩ := x
  have HV := Lib.hid hv; have HX := Lib.hid hx; clear hv hx
  have HE := Lib.hid (show clE ⟨A, B, d0, d1, v0, v1, lo, sd, ch⟩ (ls.map LkW.l) nodes = if inR A 0 (nodes - 1) = true ∧ inR B 0 (nodes - 1) = true then (if B ≤ A then 12 else if twin (ls.map LkW.l) ⟨A, B, d0, d1, v0, v1, lo, sd, ch⟩ = true then 10 else linkE ⟨A, B, d0, d1, v0, v1, lo, sd, ch⟩) else 3 from rfl)
  have HP := Lib.hid (fun (w' : World) (ho : Only [] w w') => pLink (n := ch.length) ⟨A, B, d0, d1, v0, v1, lo, sd, ch⟩ (HX.out.row.kept ho) HX.out.len)
  unfold slV
  dsimp only at HP ⊢
  unfold lkV at HP
  dsimp only at HP
  generalize clE ⟨A, B, d0, d1, v0, v1, lo, sd, ch⟩ (ls.map LkW.l) nodes = res at HE ⊢
  clear HX
  go_enter Tryd.func28, Tryd.ntmps28
  go_upto_region 1 with (fail)
  refine alloc_abs (G := fun w0 => Code.wp _ _ _ _ w0) ?_
  intro w1 hb1 ho1 hs1
  have B1 := Lib.hid hb1; have O1 := Lib.hid ho1
  clear hb1 ho1 hs1
  have g0 := cell_got B1.out 0; have g1 := cell_got B1.out 1; have l0 := got_lt B1.out
  by_cases hA : inR A 0 (nodes - 1) = true
  · obtain ⟨hA0, hA1⟩ := inR_t.1 hA
    have hAx : decide (A < 0) = false := by simp; omega
    have hAy : decide (A ≥ nodes) = false := by simp; omega
    have hAz : decide (nodes ≤ A) = false := by simp; omega
    by_cases hB : inR B 0 (nodes - 1) = true
    · obtain ⟨hB0, hB1⟩ := inR_t.1 hB
      have hBx : decide (B < 0) = false := by simp; omega
      have hBy : decide (B ≥ nodes) = false := by simp; omega
      have hBz : decide (nodes ≤ B) = false := by simp; omega
      by_cases ho : B ≤ A
      · have ox : decide (A ≥ B) = true := decide_eq_true ho
        have oy : decide (B ≤ A) = true := decide_eq_true ho
        have HQ : Hid (res = 12) := Lib.hid (by rw [HE.out, if_pos ⟨hA, hB⟩, if_pos ho])
        clear ho hA hB
        go_wp2
        go_ret
        exact ⟨by rw [HQ.out]; rfl, O1.out⟩
      · have ox : decide (A ≥ B) = false := decide_eq_false ho
        have oy : decide (B ≤ A) = false := decide_eq_false ho
        have HR : Hid (res = if twin (ls.map LkW.l) ⟨A, B, d0, d1, v0, v1, lo, sd, ch⟩ = true then 10 else linkE ⟨A, B, d0, d1, v0, v1, lo, sd, ch⟩) := Lib.hid (by rw [HE.out, if_pos ⟨hA, hB⟩, if_neg ho])
        clear ho hA hB
        go_wp2
        clear hAx hAy hAz hBx hBy hBz ox oy hA0 hA1 hB0 hB1
        go_loopw [36] (fun vi wr => ClI w1 ⟨A, B, d0, d1, v0, v1, lo, sd, ch⟩ ls vi wr) (fun vi _ => ls.length - (intOf vi).toNat)
        case atStart => exact ⟨0, Nat.zero_le _, rfl, rfl, Only.refl _ _⟩
        case round =>
          clear g0 g1 l0
          obtain ⟨k, hk, rfl, htw, ho⟩ := hrel
          have HT := Lib.hid htw; have OO := Lib.hid ho; have OA := Lib.hid (O1.out.nil_trans ho); have B2 := Lib.hid (ho.got B1.out (by simp))
          clear htw ho
          by_cases hlt : k < ls.length
          · obtain ⟨bk, off, hp, lb, c0, c1, c2, c3, c4, c5, c6, c7, c8⟩ := HV.out.lk OA.out hlt
            subst hp
            have hgk := getD_some lw0 hlt
            have htk : twin ((ls.map LkW.l).take (k + 1)) ⟨A, B, d0, d1, v0, v1, lo, sd, ch⟩ = (decide ((ls.getD k lw0).l.A = A) && decide ((ls.getD k lw0).l.B = B)) := by
              rw [List.take_add_one, List.getElem?_map, hgk]
              have := HT.out
              unfold twin at this ⊢
              simp only [Option.map_some, Option.toList_some, List.any_append, this, Bool.false_or, List.any_cons, List.any_nil, Bool.or_false]
            have HTF : Hid (twin ((ls.map LkW.l).take (k + 1)) ⟨A, B, d0, d1, v0, v1, lo, sd, ch⟩ = true → res = 10) := Lib.hid (fun h => by
              rw [HR.out, if_pos]
              unfold twin at h ⊢
              rw [List.any_eq_true] at h ⊢
              obtain ⟨y, hy, hq⟩ := h
              exact ⟨y, List.mem_of_mem_take hy, hq⟩)
            generalize ls.getD k lw0 = c at c0 c1 c2 c3 c4 c5 c6 c7 c8 htk
            have HTK := Lib.hid htk
            clear hgk htk
            go_upto_region 9 with (fail)
            refine alloc_abs (G := fun w0 => Code.wp _ _ _ _ w0) ?_
            intro w4 hb4 ho4 hs4
            have E4 := Lib.hid hb4; have O4 := Lib.hid (OO.out.nil_trans ho4); have OB := Lib.hid (OA.out.nil_trans ho4); have B4 := Lib.hid (ho4.got B2.out (by simp))
            clear hb4 ho4 hs4 c0 c1 c2 c3 c4 c5 c6 c7 c8 lb
            have c0 := cell_got E4.out 0; have c1 := cell_got E4.out 1; have le := got_lt E4.out
            have g0 := cell_got B4.out 0; have g1 := cell_got B4.out 1; have l0 := got_lt B4.out
            by_cases ha : c.l.A = A
            · have ax : (c.l.A == A) = true := by simp [ha]
              by_cases hb : c.l.B = B
              · have bx : (c.l.B == B) = true := by simp [hb]
                have HQ : Hid (res = 10) := Lib.hid (HTF.out (by rw [HTK.out, ha, hb]; simp))
                clear ha hb
                go_wp2
                go_ret
                exact ⟨by rw [HQ.out]; rfl, OB.out⟩
              · have bx : (c.l.B == B) = false := by simp [hb]
                have HQ := Lib.hid (HTK.out.trans (by rw [decide_eq_false hb, Bool.and_false]))
                clear ha hb
                go_wp2
                go_roundw
                case rel => exact ⟨k + 1, by omega, by go_num, HQ.out, O4.out⟩
                case measure => first | (simp [intOf]; done) | (simp [intOf]; omega)
            · have ax : (c.l.A == A) = false := by simp [ha]
              have HQ := Lib.hid (HTK.out.trans (by rw [decide_eq_false ha, Bool.false_and]))
              clear ha
              go_wp2
              go_roundw
              case rel => exact ⟨k + 1, by omega, by go_num, HQ.out, O4.out⟩
              case measure => first | (simp [intOf]; done) | (simp [intOf]; omega)
          · obtain rfl : k = ls.length := by omega
            have HQ : Hid (res = linkE ⟨A, B, d0, d1, v0, v1, lo, sd, ch⟩) := Lib.hid (by
              have := HT.out
              rw [List.take_of_length_le (by simp)] at this
              rw [HR.out, if_neg (by rw [this]; simp)])
            have g2 := cell_got B2.out 2; have g3 := cell_got B2.out 3; have g4 := cell_got B2.out 4; have g5 := cell_got B2.out 5; have g6 := cell_got B2.out 6; have g7 := cell_got B2.out 7; have g8 := cell_got B2.out 8; have l0 := got_lt B2.out
            go_wp2_with fail
            refine (HP.out wr OA.out).mono ?_
            rintro e w5 ⟨rfl, ho5⟩
            go_wp2
            go_ret
            exact ⟨by rw [HQ.out]; rfl, OA.out.nil_trans ho5⟩
    · have HQ : Hid (res = 3) := Lib.hid (by rw [HE.out, if_neg (fun q => hB q.2)])
      rcases inR_no hB with hq | ⟨hq, hr⟩
      · have hBx : decide (B < 0) = true := by simp; omega
        clear hA hB
        go_wp2
        go_ret
        exact ⟨by rw [HQ.out]; rfl, O1.out⟩
      · have hBx : decide (B < 0) = false := by simp; omega
        have hBy : decide (B ≥ nodes) = true := by simp; omega
        have hBz : decide (nodes ≤ B) = true := by simp; omega
        clear hA hB
        go_wp2
        go_ret
        exact ⟨by rw [HQ.out]; rfl, O1.out⟩
  · have HQ : Hid (res = 3) := Lib.hid (by rw [HE.out, if_neg (fun q => hA q.1)])
    rcases inR_no hA with hq | ⟨hq, hr⟩
    · have hAx : decide (A < 0) = true := by simp; omega
      clear hA
      go_wp2
      go_ret
      exact ⟨by rw [HQ.out]; rfl, O1.out⟩
    · have hAx : decide (A < 0) = false := by simp; omega
      have hAy : decide (A ≥ nodes) = true := by simp; omega
      have hAz : decide (nodes ≤ A) = true := by simp; omega
      clear hA
      go_wp2
      go_ret
      exact ⟨by rw [HQ.out]; rfl, O1.out⟩
end Go.Proofs.YthmeifdgkodjlaaDoor
