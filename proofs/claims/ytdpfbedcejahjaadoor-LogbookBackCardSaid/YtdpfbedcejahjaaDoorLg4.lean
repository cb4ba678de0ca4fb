/- The order of a log: checkOrder of package logbook. Condition: the length of the log. -/
import Derived.Test.YtdpfbedcejahjaaDoorLg3
import Derived.Test.YtdpfbedcejahjaaDoorLaw
namespace Go.Proofs.YtdpfbedcejahjaaDoor
open Go.RowKit

/-- what seen holds -/
def seenF (past : List En) (t : Lt) : Option Bool := if (past.any fun a => decide (trav a) && decide (ltOf a = t)) then some true else none
theorem ordE_step (past : List En) (e : En) (r : List En) : ordE past (e :: r) = if tw past e then 10 else if bk past e then 12 else ordE (past ++ [e]) r := rfl
theorem seenF_no {past : List En} {e : En} (h : ¬ trav e) (t : Lt) : seenF (past ++ [e]) t = seenF past t := by
  simp [seenF, h]
theorem seenF_yes {past : List En} {e : En} (h : trav e) (t : Lt) : seenF (past ++ [e]) t = if t = ltOf e then some true else seenF past t := by
  unfold seenF
  by_cases ht : t = ltOf e
  · rw [if_pos ht, if_pos]
    simp [h, ht]
  · rw [if_neg ht]
    have : ¬ ltOf e = t := fun q => ht q.symm
    simp [this]
theorem lastF_step (past : List En) (e : En) (n : Int) : lastOf (past ++ [e]) n = if n = e.n then some e else lastOf past n := by
  unfold lastOf
  rw [List.reverse_append]
  by_cases h : n = e.n
  · rw [if_pos h]; simp [h]
  · rw [if_neg h]
    have : ¬ e.n = n := fun q => h q.symm
    simp [this]
theorem tw_seen (past : List En) (e : En) (h : trav e) : tw past e = (seenF past (ltOf e)).getD false := by
  unfold tw seenF
  simp only [h, decide_true, Bool.true_and]
  cases past.any fun a => decide (trav a) && decide (ltOf a = ltOf e) <;> rfl
theorem tw_no (past : List En) (e : En) (h : ¬ trav e) : tw past e = false := by simp [tw, h]

/-- the loop's relation -/
def OrdRel (w : World) (l : List En) (vi : Value) (wr : World) : Prop :=
  ∃ k : Nat, k ≤ l.length ∧ vi = .int .i64 k ∧ ordE [] l = ordE (l.take k) (l.drop k) ∧ MapF ltE Value.bool wr w.heap.size (seenF (l.take k)) ∧ MapF (fun n : Int => Value.int .i64 n) enV wr (w.heap.size + 1) (lastOf (l.take k)) ∧ Only [] w wr

set_option maxRecDepth 100000 in
set_option maxHeartbeats 2000000 in
theorem Porder {w : World} {p : Option Addr} {n cap : Nat} {l : List En} (hv : VRow enC 6 w p n cap l) (hn : n ≤ 100000) :
    Calls Tryd.prog 23 #[.slice p n cap] w fun e w' => e = .returned (.int .i64 (ordE [] l)) ∧ Only [] w w' := by
  have hl := hv.len
  subst hl
  have HV := Lib.hid hv; clear hv
  have hmm := @run_makeMap Tryd.prog
  go_enter Tryd.func23, Tryd.ntmps23
  go_wp2
  go_loopw [14] (fun vi wr => OrdRel w l vi wr) (fun vi _ => l.length - (intOf vi).toNat)
  case atStart =>
    refine ⟨0, Nat.zero_le _, rfl, rfl, ?_, ?_, ((Only.refl [] w).alloc _).alloc _⟩
    · exact mapF_new (alloc_old (alloc_new _ _))
    · have := alloc_new (w.alloc (.map #[] 0)) (.map #[] 0)
      rw [show (w.alloc (.map #[] 0)).heap.size = w.heap.size + 1 by simp] at this
      exact mapF_new this
  case round =>
    obtain ⟨k, hk, rfl, hord, hm1, hm2, ho⟩ := hrel
    have OE := Lib.hid hord; have M1 := Lib.hid hm1; have M2 := Lib.hid hm2; have OO := Lib.hid ho
    clear hord hm1 hm2 ho
    by_cases hlt : k < l.length
    · obtain ⟨bb, off, hp, hb, hcl⟩ := HV.out.cell k l[k] (List.getElem?_eq_getElem hlt)
      subst hp
      have hle := OO.out.size
      have hb' : bb < wr.heap.size := by omega
      obtain ⟨e, he⟩ : ∃ e, e = l[k] := ⟨_, rfl⟩
      rw [← he] at hcl
      have HE := Lib.hid he
      clear he
      obtain ⟨ek, en, ep, em, ec, ev⟩ := e
      have c0 : wr.cell? ⟨bb, off + k * 6, none⟩ = some (.int .i64 ek) := by rw [OO.out.cell hb (by simp)]; exact hcl 0 _ rfl
      have c1 : wr.cell? ⟨bb, off + k * 6 + 1, none⟩ = some (.int .i64 en) := by rw [OO.out.cell hb (by simp)]; exact hcl 1 _ rfl
      have c2 : wr.cell? ⟨bb, off + k * 6 + 2, none⟩ = some (.int .i64 ep) := by rw [OO.out.cell hb (by simp)]; exact hcl 2 _ rfl
      have c3 : wr.cell? ⟨bb, off + k * 6 + 3, none⟩ = some (.int .i64 em) := by rw [OO.out.cell hb (by simp)]; exact hcl 3 _ rfl
      have c4 : wr.cell? ⟨bb, off + k * 6 + 4, none⟩ = some (.int .i64 ec) := by rw [OO.out.cell hb (by simp)]; exact hcl 4 _ rfl
      have c5 : wr.cell? ⟨bb, off + k * 6 + 5, none⟩ = some (.int .i64 ev) := by rw [OO.out.cell hb (by simp)]; exact hcl 5 _ rfl
      clear hcl
      have hdrop : l.drop k = ⟨ek, en, ep, em, ec, ev⟩ :: l.drop (k + 1) := by rw [List.drop_eq_getElem_cons hlt, HE.out]
      have htake : l.take (k + 1) = l.take k ++ [⟨ek, en, ep, em, ec, ev⟩] := by rw [List.take_succ_eq_append_getElem hlt, HE.out]
      have hstep := OE.out
      rw [hdrop, ordE_step] at hstep
      have HST := Lib.hid hstep; have HTK := Lib.hid htake
      clear hdrop hstep htake OE
      by_cases ht : trav ⟨ek, en, ep, em, ec, ev⟩
      · have k12 : ((ek == 1) = true ∧ (ek == 2) = (ek == 2)) ∨ ((ek == 1) = false ∧ (ek == 2) = true) := by
          rcases ht with h | h
          · left; dsimp only at h; simp [h]
          · right; dsimp only at h; simp [h]
        have Z4 : ∀ w, (zeroValue 4).run Tryd.prog w = .ok (.bool false) w := Tryd.zeroValue4
        have HZ4 := Lib.hid Z4
        clear Z4
        have hts := tw_seen (l.take k) ⟨ek, en, ep, em, ec, ev⟩ ht
        rcases k12 with ⟨k1, _⟩ | ⟨k1, k2⟩
        all_goals
          obtain ⟨so, hso⟩ : ∃ so, so = seenF (l.take k) ⟨ek, en, ep, em⟩ := ⟨_, rfl⟩
          rw [show ltOf ⟨ek, en, ep, em, ec, ev⟩ = ⟨ek, en, ep, em⟩ from rfl, ← hso] at hts
          have HSO := Lib.hid hso; have HTS := Lib.hid hts
          clear hso hts
          go_wp2_with (at_lookup; refine stop_here ?_)
          refine alloc_abs (G := fun w0 => Stop (wpList _ _ _ _ _ w0)) ?_
          intro w0 hb0 ho0 hs0
          have ho0' : Only [] wr w0 := Only.nil_trans ((Only.refl [] wr).alloc _) ho0
          have B0 := Lib.hid (ho0.got (alloc_new wr _) (by simp))
          have L0 := Lib.hid (show w0.heap[wr.heap.size + 1]? = some (.cells #[.int .i64 ek, .int .i64 en, .int .i64 ep, .int .i64 em] 50 (0, 0)) by
            have := hb0
            rwa [show ∀ o, (wr.alloc o).heap.size = wr.heap.size + 1 from fun o => by simp] at this)
          have P1 := Lib.hid (M1.out.kept ho0' (by simp)); have P2 := Lib.hid (M2.out.kept ho0' (by simp)); have Q0 := Lib.hid (OO.out.nil_trans ho0')
          clear hb0 ho0 hs0 ho0' c0 c1 c2 c3 c4 c5
          refine stop_go ?_
          refine wpList_lookup_F (kE := ltE) (vE := Value.bool) rfl _ _ 66 false rfl 50 4 lt_key Tryd.underlying66 (.bool false) (HZ4.out _) w.heap.size (seenF (l.take k)) rfl P1.out ⟨ek, en, ep, em⟩ rfl ?_
          rw [← HSO.out]
          have m0 := cell_got L0.out 0; have m1 := cell_got L0.out 1; have m2 := cell_got L0.out 2; have m3 := cell_got L0.out 3
          have n0 := cell_got B0.out 0; have n1 := cell_got B0.out 1; have n2 := cell_got B0.out 2; have n3 := cell_got B0.out 3; have n4 := cell_got B0.out 4; have n5 := cell_got B0.out 5
          cases so with
          | none =>
            have TW : Hid (tw (l.take k) ⟨ek, en, ep, em, ec, ev⟩ = false) := Lib.hid HTS.out
            simp only [Option.map_none, Option.getD_none, Bool.false_eq_true, if_false]
            go_wp2_with (at_mapUpdate; refine stop_here ?_)
            refine stop_go ?_
            refine wpList_update_F (kE := ltE) (vE := Value.bool) rfl _ _ _ 66 rfl 50 4 lt_key Tryd.underlying66 w.heap.size (seenF (l.take k)) rfl P1.out ⟨ek, en, ep, em⟩ rfl true rfl ?_
            intro w1 hm1 ho1 hs1
            have B1 := Lib.hid (ho1.got B0.out (by have := OO.out.size; have := M1.out.lt; simp; omega)); have O1 := Lib.hid (Q0.out.trans ho1 (by simp)); have M1b : Hid (MapF ltE Value.bool w1 w.heap.size (seenF (l.take (k + 1)))) := Lib.hid (by
              rw [HTK.out]
              obtain ⟨q, q1, q2⟩ := hm1
              exact ⟨q, q1, fun t => by rw [seenF_yes ht]; exact q2 t⟩)
            have M2b := Lib.hid (P2.out.kept ho1 (by simp))
            clear hm1 ho1 hs1 m0 m1 m2 m3 n0 n1 n2 n3 n4 n5 P1 P2 B0 L0
            have n1 := cell_got B1.out 1
            go_wp2_with (at_lookup; refine stop_here ?_)
            refine stop_go ?_
            have Z37 : (zeroValue 37).run Tryd.prog w1 = .ok (enV ⟨0, 0, 0, 0, 0, 0⟩) w1 := Tryd.zeroValue37 w1
            refine wpList_lookup_F (vE := enV) rfl _ _ 67 true rfl 3 37 (key_int Tryd.underlying3) Tryd.underlying67 (enV ⟨0, 0, 0, 0, 0, 0⟩) Z37 (w.heap.size + 1) (lastOf (l.take k)) rfl M2b.out en rfl ?_
            clear Z37
            have hbk : bk (l.take k) ⟨ek, en, ep, em, ec, ev⟩ = (match lastOf (l.take k) en with | some a => decide (a.k ≠ 3) && decide (ec < a.c) | none => false) := rfl
            obtain ⟨lo, hlo⟩ : ∃ lo, lo = lastOf (l.take k) en := ⟨_, rfl⟩
            rw [← hlo] at hbk ⊢
            have HLO := Lib.hid hlo; have HBK := Lib.hid hbk
            clear hlo hbk
            have g0 := cell_got B1.out 0; have g1 := cell_got B1.out 1; have g2 := cell_got B1.out 2; have g3 := cell_got B1.out 3; have g4 := cell_got B1.out 4; have g5 := cell_got B1.out 5
            have l0 := got_lt B1.out
            cases lo with
            | none =>
              simp only [Option.map_none, Option.getD_none, Option.isSome_none, if_true, enV]
              have hbkf : Hid (bk (l.take k) ⟨ek, en, ep, em, ec, ev⟩ = false) := Lib.hid HBK.out
              go_wp2_with (at_mapUpdate; refine stop_here ?_)
              refine stop_go ?_
              refine alloc_abs (G := wpList _ _ _ _ _) ?_
              intro w2 hb2 ho2 hs2
              refine wpList_update_F (vE := enV) rfl _ _ _ 67 rfl 3 37 (key_int Tryd.underlying3) Tryd.underlying67 (w.heap.size + 1) (lastOf (l.take k)) rfl (M2b.out.kept ho2 (by simp)) en rfl ⟨ek, en, ep, em, ec, ev⟩ rfl ?_
              intro w3 hm3 ho3 hs3
              have M1c := Lib.hid ((M1b.out.kept ho2 (by simp)).kept ho3 (by simp))
              have M2c : Hid (MapF (fun n : Int => Value.int .i64 n) enV w3 (w.heap.size + 1) (lastOf (l.take (k + 1)))) := Lib.hid (by
                rw [HTK.out]
                obtain ⟨q, q1, q2⟩ := hm3
                exact ⟨q, q1, fun t => by rw [lastF_step]; exact q2 t⟩)
              have O3 := Lib.hid ((O1.out.nil_trans ho2).trans ho3 (by simp))
              have HORD : Hid (ordE [] l = ordE (l.take (k + 1)) (l.drop (k + 1))) := Lib.hid (by rw [HST.out, TW.out, hbkf.out, HTK.out]; rfl)
              clear hb2 ho2 hs2 hm3 ho3 hs3 M1b M2b B1 g0 g1 g2 g3 g4 g5
              go_wp2
              go_roundw
              case rel => exact ⟨k + 1, by omega, by go_num, HORD.out, M1c.out, M2c.out, O3.out⟩
              case measure => simp [intOf]; omega
            | some a =>
              obtain ⟨ak, an, ap, am, ac, av⟩ := a
              simp only [Option.map_some, Option.getD_some, Option.isSome_some, if_true, enV]
              by_cases h3 : ak = 3
              · have n3 : (ak != 3) = false := by simp [h3]
                have hbkf : Hid (bk (l.take k) ⟨ek, en, ep, em, ec, ev⟩ = false) := Lib.hid (by rw [HBK.out]; simp [h3])
                clear h3
                go_wp2_with (at_mapUpdate; refine stop_here ?_)
                refine stop_go ?_
                refine alloc_abs (G := wpList _ _ _ _ _) ?_
                intro w2 hb2 ho2 hs2
                refine wpList_update_F (vE := enV) rfl _ _ _ 67 rfl 3 37 (key_int Tryd.underlying3) Tryd.underlying67 (w.heap.size + 1) (lastOf (l.take k)) rfl (M2b.out.kept ho2 (by simp)) en rfl ⟨ek, en, ep, em, ec, ev⟩ rfl ?_
                intro w3 hm3 ho3 hs3
                have M1c := Lib.hid ((M1b.out.kept ho2 (by simp)).kept ho3 (by simp))
                have M2c : Hid (MapF (fun n : Int => Value.int .i64 n) enV w3 (w.heap.size + 1) (lastOf (l.take (k + 1)))) := Lib.hid (by
                  rw [HTK.out]
                  obtain ⟨q, q1, q2⟩ := hm3
                  exact ⟨q, q1, fun t => by rw [lastF_step]; exact q2 t⟩)
                have O3 := Lib.hid ((O1.out.nil_trans ho2).trans ho3 (by simp))
                have HORD : Hid (ordE [] l = ordE (l.take (k + 1)) (l.drop (k + 1))) := Lib.hid (by rw [HST.out, TW.out, hbkf.out, HTK.out]; rfl)
                clear hb2 ho2 hs2 hm3 ho3 hs3 M1b M2b B1 g0 g1 g2 g3 g4 g5
                go_wp2
                go_roundw
                case rel => exact ⟨k + 1, by omega, by go_num, HORD.out, M1c.out, M2c.out, O3.out⟩
                case measure => simp [intOf]; omega
              · have n3 : (ak != 3) = true := by simp [h3]
                by_cases hlc : ec < ac
                · have dlt : decide (ec < ac) = true := by simp [hlc]
                  have HB : Hid (bk (l.take k) ⟨ek, en, ep, em, ec, ev⟩ = true) := Lib.hid (by rw [HBK.out]; simp [h3, hlc])
                  have HR : Hid (ordE [] l = 12) := Lib.hid (by rw [HST.out, TW.out, HB.out]; rfl)
                  clear h3
                  go_wp2
                  go_ret
                  exact ⟨by rw [HR.out]; rfl, O1.out.alloc _⟩
                · have dlt : decide (ec < ac) = false := by simpa using hlc
                  have hbkf : Hid (bk (l.take k) ⟨ek, en, ep, em, ec, ev⟩ = false) := Lib.hid (by rw [HBK.out]; simp; intro _; omega)
                  clear h3
                  go_wp2_with (at_mapUpdate; refine stop_here ?_)
                  refine stop_go ?_
                  refine alloc_abs (G := wpList _ _ _ _ _) ?_
                  intro w2 hb2 ho2 hs2
                  refine wpList_update_F (vE := enV) rfl _ _ _ 67 rfl 3 37 (key_int Tryd.underlying3) Tryd.underlying67 (w.heap.size + 1) (lastOf (l.take k)) rfl (M2b.out.kept ho2 (by simp)) en rfl ⟨ek, en, ep, em, ec, ev⟩ rfl ?_
                  intro w3 hm3 ho3 hs3
                  have M1c := Lib.hid ((M1b.out.kept ho2 (by simp)).kept ho3 (by simp))
                  have M2c : Hid (MapF (fun n : Int => Value.int .i64 n) enV w3 (w.heap.size + 1) (lastOf (l.take (k + 1)))) := Lib.hid (by
                    rw [HTK.out]
                    obtain ⟨q, q1, q2⟩ := hm3
                    exact ⟨q, q1, fun t => by rw [lastF_step]; exact q2 t⟩)
                  have O3 := Lib.hid ((O1.out.nil_trans ho2).trans ho3 (by simp))
                  have HORD : Hid (ordE [] l = ordE (l.take (k + 1)) (l.drop (k + 1))) := Lib.hid (by rw [HST.out, TW.out, hbkf.out, HTK.out]; rfl)
                  clear hb2 ho2 hs2 hm3 ho3 hs3 M1b M2b B1 g0 g1 g2 g3 g4 g5
                  go_wp2
                  go_roundw
                  case rel => exact ⟨k + 1, by omega, by go_num, HORD.out, M1c.out, M2c.out, O3.out⟩
                  case measure => simp [intOf]; omega
          | some b =>
            obtain rfl : b = true := by
              have := HSO.out
              unfold seenF at this
              split at this
              · simpa using this
              · cases this
            have HR : Hid (ordE [] l = 10) := Lib.hid (by rw [HST.out, HTS.out]; rfl)
            simp only [Option.map_some, Option.getD_some, Bool.false_eq_true, if_false]
            go_wp2
            go_ret
            exact ⟨by rw [HR.out]; rfl, Q0.out⟩
      · have k1 : (ek == 1) = false := by simp; intro q; exact ht (.inl q)
        have k2 : (ek == 2) = false := by simp; intro q; exact ht (.inr q)
        go_wp2_with (at_lookup; refine stop_here ?_)
        refine alloc_abs (G := fun w0 => Stop (wpList _ _ _ _ _ w0)) ?_
        intro w1 hb1 ho1 hs1
        have B1 := Lib.hid hb1; have O1 := Lib.hid (OO.out.nil_trans ho1); have M1b : Hid (MapF ltE Value.bool w1 w.heap.size (seenF (l.take (k + 1)))) := Lib.hid (by
          rw [HTK.out]
          obtain ⟨q, q1, q2⟩ := M1.out.kept ho1 (by simp)
          exact ⟨q, q1, fun t => by rw [seenF_no ht]; exact q2 t⟩)
        have M2b := Lib.hid (M2.out.kept ho1 (by simp)); have TW := Lib.hid (tw_no (l.take k) ⟨ek, en, ep, em, ec, ev⟩ ht)
        clear hb1 ho1 hs1 c0 c1 c2 c3 c4 c5
        refine stop_go ?_
        have Z37 : (zeroValue 37).run Tryd.prog w1 = .ok (enV ⟨0, 0, 0, 0, 0, 0⟩) w1 := Tryd.zeroValue37 w1
        refine wpList_lookup_F (vE := enV) rfl _ _ 67 true rfl 3 37 (key_int Tryd.underlying3) Tryd.underlying67 (enV ⟨0, 0, 0, 0, 0, 0⟩) Z37 (w.heap.size + 1) (lastOf (l.take k)) rfl M2b.out en rfl ?_
        clear Z37
        have hbk : bk (l.take k) ⟨ek, en, ep, em, ec, ev⟩ = (match lastOf (l.take k) en with | some a => decide (a.k ≠ 3) && decide (ec < a.c) | none => false) := rfl
        obtain ⟨lo, hlo⟩ : ∃ lo, lo = lastOf (l.take k) en := ⟨_, rfl⟩
        rw [← hlo] at hbk ⊢
        have HLO := Lib.hid hlo; have HBK := Lib.hid hbk
        clear hlo hbk
        have g0 := cell_got B1.out 0; have g1 := cell_got B1.out 1; have g2 := cell_got B1.out 2; have g3 := cell_got B1.out 3; have g4 := cell_got B1.out 4; have g5 := cell_got B1.out 5
        have l0 := got_lt B1.out
        cases lo with
        | none =>
          simp only [Option.map_none, Option.getD_none, Option.isSome_none, if_true, enV]
          have hbkf : Hid (bk (l.take k) ⟨ek, en, ep, em, ec, ev⟩ = false) := Lib.hid HBK.out
          go_wp2_with (at_mapUpdate; refine stop_here ?_)
          refine stop_go ?_
          refine alloc_abs (G := wpList _ _ _ _ _) ?_
          intro w2 hb2 ho2 hs2
          refine wpList_update_F (vE := enV) rfl _ _ _ 67 rfl 3 37 (key_int Tryd.underlying3) Tryd.underlying67 (w.heap.size + 1) (lastOf (l.take k)) rfl (M2b.out.kept ho2 (by simp)) en rfl ⟨ek, en, ep, em, ec, ev⟩ rfl ?_
          intro w3 hm3 ho3 hs3
          have M1c := Lib.hid ((M1b.out.kept ho2 (by simp)).kept ho3 (by simp))
          have M2c : Hid (MapF (fun n : Int => Value.int .i64 n) enV w3 (w.heap.size + 1) (lastOf (l.take (k + 1)))) := Lib.hid (by
            rw [HTK.out]
            obtain ⟨q, q1, q2⟩ := hm3
            exact ⟨q, q1, fun t => by rw [lastF_step]; exact q2 t⟩)
          have O3 := Lib.hid ((O1.out.nil_trans ho2).trans ho3 (by simp))
          have HORD : Hid (ordE [] l = ordE (l.take (k + 1)) (l.drop (k + 1))) := Lib.hid (by rw [HST.out, TW.out, hbkf.out, HTK.out]; rfl)
          clear hb2 ho2 hs2 hm3 ho3 hs3 M1b M2b B1 g0 g1 g2 g3 g4 g5
          go_wp2
          go_roundw
          case rel => exact ⟨k + 1, by omega, by go_num, HORD.out, M1c.out, M2c.out, O3.out⟩
          case measure => simp [intOf]; omega
        | some a =>
          obtain ⟨ak, an, ap, am, ac, av⟩ := a
          simp only [Option.map_some, Option.getD_some, Option.isSome_some, if_true, enV]
          by_cases h3 : ak = 3
          · have n3 : (ak != 3) = false := by simp [h3]
            have hbkf : Hid (bk (l.take k) ⟨ek, en, ep, em, ec, ev⟩ = false) := Lib.hid (by rw [HBK.out]; simp [h3])
            clear h3
            go_wp2_with (at_mapUpdate; refine stop_here ?_)
            refine stop_go ?_
            refine alloc_abs (G := wpList _ _ _ _ _) ?_
            intro w2 hb2 ho2 hs2
            refine wpList_update_F (vE := enV) rfl _ _ _ 67 rfl 3 37 (key_int Tryd.underlying3) Tryd.underlying67 (w.heap.size + 1) (lastOf (l.take k)) rfl (M2b.out.kept ho2 (by simp)) en rfl ⟨ek, en, ep, em, ec, ev⟩ rfl ?_
            intro w3 hm3 ho3 hs3
            have M1c := Lib.hid ((M1b.out.kept ho2 (by simp)).kept ho3 (by simp))
            have M2c : Hid (MapF (fun n : Int => Value.int .i64 n) enV w3 (w.heap.size + 1) (lastOf (l.take (k + 1)))) := Lib.hid (by
              rw [HTK.out]
              obtain ⟨q, q1, q2⟩ := hm3
              exact ⟨q, q1, fun t => by rw [lastF_step]; exact q2 t⟩)
            have O3 := Lib.hid ((O1.out.nil_trans ho2).trans ho3 (by simp))
            have HORD : Hid (ordE [] l = ordE (l.take (k + 1)) (l.drop (k + 1))) := Lib.hid (by rw [HST.out, TW.out, hbkf.out, HTK.out]; rfl)
            clear hb2 ho2 hs2 hm3 ho3 hs3 M1b M2b B1 g0 g1 g2 g3 g4 g5
            go_wp2
            go_roundw
            case rel => exact ⟨k + 1, by omega, by go_num, HORD.out, M1c.out, M2c.out, O3.out⟩
            case measure => simp [intOf]; omega
          · have n3 : (ak != 3) = true := by simp [h3]
            by_cases hlc : ec < ac
            · have dlt : decide (ec < ac) = true := by simp [hlc]
              have HB : Hid (bk (l.take k) ⟨ek, en, ep, em, ec, ev⟩ = true) := Lib.hid (by rw [HBK.out]; simp [h3, hlc])
              have HR : Hid (ordE [] l = 12) := Lib.hid (by rw [HST.out, TW.out, HB.out]; rfl)
              clear h3
              go_wp2
              go_ret
              exact ⟨by rw [HR.out]; rfl, O1.out.alloc _⟩
            · have dlt : decide (ec < ac) = false := by simpa using hlc
              have hbkf : Hid (bk (l.take k) ⟨ek, en, ep, em, ec, ev⟩ = false) := Lib.hid (by rw [HBK.out]; simp; intro _; omega)
              clear h3
              go_wp2_with (at_mapUpdate; refine stop_here ?_)
              refine stop_go ?_
              refine alloc_abs (G := wpList _ _ _ _ _) ?_
              intro w2 hb2 ho2 hs2
              refine wpList_update_F (vE := enV) rfl _ _ _ 67 rfl 3 37 (key_int Tryd.underlying3) Tryd.underlying67 (w.heap.size + 1) (lastOf (l.take k)) rfl (M2b.out.kept ho2 (by simp)) en rfl ⟨ek, en, ep, em, ec, ev⟩ rfl ?_
              intro w3 hm3 ho3 hs3
              have M1c := Lib.hid ((M1b.out.kept ho2 (by simp)).kept ho3 (by simp))
              have M2c : Hid (MapF (fun n : Int => Value.int .i64 n) enV w3 (w.heap.size + 1) (lastOf (l.take (k + 1)))) := Lib.hid (by
                rw [HTK.out]
                obtain ⟨q, q1, q2⟩ := hm3
                exact ⟨q, q1, fun t => by rw [lastF_step]; exact q2 t⟩)
              have O3 := Lib.hid ((O1.out.nil_trans ho2).trans ho3 (by simp))
              have HORD : Hid (ordE [] l = ordE (l.take (k + 1)) (l.drop (k + 1))) := Lib.hid (by rw [HST.out, TW.out, hbkf.out, HTK.out]; rfl)
              clear hb2 ho2 hs2 hm3 ho3 hs3 M1b M2b B1 g0 g1 g2 g3 g4 g5
              go_wp2
              go_roundw
              case rel => exact ⟨k + 1, by omega, by go_num, HORD.out, M1c.out, M2c.out, O3.out⟩
              case measure => simp [intOf]; omega
    · have hd : ordE [] l = 0 := by rw [OE.out, List.drop_of_length_le (by omega)]; rfl
      have HD := Lib.hid hd
      clear hd
      go_wp2
      go_ret
      exact ⟨by rw [HD.out]; rfl, OO.out⟩
end Go.Proofs.YtdpfbedcejahjaaDoor
