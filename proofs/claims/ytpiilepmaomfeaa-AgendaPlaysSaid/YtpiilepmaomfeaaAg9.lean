/- The queue of package agenda: Pop and Cancel. Conditions: as stated. -/
import Derived.Test.YtpiilepmaomfeaaAg8
namespace Go.Proofs.Ytpiilepmaomfeaa
open Go.RowKit

theorem QRep.hrep {w : World} {q : Nat} {F : List Nat} {a2 a3 a4 : Value} {l : List Ev} (h : QRep w q F a2 a3 a4 l) (hl : 0 < l.length) : ∃ g cap b, F = [q, g, b] ∧ HRep w q g cap b a2 a3 a4 l := by
  rcases h with ⟨_, rfl, _⟩ | h
  · simp at hl
  · exact h

set_option maxHeartbeats 800000 in
theorem pop_some {w : World} {q : Nat} {F : List Nat} {lim tm pu : Int} {l : List Ev} (h : Que w q F lim tm pu l) (hl : 0 < l.length) :
    Calls Try.prog 14 #[.pointer (some ⟨q, 0, none⟩)] w fun e w' => e = .returned (.tuple #[evv (el l 0), .bool true]) ∧
      ∃ l', Que w' q F lim (el l 0).t pu l' ∧ Only F w w' ∧ l'.length + 1 = l.length ∧ ∀ e, e ∈ l' ↔ e ∈ l ∧ e.i ≠ (el l 0).i := by
  have H := Lib.hid h; clear h
  go_enter Try.func14, Try.ntmps14
  go_wp2_with fail
  refine (peek_some (H.out.rep.kept (S := []) ((Only.refl [] w).alloc _) (by simp)) hl).mono ?_
  rintro e w1 ⟨rfl, ho1⟩
  have hr : w1.heap[w.heap.size]? = some (.cells #[.int .i64 0, .int .i64 0, .int .i64 0] 31 (0, 0)) := ho1.got (alloc_new _ _) (by simp)
  have ho1' : Only [] w w1 := Only.nil_trans ((Only.refl [] w).alloc _) ho1
  clear ho1
  have HRS := Lib.hid hr; clear hr
  obtain ⟨g, cap, b, hF, hrep⟩ := H.out.rep.hrep hl
  have HRP := Lib.hid hrep; have HFF := Lib.hid hF; clear hrep hF
  have hws := got_lt HRS.out
  have hFs := H.out.blocks
  rw [HFF.out] at hFs
  have hqs : q < w.heap.size := hFs q (by simp)
  have hgs : g < w.heap.size := hFs g (by simp)
  have hbs : b < w.heap.size := hFs b (by simp)
  clear hFs
  go_wp2_with fail
  refine alloc_abs (G := fun w0 => Calls _ _ _ w0 _) ?_
  intro w2 hb2 ho2 hs2
  have HB2 := Lib.hid hb2; have HS2 := Lib.hid hs2; clear hb2 hs2
  have hs12 : w1.heap.size < w2.heap.size := by have := HS2.out; omega
  show Calls _ _ #[_, .int .i64 ((0 : Nat) : Int)] _ _
  refine (remove_any (HRP.out.kept (ho1'.nil_trans ho2) (by simp) (by simp) (by simp)) hl H.out.heap).mono ?_
  rintro e w3 ⟨rfl, l', hrep3, ho3, hl3, hh3, hm3⟩
  have hb3 := ho3.got HB2.out (by simp; omega)
  have hr3 := ho3.got (ho2.got HRS.out (by simp)) (by simp; omega)
  have e0 := cell_got hb3 0
  have e1 := cell_got hb3 1
  have e2 := cell_got hb3 2
  have r0 := cell_got hr3 0
  have r1 := cell_got hr3 1
  have r2 := cell_got hr3 2
  have f0 := frozen_got hr3 0
  have f1 := frozen_got hr3 1
  have f2 := frozen_got hr3 2
  have q3 := cell_got hrep3.qc 3
  have fq := frozen_got hrep3.qc 3
  have n1 : q ≠ w.heap.size := by omega
  have n2 : q ≠ w1.heap.size := by omega
  have n3 : w.heap.size ≠ w1.heap.size := by omega
  have n4 : w.heap.size ≠ q := by omega
  have n5 : w1.heap.size ≠ q := by omega
  have n6 : w1.heap.size ≠ w.heap.size := by omega
  have HR3 := Lib.hid hrep3; have HL3 := Lib.hid hl3; have HH3 := Lib.hid hh3; have HM3 := Lib.hid hm3; have HRR := Lib.hid hr3; clear hrep3 hl3 hh3 hm3 hb3 hr3
  go_wp2
  refine wabs (G := bodyPost _ _ _ _ _) (R := fun wf => HRep wf q g cap b (.int .i64 lim) (.int .i64 (el l 0).t) (.int .i64 pu) l' ∧ wf.heap[w.heap.size]? = some (.cells #[.int .i64 (el l 0).t, .int .i64 (el l 0).i, .int .i64 (el l 0).x] 31 (0, 0)) ∧ Only [q, w.heap.size] w3 wf) ?_ ?_
  · refine ⟨?_, ?_, ?_⟩
    · have h1 := HR3.out.set3 (.int .i64 (el l 0).t)
      have ho : Only [w.heap.size] (w3.setCell ⟨q, 3, none⟩ (.int .i64 (el l 0).t)) ((((w3.setCell ⟨q, 3, none⟩ (.int .i64 (el l 0).t)).setCell ⟨w.heap.size, 0, none⟩ (.int .i64 (el l 0).t)).setCell ⟨w.heap.size, 1, none⟩ (.int .i64 (el l 0).i)).setCell ⟨w.heap.size, 2, none⟩ (.int .i64 (el l 0).x)) :=
        (((Only.refl [w.heap.size] _).setCell (by simp) _).setCell (by simp) _).setCell (by simp) _
      exact h1.kept ho (by simp; omega) (by simp; omega) (by simp; omega)
    · have h0 : (w3.setCell ⟨q, 3, none⟩ (.int .i64 (el l 0).t)).heap[w.heap.size]? = some (.cells #[.int .i64 0, .int .i64 0, .int .i64 0] 31 (0, 0)) := by
        rw [Below.heap_setCell _ _ _ _ n4]; exact HRR.out
      exact setCell_got (o := 2) _ (setCell_got (o := 1) _ (setCell_got (o := 0) _ h0))
    · exact ((((Only.refl [q, w.heap.size] w3).setCell (by simp) _).setCell (by simp) _).setCell (by simp) _).setCell (by simp) _
  rintro wf ⟨hf1, hf2, hf3⟩
  clear e0 e1 e2 r0 r1 r2 f0 f1 f2 q3 fq
  have r0 := cell_got hf2 0
  have r1 := cell_got hf2 1
  have r2 := cell_got hf2 2
  refine bodyPost_ret (v := .tuple #[evv (el l 0), .bool true]) (by simp [results, Try.results14, go_sem, r0, r1, r2]) rfl ⟨rfl, l', ⟨.inr ⟨g, cap, b, HFF.out, hf1⟩, HH3.out, ?_, ?_, H.out.lim0⟩, ?_, HL3.out, HM3.out⟩
  · intro e he; exact H.out.ids e ((HM3.out e).1 he).1
  · have := HL3.out; have := H.out.le; omega
  · rw [HFF.out]
    have o3 : Only [q, g, b] w w3 := (ho1'.nil_trans ho2).nil_left ho3
    exact o3.trans hf3 (by intro k hk; simp at hk; rcases hk with rfl | rfl; exact .inl (by simp); exact .inr (Nat.le_refl _))

set_option maxHeartbeats 400000 in
theorem pop_none {w : World} {q : Nat} {F : List Nat} {a2 a3 a4 : Value} (h : QRep w q F a2 a3 a4 []) :
    Calls Try.prog 14 #[.pointer (some ⟨q, 0, none⟩)] w fun e w' => e = .returned (.tuple #[evv ⟨0, 0, 0⟩, .bool false]) ∧ Only [] w w' := by
  have H := Lib.hid h; clear h
  go_enter Try.func14, Try.ntmps14
  go_wp2_with fail
  refine (peek_none (H.out.kept (S := []) ((Only.refl [] w).alloc _) (by simp))).mono ?_
  rintro e w1 ⟨rfl, ho1⟩
  have hr : w1.heap[w.heap.size]? = some (.cells #[.int .i64 0, .int .i64 0, .int .i64 0] 31 (0, 0)) := ho1.got (alloc_new _ _) (by simp)
  have ho1' : Only [] w w1 := Only.nil_trans ((Only.refl [] w).alloc _) ho1
  have r0 := cell_got hr 0
  have r1 := cell_got hr 1
  have r2 := cell_got hr 2
  have f0 := frozen_got hr 0
  have f1 := frozen_got hr 1
  have f2 := frozen_got hr 2
  have hws := got_lt hr
  have hne : w.heap.size ≠ w1.heap.size := by omega
  have HR := Lib.hid hr; clear hr ho1
  go_wp2
  refine wabs (G := bodyPost _ _ _ _ _) (R := fun wf => wf.heap[w.heap.size]? = some (.cells #[.int .i64 0, .int .i64 0, .int .i64 0] 31 (0, 0)) ∧ Only [] w wf) ?_ ?_
  · refine ⟨alloc_old (setCell_got (o := 2) _ (setCell_got (o := 1) _ (setCell_got (o := 0) _ HR.out))), ?_⟩
    have o1 : Only [w.heap.size] w1 ((((w1.setCell ⟨w.heap.size, 0, none⟩ (.int .i64 0)).setCell ⟨w.heap.size, 1, none⟩ (.int .i64 0)).setCell ⟨w.heap.size, 2, none⟩ (.int .i64 0)).alloc (Obj.cells #[.int .i64 0, .int .i64 0, .int .i64 0] 31)) :=
      ((((Only.refl [w.heap.size] w1).setCell (by simp) _).setCell (by simp) _).setCell (by simp) _).alloc _
    exact ho1'.trans o1 (by simp)
  rintro wf ⟨hf2, hf3⟩
  clear r0 r1 r2 f0 f1 f2
  have r0 := cell_got hf2 0
  have r1 := cell_got hf2 1
  have r2 := cell_got hf2 2
  exact bodyPost_ret (v := .tuple #[evv ⟨0, 0, 0⟩, .bool false]) (by simp [results, Try.results14, go_sem, r0, r1, r2]) rfl ⟨rfl, hf3⟩

set_option maxHeartbeats 400000 in
theorem pop_nil (w : World) :
    Calls Try.prog 14 #[.pointer none] w fun e w' => e = .returned (.tuple #[evv ⟨0, 0, 0⟩, .bool false]) ∧ Only [] w w' := by
  go_enter Try.func14, Try.ntmps14
  go_wp2_with fail
  refine (peek_nil _).mono ?_
  rintro e w1 ⟨rfl, ho1⟩
  have hr : w1.heap[w.heap.size]? = some (.cells #[.int .i64 0, .int .i64 0, .int .i64 0] 31 (0, 0)) := ho1.got (alloc_new _ _) (by simp)
  have ho1' : Only [] w w1 := Only.nil_trans ((Only.refl [] w).alloc _) ho1
  have r0 := cell_got hr 0
  have r1 := cell_got hr 1
  have r2 := cell_got hr 2
  have f0 := frozen_got hr 0
  have f1 := frozen_got hr 1
  have f2 := frozen_got hr 2
  have hws := got_lt hr
  have hne : w.heap.size ≠ w1.heap.size := by omega
  have HR := Lib.hid hr; clear hr ho1
  go_wp2
  refine wabs (G := bodyPost _ _ _ _ _) (R := fun wf => wf.heap[w.heap.size]? = some (.cells #[.int .i64 0, .int .i64 0, .int .i64 0] 31 (0, 0)) ∧ Only [] w wf) ?_ ?_
  · refine ⟨alloc_old (setCell_got (o := 2) _ (setCell_got (o := 1) _ (setCell_got (o := 0) _ HR.out))), ?_⟩
    have o1 : Only [w.heap.size] w1 ((((w1.setCell ⟨w.heap.size, 0, none⟩ (.int .i64 0)).setCell ⟨w.heap.size, 1, none⟩ (.int .i64 0)).setCell ⟨w.heap.size, 2, none⟩ (.int .i64 0)).alloc (Obj.cells #[.int .i64 0, .int .i64 0, .int .i64 0] 31)) :=
      ((((Only.refl [w.heap.size] w1).setCell (by simp) _).setCell (by simp) _).setCell (by simp) _).alloc _
    exact ho1'.trans o1 (by simp)
  rintro wf ⟨hf2, hf3⟩
  clear r0 r1 r2 f0 f1 f2
  have r0 := cell_got hf2 0
  have r1 := cell_got hf2 1
  have r2 := cell_got hf2 2
  exact bodyPost_ret (v := .tuple #[evv ⟨0, 0, 0⟩, .bool false]) (by simp [results, Try.results14, go_sem, r0, r1, r2]) rfl ⟨rfl, hf3⟩

theorem cancel_nil (id : Int) (w : World) :
    Calls Try.prog 21 #[.pointer none, .int .i64 id] w fun e w' => e = .returned (.bool false) ∧ w = w' := by
  go_enter Try.func21, Try.ntmps21
  go_wp2
  go_ret
  exact ⟨rfl, rfl⟩

theorem zero_int (w : World) : (zeroValue 3).run Try.prog w = .ok (.int .i64 0) w := by kernel_rfl

set_option maxHeartbeats 800000 in
theorem cancel_yes {w : World} {q : Nat} {F : List Nat} {lim tm pu : Int} {l : List Ev} (h : Que w q F lim tm pu l) (id : Int) (hw : (Lit.int .i64 id).wf = true) {x : Ev} (hx : x ∈ l) (hid : x.i = id) :
    Calls Try.prog 21 #[.pointer (some ⟨q, 0, none⟩), .int .i64 id] w fun e w' => e = .returned (.bool true) ∧
      ∃ l', Que w' q F lim tm pu l' ∧ Only F w w' ∧ l'.length + 1 = l.length ∧ ∀ e, e ∈ l' ↔ e ∈ l ∧ e.i ≠ id := by
  have hl : 0 < l.length := List.length_pos_of_mem hx
  obtain ⟨g, cap, b, hF, hrep⟩ := h.rep.hrep hl
  obtain ⟨i, hi⟩ := List.mem_iff_getElem?.1 hx
  have hil : i < l.length := (List.getElem?_eq_some_iff.1 hi).1
  obtain ⟨D, hD, hok, hsz⟩ := hrep.map
  have hat := hok.at_ i x hi
  rw [hid] at hat
  have hxi : (el l i).i = id := by rw [el_of hi]; exact hid
  have c1 := cell_got hrep.qc 1
  have hin : i ≤ 1000000 := by have := hrep.le; omega
  have H := Lib.hid h; have HF := Lib.hid hF; have HR := Lib.hid hrep; have HI := Lib.hid hi; have HD := Lib.hid hD; have HA := Lib.hid hat; have HX := Lib.hid hxi
  clear h hF hrep hi hD hok hsz hat hid hx hxi
  go_enter Try.func21, Try.ntmps21
  go_wp2_with (at_lookup; refine wpList_lookup_own_ok_int _ rfl _ _ 49 rfl 3 3 .i64 (Maps.int_keyed Try.underlying3) Try.underlying49 Try.underlying3 (zero_int _) b l.length D rfl HD.out _ _ rfl (Maps.keyOf_int_mk Try.underlying3 hw) ?_; intro c hc hcw; rw [HA.out.1])
  have hci : c = (i : Int) := by
    rw [HA.out.2] at hc
    injection hc with h1
    injection h1 with _ h2
    exact h2.symm
  subst hci
  clear hc hcw
  refine (remove_any HR.out hil H.out.heap).mono ?_
  rintro e w3 ⟨rfl, l', hrep3, ho3, hl3, hh3, hm3⟩
  have HR3 := Lib.hid hrep3; have HL3 := Lib.hid hl3; have HH3 := Lib.hid hh3; have HM3 := Lib.hid hm3; clear hrep3 hl3 hh3 hm3
  go_wp2
  go_ret
  refine ⟨rfl, l', ⟨.inr ⟨g, cap, b, HF.out, HR3.out⟩, HH3.out, ?_, ?_, H.out.lim0⟩, by rw [HF.out]; exact ho3, HL3.out, fun e => by rw [HM3.out e, HX.out]⟩
  · intro e he; exact H.out.ids e ((HM3.out e).1 he).1
  · have := HL3.out; have := H.out.le; omega

set_option maxHeartbeats 800000 in
theorem cancel_no {w : World} {q : Nat} {F : List Nat} {a2 a3 a4 : Value} {l : List Ev} (h : QRep w q F a2 a3 a4 l) (id : Int) (hw : (Lit.int .i64 id).wf = true) (hid : ∀ e ∈ l, e.i ≠ id) :
    Calls Try.prog 21 #[.pointer (some ⟨q, 0, none⟩), .int .i64 id] w fun e w' => e = .returned (.bool false) ∧ w = w' := by
  rcases h with ⟨rfl, rfl, hq⟩ | ⟨g, cap, b, rfl, hrep⟩
  · have c1 := cell_got hq 1
    clear hid
    have hlk := Maps.look_nil (P := Try.prog) (w := w) (t := 49) (e := 3) true (Maps.int_keyed Try.underlying3) Try.underlying49 (zero_int w) (Maps.keyOf_int_mk Try.underlying3 hw)
    go_enter Try.func21, Try.ntmps21
    go_wp2
    go_ret
    exact ⟨rfl, rfl⟩
  · obtain ⟨D, hD, hok, hsz⟩ := hrep.map
    have hat := hok.none id hid
    have c1 := cell_got hrep.qc 1
    have HD := Lib.hid hD; have HA := Lib.hid hat
    clear hrep hD hok hsz hat hid
    go_enter Try.func21, Try.ntmps21
    go_wp2_with (at_lookup; refine wpList_lookup_own_ok_int _ rfl _ _ 49 rfl 3 3 .i64 (Maps.int_keyed Try.underlying3) Try.underlying49 Try.underlying3 (zero_int _) b l.length D rfl HD.out _ _ rfl (Maps.keyOf_int_mk Try.underlying3 hw) ?_; intro c hc hcw; rw [HA.out])
    go_ret
    exact ⟨rfl, rfl⟩
end Go.Proofs.Ytpiilepmaomfeaa
