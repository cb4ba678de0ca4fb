/- The queue of package agenda: Push. Conditions: as stated. -/
import Derived.Test.YtpiilepmaomfeaaAg7
namespace Go.Proofs.Ytpiilepmaomfeaa
open Go.RowKit

theorem Que.cells {w : World} {q : Nat} {F : List Nat} {lim tm pu : Int} {l : List Ev} (h : Que w q F lim tm pu l) :
    w.cell? ⟨q, 2, none⟩ = some (.int .i64 lim) ∧ w.cell? ⟨q, 3, none⟩ = some (.int .i64 tm) ∧ w.cell? ⟨q, 4, none⟩ = some (.int .i64 pu) ∧ (∀ o, w.frozen? ⟨q, o, none⟩ = false) ∧ q < w.heap.size := by
  obtain ⟨p, cap, m, hq, _⟩ := h.rep.list
  exact ⟨cell_got hq 2, cell_got hq 3, cell_got hq 4, frozen_got hq, got_lt hq⟩

theorem HRep.set4 {w : World} {q g cap b : Nat} {a2 a3 a4 : Value} {l : List Ev} (h : HRep w q g cap b a2 a3 a4 l) (v : Value) : HRep (w.setCell ⟨q, 4, none⟩ v) q g cap b a2 a3 v l := by
  have ho : Only [q] w (w.setCell ⟨q, 4, none⟩ v) := (Only.refl [q] w).setCell (by simp) _
  obtain ⟨D, hD, r⟩ := h.map
  exact ⟨setCell_got _ h.qc, h.row.kept ho (by simpa using h.qg.symm), ⟨D, EMap.kept hD ho (by simpa using h.bg.2), r⟩, h.qg, h.le⟩
theorem HRep.set3 {w : World} {q g cap b : Nat} {a2 a3 a4 : Value} {l : List Ev} (h : HRep w q g cap b a2 a3 a4 l) (v : Value) : HRep (w.setCell ⟨q, 3, none⟩ v) q g cap b a2 v a4 l := by
  have ho : Only [q] w (w.setCell ⟨q, 3, none⟩ v) := (Only.refl [q] w).setCell (by simp) _
  obtain ⟨D, hD, r⟩ := h.map
  exact ⟨setCell_got _ h.qc, h.row.kept ho (by simpa using h.qg.symm), ⟨D, EMap.kept hD ho (by simpa using h.bg.2), r⟩, h.qg, h.le⟩
theorem QRep.set4 {w : World} {q : Nat} {F : List Nat} {a2 a3 a4 : Value} {l : List Ev} (h : QRep w q F a2 a3 a4 l) (v : Value) : QRep (w.setCell ⟨q, 4, none⟩ v) q F a2 a3 v l := by
  rcases h with ⟨rfl, rfl, h⟩ | ⟨g, cap, b, rfl, h⟩
  · exact .inl ⟨rfl, rfl, setCell_got _ h⟩
  · exact .inr ⟨g, cap, b, rfl, h.set4 v⟩
theorem QRep.qF {w : World} {q : Nat} {F : List Nat} {a2 a3 a4 : Value} {l : List Ev} (h : QRep w q F a2 a3 a4 l) : q ∈ F := by
  rcases h with ⟨rfl, _, _⟩ | ⟨g, cap, b, rfl, _⟩ <;> simp
theorem QRep.wfs {w : World} {q : Nat} {F : List Nat} {a2 a3 a4 : Value} {l : List Ev} (h : QRep w q F a2 a3 a4 l) : (∀ e ∈ l, ∀ f ∈ l, e.i = f.i → e = f) ∧ ∀ e ∈ l, (Lit.int .i64 e.i).wf = true := by
  rcases h with ⟨_, rfl, _⟩ | ⟨g, cap, b, _, h⟩
  · simp
  · obtain ⟨D, _, hok, _⟩ := h.map
    exact ⟨fun e he f hf hi => hok.ids he hf hi, hok.wf⟩

theorem push_nil (at_ item : Int) (w : World) :
    Calls Try.prog 11 #[.pointer none, .int .i64 at_, .int .i64 item] w fun e w' => e = .returned (.tuple #[.int .i64 0, .int .i64 1]) ∧ w = w' := by
  go_enter Try.func11, Try.ntmps11
  go_wp2
  go_ret2
  exact ⟨rfl, rfl⟩

theorem push_range (q : Nat) (at_ item : Int) (w : World) (h : at_ < 0) :
    Calls Try.prog 11 #[.pointer (some ⟨q, 0, none⟩), .int .i64 at_, .int .i64 item] w fun e w' => e = .returned (.tuple #[.int .i64 0, .int .i64 3]) ∧ w = w' := by
  go_enter Try.func11, Try.ntmps11
  go_wp2
  go_ret2
  exact ⟨rfl, rfl⟩

theorem push_order {w : World} {q : Nat} {F : List Nat} {lim tm pu : Int} {l : List Ev} (h : Que w q F lim tm pu l) (at_ item : Int) (h0 : 0 ≤ at_) (h1 : at_ < tm) :
    Calls Try.prog 11 #[.pointer (some ⟨q, 0, none⟩), .int .i64 at_, .int .i64 item] w fun e w' => e = .returned (.tuple #[.int .i64 0, .int .i64 12]) ∧ w = w' := by
  obtain ⟨c2, c3, c4, hf, hqs⟩ := h.cells
  clear h hf c2 c4
  go_enter Try.func11, Try.ntmps11
  go_wp2
  go_ret2
  exact ⟨rfl, rfl⟩

set_option maxHeartbeats 400000 in
theorem push_full {w : World} {q : Nat} {F : List Nat} {lim tm pu : Int} {l : List Ev} (h : Que w q F lim tm pu l) (at_ item : Int) (h0 : 0 ≤ at_) (h1 : tm ≤ at_) (h2 : lim ≤ l.length) :
    Calls Try.prog 11 #[.pointer (some ⟨q, 0, none⟩), .int .i64 at_, .int .i64 item] w fun e w' => e = .returned (.tuple #[.int .i64 0, .int .i64 13]) ∧ Only [] w w' := by
  obtain ⟨c2, c3, c4, hf, hqs⟩ := h.cells
  have H := Lib.hid h
  clear h hf c4
  go_enter Try.func11, Try.ntmps11
  go_wp2
  refine wp_region_grown [0,1,2,3,4,5,6,7] [] (by kernel_rfl) (by kernel_rfl) ?_
  simp only [pick, List.map_cons, List.map_nil, List.getD_cons_succ, List.getD_cons_zero]
  iterate 1 (refine wpQuiet_step (fun K hK => ?_); go_simp; refine hK _ ?_; clear hK K)
  refine wpQuiet_enter rfl 12 #[.pointer (some ⟨q, 0, none⟩)] (fun _ => by kernel_rfl) (.int .i64 l.length) (grown_calls fun w' hw' => (len_any (H.out.rep.kept (only_of_plus hw') (by simp))).mono fun e w'' ⟨he, hw''⟩ => ⟨he, hw'' ▸ Below.refl _ _⟩) ?_
  iterate 6 (refine wpQuiet_step (fun K hK => ?_); go_simp; refine hK _ ?_; clear hK K)
  refine wpQuiet_nil ?_
  intro w1 hw1
  have ho1 := only_of_plus hw1; clear hw1
  go_wp2
  go_ret2
  exact ⟨rfl, ho1⟩

set_option maxHeartbeats 800000 in
theorem push_ok {w : World} {q : Nat} {F : List Nat} {lim tm pu : Int} {l : List Ev} (h : Que w q F lim tm pu l) (at_ item : Int) (h0 : 0 ≤ at_) (h1 : tm ≤ at_) (h2 : l.length < lim) (hp0 : 0 ≤ pu) (hp1 : pu ≤ 1000000000) :
    Calls Try.prog 11 #[.pointer (some ⟨q, 0, none⟩), .int .i64 at_, .int .i64 item] w fun e w' => e = .returned (.tuple #[.int .i64 (pu + 1), .int .i64 0]) ∧
      ∃ F' l', Que w' q F' lim tm (pu + 1) l' ∧ Only F w w' ∧ (∀ k ∈ F', k ∈ F ∨ w.heap.size ≤ k) ∧ l'.length = l.length + 1 ∧ ∀ e, e ∈ l' ↔ e = ⟨at_, pu + 1, item⟩ ∨ e ∈ l := by
  obtain ⟨c2, c3, c4, hf, hqs⟩ := h.cells
  have hl0 := h.lim0
  have H := Lib.hid h
  clear h
  go_enter Try.func11, Try.ntmps11
  go_wp2
  refine wp_region_grown [0,1,2,3,4,5,6,7] [] (by kernel_rfl) (by kernel_rfl) ?_
  simp only [pick, List.map_cons, List.map_nil, List.getD_cons_succ, List.getD_cons_zero]
  iterate 1 (refine wpQuiet_step (fun K hK => ?_); go_simp; refine hK _ ?_; clear hK K)
  refine wpQuiet_enter rfl 12 #[.pointer (some ⟨q, 0, none⟩)] (fun _ => by kernel_rfl) (.int .i64 l.length) (grown_calls fun w' hw' => (len_any (H.out.rep.kept (only_of_plus hw') (by simp))).mono fun e w'' ⟨he, hw''⟩ => ⟨he, hw'' ▸ Below.refl _ _⟩) ?_
  iterate 6 (refine wpQuiet_step (fun K hK => ?_); go_simp; refine hK _ ?_; clear hK K)
  refine wpQuiet_nil ?_
  intro w1 hw1
  have ho1 := only_of_plus hw1; clear hw1
  have hq1 := H.out.kept ho1 (by simp)
  clear c2 c3 c4 hf hqs
  obtain ⟨c2, c3, c4, hf, hqs⟩ := hq1.cells
  have f4 := hf 4
  clear hf c2 c3
  have HQ1 := Lib.hid hq1; clear hq1
  go_wp2
  refine wabs (G := Code.wp _ _ _ _) (R := fun w2 => QRep w2 q F (.int .i64 lim) (.int .i64 tm) (.int .i64 (pu + 1)) l ∧ Only [q] w1 w2) ⟨HQ1.out.rep.set4 _, (Only.refl [q] w1).setCell (by simp) _⟩ ?_
  rintro w2 ⟨hq2, ho2⟩
  clear c4 f4 hqs
  obtain ⟨p, cap, m, hqc, _⟩ := hq2.list
  have c4 := cell_got hqc 4
  have hqs := got_lt hqc
  have HQ2 := Lib.hid hq2; have HQC := Lib.hid hqc; clear hq2 hqc
  refine wp_region_grown [0,1,2,3,4,5,6,7,8,9,10] [11] (by kernel_rfl) (by kernel_rfl) ?_
  simp only [pick, List.map_cons, List.map_nil, List.getD_cons_succ, List.getD_cons_zero]
  iterate 11 (refine wpQuiet_step (fun K hK => ?_); go_simp; refine hK _ ?_; clear hK K)
  refine wpQuiet_nil ?_
  intro w3 hw3
  have ho3 := only_of_plus hw3; clear hw3
  clear c4 hqs
  have hwf : (Lit.int .i64 (pu + 1)).wf = true := WalkArith.wf_i64 (by omega)
  have hids : ∀ e ∈ l, e.i ≠ pu + 1 := fun e he => by have := H.out.ids e he; omega
  have HID := Lib.hid hids; clear hids
  go_wp2_with fail
  refine (push_any (HQ2.out.kept ho3 (by simp)) ⟨at_, pu + 1, item⟩ HID.out hwf (by omega) H.out.heap).mono ?_
  rintro e w4 ⟨rfl, F', l', hq4, ho4, hF4, hl4, hh4, hm4⟩
  obtain ⟨p4, cap4, m4, hqc4, _⟩ := hq4.list
  have c4 := cell_got hqc4 4
  have HQ4 := Lib.hid hq4; have HF4 := Lib.hid hF4; have HL4 := Lib.hid hl4; have HH4 := Lib.hid hh4; have HM4 := Lib.hid hm4; clear hq4 hqc4 hF4 hl4 hh4 hm4
  go_wp2
  go_ret2
  have hs : w.heap.size ≤ w3.heap.size := by have := ho1.size; have := ho2.size; have := ho3.size; omega
  have o2 : Only F w w2 := (ho1.weak (S' := F) (by simp)).trans ho2 (by intro k hk; simp at hk; subst hk; exact .inl H.out.rep.qF)
  refine ⟨rfl, F', l', ⟨HQ4.out, HH4.out, ?_, ?_, hl0⟩, (o2.nil_trans ho3).trans ho4 (fun _ h => .inl h), ?_, HL4.out, HM4.out⟩
  · intro e he
    rcases (HM4.out e).1 he with rfl | h
    · exact ⟨by simp; omega, by simp⟩
    · have := H.out.ids e h; omega
  · rw [HL4.out]; omega
  · intro k hk
    rcases HF4.out k hk with h | h
    · exact .inl h
    · exact .inr (by omega)
end Go.Proofs.Ytpiilepmaomfeaa
