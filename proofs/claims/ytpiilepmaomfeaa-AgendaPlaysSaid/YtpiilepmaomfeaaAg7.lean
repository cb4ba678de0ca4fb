/- The queue of package agenda: New, Len, Peek. Conditions: as stated. -/
import Derived.Test.YtpiilepmaomfeaaAg6
namespace Go.Proofs.Ytpiilepmaomfeaa
open Go.RowKit

/-- a queue in memory: its block `q`, all its blocks `F`, its limit, its time, the number of pushes, its events -/
structure Que (w : World) (q : Nat) (F : List Nat) (lim tm pu : Int) (l : List Ev) : Prop where
  rep : QRep w q F (.int .i64 lim) (.int .i64 tm) (.int .i64 pu) l
  heap : Heap l.length (el l)
  ids : ∀ e ∈ l, 1 ≤ e.i ∧ e.i ≤ pu
  le : (l.length : Int) ≤ lim
  lim0 : lim ≤ 4096

/-- the value of a list that a queue keeps -/
theorem QRep.list {w : World} {q : Nat} {F : List Nat} {a2 a3 a4 : Value} {l : List Ev} (h : QRep w q F a2 a3 a4 l) :
    ∃ p cap m, w.heap[q]? = some (.cells #[.slice p l.length cap, .map m, a2, a3, a4] 53 (0, 0)) ∧ l.length ≤ 1000000 ∧
      (∀ i e, l[i]? = some e → ∃ g, p = some ⟨g, 0, none⟩ ∧ g < w.heap.size ∧ w.cell? ⟨g, i * 3, none⟩ = some (.int .i64 e.t) ∧ w.cell? ⟨g, i * 3 + 1, none⟩ = some (.int .i64 e.i) ∧ w.cell? ⟨g, i * 3 + 2, none⟩ = some (.int .i64 e.x)) := by
  rcases h with ⟨_, rfl, h⟩ | ⟨g, cap, b, _, h⟩
  · exact ⟨none, 0, none, h, by simp, by simp⟩
  · refine ⟨some ⟨g, 0, none⟩, cap, some b, h.qc, h.le, fun i e hi => ⟨g, rfl, h.row.lt, ?_, ?_, ?_⟩⟩
    · exact h.row.cell evc_len hi (j := 0) (by omega)
    · exact h.row.cell evc_len hi (j := 1) (by omega)
    · exact h.row.cell evc_len hi (j := 2) (by omega)

theorem QRep.kept {w w' : World} {S : List Nat} {q : Nat} {F : List Nat} {a2 a3 a4 : Value} {l : List Ev} (h : QRep w q F a2 a3 a4 l) (ho : Only S w w') (hF : ∀ k ∈ F, k ∉ S) : QRep w' q F a2 a3 a4 l := by
  rcases h with ⟨rfl, rfl, h⟩ | ⟨g, cap, b, rfl, h⟩
  · exact .inl ⟨rfl, rfl, ho.got h (hF q (by simp))⟩
  · exact .inr ⟨g, cap, b, rfl, h.kept ho (hF q (by simp)) (hF g (by simp)) (hF b (by simp))⟩

theorem Que.kept {w w' : World} {S : List Nat} {q : Nat} {F : List Nat} {lim tm pu : Int} {l : List Ev} (h : Que w q F lim tm pu l) (ho : Only S w w') (hF : ∀ k ∈ F, k ∉ S) : Que w' q F lim tm pu l :=
  ⟨h.rep.kept ho hF, h.heap, h.ids, h.le, h.lim0⟩

theorem Que.blocks {w : World} {q : Nat} {F : List Nat} {lim tm pu : Int} {l : List Ev} (h : Que w q F lim tm pu l) : ∀ k ∈ F, k < w.heap.size := by
  rcases h.rep with ⟨rfl, _, h'⟩ | ⟨g, cap, b, rfl, h'⟩
  · intro k hk; simp at hk; subst hk; exact got_lt h'
  · intro k hk
    simp at hk
    rcases hk with rfl | rfl | rfl
    · exact got_lt h'.qc
    · exact h'.row.lt
    · obtain ⟨D, hD, _⟩ := h'.map; exact World.ownsMap.lt hD

set_option maxHeartbeats 400000 in
theorem new_ok (lim : Int) (w : World) (h1 : 1 ≤ lim) (h2 : lim ≤ 4096) :
    Calls Try.prog 10 #[.int .i64 lim] w fun e w' => e = .returned (.pointer (some ⟨w.heap.size, 0, none⟩)) ∧ Que w' w.heap.size [w.heap.size] lim 0 0 [] ∧ Only [] w w' := by
  go_enter Try.func10, Try.ntmps10
  go_wp2
  go_ret
  refine ⟨rfl, ⟨.inl ⟨rfl, rfl, alloc_new _ _⟩, fun j h1 h2 => by simp at h2, by simp, by simp; omega, h2⟩, (Only.refl [] w).alloc _⟩

set_option maxHeartbeats 400000 in
theorem new_no (lim : Int) (w : World) (h : lim < 1 ∨ 4096 < lim) :
    Calls Try.prog 10 #[.int .i64 lim] w fun e w' => e = .returned (.pointer none) ∧ w = w' := by
  by_cases h1 : lim < 1
  · go_enter Try.func10, Try.ntmps10
    go_wp2
    go_ret
    exact ⟨rfl, rfl⟩
  · have h2 : 4096 < lim := by omega
    go_enter Try.func10, Try.ntmps10
    go_wp2
    go_ret
    exact ⟨rfl, rfl⟩

set_option maxHeartbeats 400000 in
theorem len_any {w : World} {q : Nat} {F : List Nat} {a2 a3 a4 : Value} {l : List Ev} (h : QRep w q F a2 a3 a4 l) :
    Calls Try.prog 12 #[.pointer (some ⟨q, 0, none⟩)] w fun e w' => e = .returned (.int .i64 l.length) ∧ w = w' := by
  obtain ⟨p, cap, m, hq, hle, hel⟩ := h.list
  clear hel h
  have c0 := cell_got hq 0
  clear hq
  go_enter Try.func12, Try.ntmps12
  go_wp2
  go_ret
  exact ⟨rfl, rfl⟩

theorem len_nil (w : World) :
    Calls Try.prog 12 #[.pointer none] w fun e w' => e = .returned (.int .i64 0) ∧ w = w' := by
  go_enter Try.func12, Try.ntmps12
  go_wp2
  go_ret
  exact ⟨rfl, rfl⟩

/-- an event as a value -/
abbrev evv (e : Ev) : Value := .agg #[.int .i64 e.t, .int .i64 e.i, .int .i64 e.x]

set_option maxHeartbeats 400000 in
theorem peek_some {w : World} {q : Nat} {F : List Nat} {a2 a3 a4 : Value} {l : List Ev} (h : QRep w q F a2 a3 a4 l) (hl : 0 < l.length) :
    Calls Try.prog 13 #[.pointer (some ⟨q, 0, none⟩)] w fun e w' => e = .returned (.tuple #[evv (el l 0), .bool true]) ∧ Only [] w w' := by
  obtain ⟨p, cap, m, hq, hle, hel⟩ := h.list
  obtain ⟨g, rfl, hgs, r0, r1, r2⟩ := hel 0 _ (el_some hl)
  clear hel
  simp only [Nat.zero_mul, Nat.zero_add] at r0 r1 r2
  have hqs := got_lt hq
  have c0 := cell_got hq 0
  have H := Lib.hid h; clear h hq
  have hne : ((l.length : Int) == 0) = false := by rw [beq_eq_false_iff_ne]; omega
  go_enter Try.func13, Try.ntmps13
  go_wp2_with fail
  refine (len_any (H.out.kept (S := []) ((Only.refl [] w).alloc _) (by simp))).mono ?_
  rintro e w1 ⟨rfl, rfl⟩
  go_wp2
  refine bodyPost_ret (v := .tuple #[evv (el l 0), .bool true]) (by simp [results, Try.results13, go_sem]) rfl ⟨rfl, ?_⟩
  exact (Only.refl [] w).alloc _

set_option maxHeartbeats 400000 in
theorem peek_none {w : World} {q : Nat} {F : List Nat} {a2 a3 a4 : Value} (h : QRep w q F a2 a3 a4 []) :
    Calls Try.prog 13 #[.pointer (some ⟨q, 0, none⟩)] w fun e w' => e = .returned (.tuple #[evv ⟨0, 0, 0⟩, .bool false]) ∧ Only [] w w' := by
  have H := Lib.hid h; clear h
  go_enter Try.func13, Try.ntmps13
  go_wp2_with fail
  refine (len_any (H.out.kept (S := []) ((Only.refl [] w).alloc _) (by simp))).mono ?_
  rintro e w1 ⟨rfl, rfl⟩
  go_wp2
  refine bodyPost_ret (v := .tuple #[evv ⟨0, 0, 0⟩, .bool false]) (by simp [results, Try.results13, go_sem]) rfl ⟨rfl, ?_⟩
  exact (Only.refl [] w).alloc _

set_option maxHeartbeats 400000 in
theorem peek_nil (w : World) :
    Calls Try.prog 13 #[.pointer none] w fun e w' => e = .returned (.tuple #[evv ⟨0, 0, 0⟩, .bool false]) ∧ Only [] w w' := by
  go_enter Try.func13, Try.ntmps13
  go_wp2_with fail
  refine (len_nil _).mono ?_
  rintro e w1 ⟨rfl, rfl⟩
  go_wp2
  refine bodyPost_ret (v := .tuple #[evv ⟨0, 0, 0⟩, .bool false]) (by simp [results, Try.results13, go_sem]) rfl ⟨rfl, ?_⟩
  exact (Only.refl [] w).alloc _
end Go.Proofs.Ytpiilepmaomfeaa
