/- The reference queue (package timesyncref15): its representation, New, Len, Push. Conditions: as stated. -/
import Derived.Test.YtpiilepmaomfeaaAgG
namespace Go.Proofs.Ytpiilepmaomfeaa
open Go.RowKit

/-- a list of events of the reference -/
abbrev RRow (w : World) (v : Value) (l : List Ev) : Prop := w.ownsRow 0 31 3 v l.length (l.flatMap evc)

/-- the reference queue in memory -/
structure RQ (w : World) (p : Nat) (v : Value) (lim tm pu : Int) (l : List Ev) : Prop where
  qc : w.heap[p]? = some (.cells #[.int .i64 lim, .int .i64 tm, .int .i64 pu, v] 61 (0, 0))
  row : RRow w v l
  vp : v.ownBlock ≠ some p
  le : l.length ≤ 1000000

/-- the value of a row -/
theorem RRow.val {w : World} {v : Value} {l : List Ev} (h : RRow w v l) : (v = .slice none 0 0 ∧ l = []) ∨ ∃ g cap, v = .slice (some ⟨g, 0, none⟩) l.length cap ∧ RowAt evc 31 3 w g cap l := by
  rcases h.2 with ⟨rfl, h0⟩ | ⟨g, cap, cur, rfl, _, hg, h2, h3, h1, h4⟩
  · exact .inl ⟨rfl, List.eq_nil_of_length_eq_zero h0⟩
  · exact .inr ⟨g, cap, rfl, cur, hg, h1, h2, h3, h4⟩

theorem RQ.kept {w w' : World} {S : List Nat} {p : Nat} {v : Value} {lim tm pu : Int} {l : List Ev} (h : RQ w p v lim tm pu l) (ho : Only S w w') (h1 : p ∉ S) (h2 : ∀ k ∈ v.ownBlock.toList, k ∉ S) : RQ w' p v lim tm pu l := by
  refine ⟨ho.got h.qc h1, ?_, h.vp, h.le⟩
  rcases h.row.val with ⟨rfl, rfl⟩ | ⟨g, cap, rfl, hr⟩
  · exact World.ownsRow_nil _ _ _ _
  · exact (hr.kept ho (h2 g (by simp [Value.ownBlock]))).owns evc_len (Nat.zero_le _)

theorem RQ.blocks {w : World} {p : Nat} {v : Value} {lim tm pu : Int} {l : List Ev} (h : RQ w p v lim tm pu l) : ∀ k ∈ p :: v.ownBlock.toList, k < w.heap.size := by
  intro k hk
  rcases List.mem_cons.1 hk with rfl | hk
  · exact got_lt h.qc
  · rcases h.row.val with ⟨rfl, rfl⟩ | ⟨g, cap, rfl, hr⟩
    · simp [Value.ownBlock] at hk
    · simp [Value.ownBlock] at hk; subst hk; exact hr.lt

set_option maxHeartbeats 400000 in
theorem rnew_ok (lim : Int) (w : World) (h1 : 1 ≤ lim) (h2 : lim ≤ 4096) :
    Calls Try.prog 16 #[.int .i64 lim] w fun e w' => e = .returned (.pointer (some ⟨w.heap.size, 0, none⟩)) ∧ RQ w' w.heap.size (.slice none 0 0) lim 0 0 [] ∧ Only [] w w' := by
  go_enter Try.func16, Try.ntmps16
  go_wp2
  go_ret
  exact ⟨rfl, ⟨alloc_new _ _, World.ownsRow_nil _ _ _ _, by simp [Value.ownBlock], by simp⟩, (Only.refl [] w).alloc _⟩

set_option maxHeartbeats 400000 in
theorem rnew_no (lim : Int) (w : World) (h : lim < 1 ∨ 4096 < lim) :
    Calls Try.prog 16 #[.int .i64 lim] w fun e w' => e = .returned (.pointer none) ∧ w = w' := by
  by_cases h1 : lim < 1
  · go_enter Try.func16, Try.ntmps16
    go_wp2
    go_ret
    exact ⟨rfl, rfl⟩
  · have h2 : 4096 < lim := by omega
    go_enter Try.func16, Try.ntmps16
    go_wp2
    go_ret
    exact ⟨rfl, rfl⟩

set_option maxHeartbeats 400000 in
theorem rlen_any {w : World} {p : Nat} {v : Value} {lim tm pu : Int} {l : List Ev} (h : RQ w p v lim tm pu l) :
    Calls Try.prog 23 #[.pointer (some ⟨p, 0, none⟩)] w fun e w' => e = .returned (.int .i64 l.length) ∧ w = w' := by
  have c3 := cell_got h.qc 3
  have hps := got_lt h.qc
  rcases h.row.val with ⟨rfl, rfl⟩ | ⟨g, cap, rfl, hr⟩
  all_goals
    clear h
    go_enter Try.func23, Try.ntmps23
    go_wp2
    go_ret
    exact ⟨rfl, rfl⟩

set_option maxHeartbeats 400000 in
theorem rlen_nil (w : World) :
    Calls Try.prog 23 #[.pointer none] w fun e w' => e = .returned (.int .i64 0) ∧ w = w' := by
  go_enter Try.func23, Try.ntmps23
  go_wp2
  go_ret
  exact ⟨rfl, rfl⟩

set_option maxHeartbeats 400000 in
theorem rpush_nil (at_ item : Int) (w : World) :
    Calls Try.prog 18 #[.pointer none, .int .i64 at_, .int .i64 item] w fun e w' => e = .returned (.tuple #[.int .i64 0, .int .i64 1]) ∧ w = w' := by
  go_enter Try.func18, Try.ntmps18
  go_wp2
  go_ret2
  exact ⟨rfl, rfl⟩

set_option maxHeartbeats 400000 in
theorem rpush_range (p : Nat) (at_ item : Int) (w : World) (h : at_ < 0) :
    Calls Try.prog 18 #[.pointer (some ⟨p, 0, none⟩), .int .i64 at_, .int .i64 item] w fun e w' => e = .returned (.tuple #[.int .i64 0, .int .i64 3]) ∧ w = w' := by
  go_enter Try.func18, Try.ntmps18
  go_wp2
  go_ret2
  exact ⟨rfl, rfl⟩

set_option maxHeartbeats 400000 in
theorem rpush_order {w : World} {p : Nat} {v : Value} {lim tm pu : Int} {l : List Ev} (h : RQ w p v lim tm pu l) (at_ item : Int) (h0 : 0 ≤ at_) (h1 : at_ < tm) :
    Calls Try.prog 18 #[.pointer (some ⟨p, 0, none⟩), .int .i64 at_, .int .i64 item] w fun e w' => e = .returned (.tuple #[.int .i64 0, .int .i64 12]) ∧ w = w' := by
  have c1 := cell_got h.qc 1
  have hps := got_lt h.qc
  clear h
  go_enter Try.func18, Try.ntmps18
  go_wp2
  go_ret2
  exact ⟨rfl, rfl⟩

set_option maxHeartbeats 400000 in
theorem rpush_full {w : World} {p : Nat} {v : Value} {lim tm pu : Int} {l : List Ev} (h : RQ w p v lim tm pu l) (at_ item : Int) (h0 : 0 ≤ at_) (h1 : tm ≤ at_) (h2 : lim ≤ l.length) :
    Calls Try.prog 18 #[.pointer (some ⟨p, 0, none⟩), .int .i64 at_, .int .i64 item] w fun e w' => e = .returned (.tuple #[.int .i64 0, .int .i64 13]) ∧ Only [] w w' := by
  have c0 := cell_got h.qc 0
  have c1 := cell_got h.qc 1
  have c3 := cell_got h.qc 3
  have hps := got_lt h.qc
  obtain ⟨pt, cap, rfl⟩ : ∃ pt cap, v = .slice pt l.length cap := by
    rcases h.row.val with ⟨rfl, rfl⟩ | ⟨g, cap, rfl, hr⟩
    · exact ⟨_, _, rfl⟩
    · exact ⟨_, _, rfl⟩
  clear h
  go_enter Try.func18, Try.ntmps18
  go_wp2
  refine wp_region_grown [0,1,2,3,4,5,6,7,8,9] [] (by kernel_rfl) (by kernel_rfl) ?_
  simp only [pick, List.map_cons, List.map_nil, List.getD_cons_succ, List.getD_cons_zero]
  iterate 10 (refine wpQuiet_step (fun K hK => ?_); go_simp; refine hK _ ?_; clear hK K)
  refine wpQuiet_nil ?_
  intro w1 hw1
  have ho1 := only_of_plus hw1; clear hw1
  go_wp2
  go_ret2
  exact ⟨rfl, ho1⟩
end Go.Proofs.Ytpiilepmaomfeaa
