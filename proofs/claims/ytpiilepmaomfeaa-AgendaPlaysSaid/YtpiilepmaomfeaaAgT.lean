/- The reference queue (package timesyncref15): first and remove. Conditions: as stated. -/
import Derived.Test.YtpiilepmaomfeaaAgS
import Derived.BigQuiet
import Derived.Test.YtpiilepmaomfeaaLaw
namespace Go.Proofs.Ytpiilepmaomfeaa
open Go.RowKit

/-- place `k` is the first of the least time, of the first `n` -/
def FirstAt (l : List Ev) (n k : Nat) : Prop := k < n ∧ ∀ j, j < n → (el l k).t ≤ (el l j).t ∧ (j < k → (el l k).t < (el l j).t)

theorem FirstAt.keep {l : List Ev} {n k : Nat} (h : FirstAt l n k) (hn : ¬ (el l n).t < (el l k).t) : FirstAt l (n + 1) k := by
  refine ⟨by have := h.1; omega, fun j hj => ?_⟩
  by_cases hjn : j = n
  · subst hjn; have := h.1; exact ⟨by omega, fun h' => by omega⟩
  · exact h.2 j (by omega)
theorem FirstAt.next {l : List Ev} {n k : Nat} (h : FirstAt l n k) (hn : (el l n).t < (el l k).t) : FirstAt l (n + 1) n := by
  refine ⟨by omega, fun j hj => ?_⟩
  by_cases hjn : j = n
  · subst hjn; exact ⟨by omega, fun h' => by omega⟩
  · have := (h.2 j (by omega)).1
    exact ⟨by omega, fun _ => by omega⟩
theorem FirstAt.one {l : List Ev} : FirstAt l 1 0 := by
  refine ⟨by omega, fun j hj => ?_⟩
  have : j = 0 := by omega
  subst this
  exact ⟨by omega, fun h => by omega⟩

set_option maxHeartbeats 1000000 in
theorem rfirst_any {w : World} {p : Nat} {v : Value} {lim tm pu : Int} {l : List Ev} (h : RQ w p v lim tm pu l) :
    Calls Try.prog 27 #[.pointer (some ⟨p, 0, none⟩)] w fun e w' => ∃ r : Int, e = .returned (.int .i64 r) ∧ Only [] w w' ∧ ((l = [] ∧ r = -1) ∨ ∃ k : Nat, r = k ∧ FirstAt l l.length k) := by
  have hn := h.le
  have H := Lib.hid h; clear h
  go_enter Try.func27, Try.ntmps27
  go_wp2
  go_loopw [3, 4] (fun vb vi wr => ∃ (i : Nat) (b : Int), vb = .int .i64 b ∧ vi = .int .i64 i ∧ i ≤ l.length ∧ Only [] w wr ∧ ((i = 0 ∧ b = -1) ∨ ∃ k : Nat, b = k ∧ FirstAt l i k)) (fun _ vi _ => l.length - (intOf vi).toNat)
  case atStart => exact ⟨0, -1, rfl, rfl, Nat.zero_le _, Only.refl _ _, .inl ⟨rfl, rfl⟩⟩
  case round =>
    obtain ⟨i, b, rfl, rfl, hi, hoi, hcase⟩ := hrel
    have hq := H.out.kept hoi (by simp) (by simp)
    have HO := Lib.hid hoi; clear hoi
    have c3 := cell_got hq.qc 3
    have hps := got_lt hq.qc
    by_cases hil : i < l.length
    · obtain ⟨g, cap, rfl, hr⟩ : ∃ g cap, v = .slice (some ⟨g, 0, none⟩) l.length cap ∧ RowAt evc 31 3 wr g cap l := by
        rcases hq.row.val with ⟨_, rfl⟩ | h
        · simp at hil
        · exact h
      have hgs := hr.lt
      have r0 := hr.cell evc_len (el_some hil) (j := 0) (by omega)
      simp only [Nat.add_zero, evc] at r0
      rcases hcase with ⟨rfl, rfl⟩ | ⟨k, rfl, hf⟩
      · clear hq hr
        go_wp2
        refine wp_region_grown [0,1,2,3,4,5,6,7,8,9,10,11,12,13,14,15,16,17,18,19,20] [] (by kernel_rfl) (by kernel_rfl) ?_
        simp only [pick, List.map_cons, List.map_nil, List.getD_cons_succ, List.getD_cons_zero]
        repeat (go_big_quiet_step (fail))
        refine wpQuiet_nil ?_
        intro w1 hw1
        have ho1 := only_of_plus hw1; clear hw1
        go_wp2
        go_roundw
        case rel => exact ⟨1, 0, rfl, by go_num, by omega, HO.out.nil_trans ho1, .inr ⟨0, rfl, FirstAt.one⟩⟩
        case measure => simp [intOf]; omega
      · have hkl : k < l.length := by have := hf.1; omega
        have s0 := hr.cell evc_len (el_some hkl) (j := 0) (by omega)
        simp only [Nat.add_zero, evc] at s0
        have hk0 : decide ((k : Int) < 0) = false := by simp
        have HF := Lib.hid hf; clear hq hr hf
        by_cases ht : (el l i).t < (el l k).t
        · go_wp2
          refine wp_region_grown [0,1,2,3,4,5,6,7,8,9,10,11,12,13,14,15,16,17,18,19,20] [] (by kernel_rfl) (by kernel_rfl) ?_
          simp only [pick, List.map_cons, List.map_nil, List.getD_cons_succ, List.getD_cons_zero]
          repeat (go_big_quiet_step (fail))
          refine wpQuiet_nil ?_
          intro w1 hw1
          have ho1 := only_of_plus hw1; clear hw1
          go_wp2
          go_roundw
          case rel => exact ⟨i + 1, i, rfl, by go_num, by omega, HO.out.nil_trans ho1, .inr ⟨i, rfl, HF.out.next ht⟩⟩
          case measure => simp [intOf]; omega
        · go_wp2
          refine wp_region_grown [0,1,2,3,4,5,6,7,8,9,10,11,12,13,14,15,16,17,18,19,20] [] (by kernel_rfl) (by kernel_rfl) ?_
          simp only [pick, List.map_cons, List.map_nil, List.getD_cons_succ, List.getD_cons_zero]
          repeat (go_big_quiet_step (fail))
          refine wpQuiet_nil ?_
          intro w1 hw1
          have ho1 := only_of_plus hw1; clear hw1
          go_wp2
          go_roundw
          case rel => exact ⟨i + 1, k, rfl, by go_num, by omega, HO.out.nil_trans ho1, .inr ⟨k, rfl, HF.out.keep (by omega)⟩⟩
          case measure => simp [intOf]; omega
    · have hie : i = l.length := by omega
      subst hie
      obtain ⟨pt, cap, rfl⟩ : ∃ pt cap, v = .slice pt l.length cap := by
        rcases hq.row.val with ⟨rfl, rfl⟩ | ⟨g, cap, rfl, hr⟩
        · exact ⟨_, _, rfl⟩
        · exact ⟨_, _, rfl⟩
      have HC := Lib.hid hcase; clear hq hcase
      go_wp2
      go_ret
      refine ⟨b, rfl, HO.out, ?_⟩
      rcases HC.out with ⟨h1, h2⟩ | h
      · exact .inl ⟨List.eq_nil_of_length_eq_zero h1, h2⟩
      · exact .inr h
end Go.Proofs.Ytpiilepmaomfeaa
