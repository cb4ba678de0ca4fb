/- The reference queue (package timesyncref15): remove. Conditions: as stated. -/
import Derived.Test.YtpiilepmaomfeaaAgT
namespace Go.Proofs.Ytpiilepmaomfeaa
open Go.RowKit

theorem flat_one (l : List Ev) : ∀ u ∈ l.flatMap evc, u.oneCell' = true := by
  intro u hu
  obtain ⟨e, _, he⟩ := List.mem_flatMap.1 hu
  simp [evc] at he
  rcases he with rfl | rfl | rfl <;> rfl

theorem flat_drop (l : List Ev) (k j : Nat) : ((l.drop k).flatMap evc)[j]? = (l.flatMap evc)[k * 3 + j]? := by
  induction l generalizing k with
  | nil => simp
  | cons x l ih =>
    cases k with
    | zero => simp
    | succ k =>
      rw [List.drop_succ_cons, ih k, List.flatMap_cons, List.getElem?_append_right (by simp [evc]; omega)]
      congr 1
      simp [evc]; omega

set_option maxHeartbeats 1500000 in
theorem rremove_any {w : World} {p : Nat} {v : Value} {lim tm pu : Int} {l : List Ev} (h : RQ w p v lim tm pu l) {i : Nat} (hi : i < l.length) :
    Calls Try.prog 28 #[.pointer (some ⟨p, 0, none⟩), .int .i64 i] w fun e w' => e = .returned (.tuple #[]) ∧
      ∃ v', RQ w' p v' lim tm pu (l.take i ++ l.drop (i + 1)) ∧ Only [p] w w' ∧ ∀ k ∈ v'.ownBlock.toList, w.heap.size ≤ k := by
  obtain ⟨i0, hi0, hz0, hz1, hz2⟩ := info_parts Try.info31
  have HI0 := Lib.hid hi0; have HZ0 := Lib.hid hz0; have HZ1 := Lib.hid hz1; have HZ2 := Lib.hid hz2; clear hi0 hz0 hz1 hz2
  have hn := h.le
  obtain ⟨g, cap, rfl, hr⟩ : ∃ g cap, v = .slice (some ⟨g, 0, none⟩) l.length cap ∧ RowAt evc 31 3 w g cap l := by
    rcases h.row.val with ⟨_, rfl⟩ | h
    · simp at hi
    · exact h
  have c3 := cell_got h.qc 3
  have hps := got_lt h.qc
  have hgs := hr.lt
  have hgp : g ≠ p := fun e => h.vp (by simp [Value.ownBlock, e])
  obtain ⟨hlc, hcm⟩ : l.length ≤ cap ∧ cap ≤ 9223372036854775807 := by obtain ⟨cur, _, _, h1, h2, _⟩ := hr; simp only [maxLen] at h2; exact ⟨h1, by omega⟩
  have H := Lib.hid h; have HR := Lib.hid hr; clear h hr
  have hle : i ≤ cap := by omega
  go_enter Try.func28, Try.ntmps28
  go_wp2_with (at_builtin; refine stop_here ?_)
  refine stop_go ?_
  refine alloc_abs (G := wpList _ _ _ _ _) ?_
  intro w1 hb1 ho1 hs1
  have hs1' : w.heap.size < w1.heap.size := by omega
  have hown1 : w1.ownsRow 0 31 3 (.slice (some ⟨w.heap.size, 0, none⟩) 0 0) 0 [] := ⟨rfl, .inr ⟨w.heap.size, 0, #[], rfl, Nat.zero_le _, hb1, Nat.le_refl _, Nat.zero_le _, rfl, rfl⟩⟩
  have htk : (l.take i).length = i := by rw [List.length_take]; omega
  have hrow1 := ((HR.out.kept ho1 (by simp)).take evc_len i).owns evc_len (Nat.zero_le _)
  refine wpList_append_own_at _ rfl _ _ 59 rfl 0 31 i0 (.agg #[.int .i64 0, .int .i64 0, .int .i64 0]) 3 24 Try.underlying59 HI0.out HZ0.out HZ1.out HZ2.out rfl (by decide) (.slice (some ⟨w.heap.size, 0, none⟩) 0 0) 0 [] rfl hown1 ⟨g, 0, none⟩ i cap ((l.take i).flatMap evc) rfl (by rw [flat_length evc 3 evc_len, htk]) (hrow1.cells rfl) (flat_one _) (by simp [maxLen]; omega) (by omega) (Nat.zero_le _) ?_
  intro v1 w2 hown2 hgr2 hnil2 hblk2
  have ho2 : Only [w.heap.size] w1 w2 := (Only.refl _ w1).grown hgr2 (by intro k hk; left; simp [Value.ownBlock] at hk; simp [hk])
  have hv1 : ∃ g1 cap1, v1 = .slice (some ⟨g1, 0, none⟩) i cap1 ∧ w.heap.size ≤ g1 ∧ RowAt evc 31 3 w2 g1 cap1 (l.take i) := by
    have hrr : RRow w2 v1 (l.take i) := by unfold RRow; rw [htk]; simpa using hown2
    rcases hrr.val with ⟨rfl, _⟩ | ⟨g1, cap1, rfl, hr⟩
    · exact absurd (hnil2.1 rfl).1 (by simp)
    · rw [htk]
      refine ⟨g1, cap1, rfl, ?_, hr⟩
      simp [Value.ownBlock] at hblk2
      omega
  obtain ⟨g1, cap1, rfl, hg1, hr1⟩ := hv1
  clear hown2 hgr2 hnil2 hblk2
  have HR1 := Lib.hid hr1; have HTK := Lib.hid htk; clear hr1 htk hrow1 hown1 c3
  have hqc2 := ho2.got (ho1.got H.out.qc (by simp)) (by simp; omega)
  have d3 := cell_got hqc2 3
  have f3 := frozen_got hqc2 3
  have hps2 := got_lt hqc2
  have HQ2 := Lib.hid hqc2; have HB1 := Lib.hid hb1; have HS1 := Lib.hid hs1; clear hqc2 hb1 hs1
  have hic : i + 1 ≤ cap := by omega
  have hil : i + 1 ≤ l.length := by omega
  go_wp2_with (at_builtin; refine stop_here ?_)
  · refine stop_go ?_
    have hown2 : w2.ownsRow 0 31 3 (.slice (some ⟨g1, 0, none⟩) i cap1) i ((l.take i).flatMap evc) := by have := HR1.out.owns (base := 0) evc_len (Nat.zero_le _); rw [HTK.out] at this; exact this
    refine wpList_append_own_at _ rfl _ _ 59 rfl 0 31 i0 (.agg #[.int .i64 0, .int .i64 0, .int .i64 0]) 3 24 Try.underlying59 HI0.out HZ0.out HZ1.out HZ2.out rfl (by decide) (.slice (some ⟨g1, 0, none⟩) i cap1) i ((l.take i).flatMap evc) rfl hown2 ⟨g, 0, none⟩ (l.length - (i + 1)) 0 ((l.drop (i + 1)).flatMap evc) rfl (by rw [flat_length evc 3 evc_len, List.length_drop]) ?_ (flat_one _) (by simp [maxLen]; omega) (by omega) (Nat.zero_le _) ?_
    · intro j u hj
      rw [List.drop_eq_nil_of_le (by omega)] at hj
      simp at hj
    intro v3 w3 hown3 hgr3 hnil3 hblk3
    have ho3 : Only [g1] w2 w3 := (Only.refl _ w2).grown hgr3 (by intro k hk; left; simp [Value.ownBlock] at hk; simp [hk])
    have hs2 := ho2.size
    have hv3 : ∃ g3 cap3 n3, n3 = (l.take i ++ l.drop (i + 1)).length ∧ v3 = .slice (some ⟨g3, 0, none⟩) n3 cap3 ∧ w.heap.size ≤ g3 ∧ RowAt evc 31 3 w3 g3 cap3 (l.take i ++ l.drop (i + 1)) := by
      have hrr : RRow w3 v3 (l.take i ++ l.drop (i + 1)) := by unfold RRow; rw [List.length_append, HTK.out, List.length_drop, List.flatMap_append]; exact hown3
      rcases hrr.val with ⟨rfl, _⟩ | ⟨g3, cap3, rfl, hr⟩
      · exact absurd (hnil3.1 rfl).1 (by simp)
      · refine ⟨g3, cap3, _, rfl, rfl, ?_, hr⟩
        simp [Value.ownBlock] at hblk3
        omega
    obtain ⟨g3, cap3, n3, hn3, rfl, hg3, hr3⟩ := hv3
    have HN3 := Lib.hid hn3; clear hn3
    have hqc3 := ho3.got HQ2.out (by simp; omega)
    have HR3 := Lib.hid hr3; have HQ3 := Lib.hid hqc3
    clear d3 f3 hown2 hown3 hgr3 hnil3 hblk3 hr3
    have d3 := cell_got hqc3 3
    have f3 := frozen_got hqc3 3
    have hps3 := got_lt hqc3
    clear hqc3
    go_wp2
    go_end0
    have hoc : Only [p] w3 (w3.setCell ⟨p, 3, none⟩ (.slice (some ⟨g3, 0, none⟩) n3 cap3)) := (Only.refl [p] w3).setCell (by simp) _
    refine ⟨rfl, .slice (some ⟨g3, 0, none⟩) n3 cap3, ⟨setCell_got _ HQ3.out, ?_, ?_, ?_⟩, ?_, ?_⟩
    · have := (HR3.out.kept hoc (by simp; omega)).owns (base := 0) evc_len (Nat.zero_le _); rw [← HN3.out] at this; unfold RRow; rw [← HN3.out]; exact this
    · simp [Value.ownBlock]; omega
    · rw [List.length_append, HTK.out, List.length_drop]; omega
    · have o2 : Only [p] w w2 := (ho1.weak (S' := [p]) (by simp)).trans ho2 (fun x hx => .inr (by simp at hx; omega))
      exact (o2.trans ho3 (fun x hx => .inr (by simp at hx; omega))).setCell (by simp) _
    · intro k hk
      simp [Value.ownBlock] at hk
      omega
  · refine stop_go ?_
    have hown2 : w2.ownsRow 0 31 3 (.slice (some ⟨g1, 0, none⟩) i cap1) i ((l.take i).flatMap evc) := by have := HR1.out.owns (base := 0) evc_len (Nat.zero_le _); rw [HTK.out] at this; exact this
    refine wpList_append_own_at _ rfl _ _ 59 rfl 0 31 i0 (.agg #[.int .i64 0, .int .i64 0, .int .i64 0]) 3 24 Try.underlying59 HI0.out HZ0.out HZ1.out HZ2.out rfl (by decide) (.slice (some ⟨g1, 0, none⟩) i cap1) i ((l.take i).flatMap evc) rfl hown2 ⟨g, (i + 1) * 3, none⟩ (l.length - (i + 1)) (cap - (i + 1)) ((l.drop (i + 1)).flatMap evc) rfl (by rw [flat_length evc 3 evc_len, List.length_drop]) ?_ (flat_one _) (by simp [maxLen]; omega) (by omega) (Nat.zero_le _) ?_
    · intro j u hj
      have hrow2 := ((HR.out.kept ho1 (by simp)).kept ho2 (by simp; omega)).owns (base := 0) evc_len (Nat.zero_le _)
      have := hrow2.cells (g := g) rfl ((i + 1) * 3 + j) u (by rw [← flat_drop]; exact hj)
      rw [addr_add] at this ⊢
      simpa using this
    intro v3 w3 hown3 hgr3 hnil3 hblk3
    have ho3 : Only [g1] w2 w3 := (Only.refl _ w2).grown hgr3 (by intro k hk; left; simp [Value.ownBlock] at hk; simp [hk])
    have hs2 := ho2.size
    have hv3 : ∃ g3 cap3 n3, n3 = (l.take i ++ l.drop (i + 1)).length ∧ v3 = .slice (some ⟨g3, 0, none⟩) n3 cap3 ∧ w.heap.size ≤ g3 ∧ RowAt evc 31 3 w3 g3 cap3 (l.take i ++ l.drop (i + 1)) := by
      have hrr : RRow w3 v3 (l.take i ++ l.drop (i + 1)) := by unfold RRow; rw [List.length_append, HTK.out, List.length_drop, List.flatMap_append]; exact hown3
      rcases hrr.val with ⟨rfl, _⟩ | ⟨g3, cap3, rfl, hr⟩
      · exact absurd (hnil3.1 rfl).1 (by simp)
      · refine ⟨g3, cap3, _, rfl, rfl, ?_, hr⟩
        simp [Value.ownBlock] at hblk3
        omega
    obtain ⟨g3, cap3, n3, hn3, rfl, hg3, hr3⟩ := hv3
    have HN3 := Lib.hid hn3; clear hn3
    have hqc3 := ho3.got HQ2.out (by simp; omega)
    have HR3 := Lib.hid hr3; have HQ3 := Lib.hid hqc3
    clear d3 f3 hown2 hown3 hgr3 hnil3 hblk3 hr3
    have d3 := cell_got hqc3 3
    have f3 := frozen_got hqc3 3
    have hps3 := got_lt hqc3
    clear hqc3
    go_wp2
    go_end0
    have hoc : Only [p] w3 (w3.setCell ⟨p, 3, none⟩ (.slice (some ⟨g3, 0, none⟩) n3 cap3)) := (Only.refl [p] w3).setCell (by simp) _
    refine ⟨rfl, .slice (some ⟨g3, 0, none⟩) n3 cap3, ⟨setCell_got _ HQ3.out, ?_, ?_, ?_⟩, ?_, ?_⟩
    · have := (HR3.out.kept hoc (by simp; omega)).owns (base := 0) evc_len (Nat.zero_le _); rw [← HN3.out] at this; unfold RRow; rw [← HN3.out]; exact this
    · simp [Value.ownBlock]; omega
    · rw [List.length_append, HTK.out, List.length_drop]; omega
    · have o2 : Only [p] w w2 := (ho1.weak (S' := [p]) (by simp)).trans ho2 (fun x hx => .inr (by simp at hx; omega))
      exact (o2.trans ho3 (fun x hx => .inr (by simp at hx; omega))).setCell (by simp) _
    · intro k hk
      simp [Value.ownBlock] at hk
      omega
end Go.Proofs.Ytpiilepmaomfeaa
