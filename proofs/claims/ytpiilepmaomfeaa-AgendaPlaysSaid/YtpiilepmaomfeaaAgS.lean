/- The reference queue (package timesyncref15): Push where it is taken. Conditions: as stated. -/
import Derived.Test.YtpiilepmaomfeaaAgR
namespace Go.Proofs.Ytpiilepmaomfeaa
open Go.RowKit

theorem Try.info31 : (Try.prog.info? 31).map (fun i => (i.zero, i.size, i.bytes)) = some (some (.agg #[.int .i64 0, .int .i64 0, .int .i64 0]), 3, 24) := by kernel_rfl

theorem rrow_kept {w w' : World} {S : List Nat} {v : Value} {l : List Ev} (h : RRow w v l) (ho : Only S w w') (h2 : ∀ k ∈ v.ownBlock.toList, k ∉ S) : RRow w' v l := by
  rcases h.val with ⟨rfl, rfl⟩ | ⟨g, cap, rfl, hr⟩
  · exact World.ownsRow_nil _ _ _ _
  · exact (hr.kept ho (h2 g (by simp [Value.ownBlock]))).owns evc_len (Nat.zero_le _)

set_option maxHeartbeats 1500000 in
theorem rpush_ok {w : World} {p : Nat} {v : Value} {lim tm pu : Int} {l : List Ev} (h : RQ w p v lim tm pu l) (at_ item : Int) (h0 : 0 ≤ at_) (h1 : tm ≤ at_) (h2 : l.length < lim) (hp0 : 0 ≤ pu) (hp1 : pu ≤ 1000000000) (hn : l.length < 1000000) :
    Calls Try.prog 18 #[.pointer (some ⟨p, 0, none⟩), .int .i64 at_, .int .i64 item] w fun e w' => e = .returned (.tuple #[.int .i64 (pu + 1), .int .i64 0]) ∧
      ∃ v', RQ w' p v' lim tm (pu + 1) (l ++ [⟨at_, pu + 1, item⟩]) ∧ Only (p :: v.ownBlock.toList) w w' ∧ (∀ k ∈ v'.ownBlock.toList, k ∈ v.ownBlock.toList ∨ w.heap.size ≤ k) := by
  obtain ⟨i0, hi0, hz0, hz1, hz2⟩ := info_parts Try.info31
  have HI0 := Lib.hid hi0; have HZ0 := Lib.hid hz0; have HZ1 := Lib.hid hz1; have HZ2 := Lib.hid hz2; clear hi0 hz0 hz1 hz2
  have c0 := cell_got h.qc 0
  have c1 := cell_got h.qc 1
  have c2 := cell_got h.qc 2
  have c3 := cell_got h.qc 3
  have f2 := frozen_got h.qc 2
  have hps := got_lt h.qc
  obtain ⟨pt, cap, rfl⟩ : ∃ pt cap, v = .slice pt l.length cap := by
    rcases h.row.val with ⟨rfl, rfl⟩ | ⟨g, cap, rfl, hr⟩
    · exact ⟨_, _, rfl⟩
    · exact ⟨_, _, rfl⟩
  have H := Lib.hid h; clear h
  go_enter Try.func18, Try.ntmps18
  go_wp2
  refine wp_region_grown [0,1,2,3,4,5,6,7,8,9] [] (by kernel_rfl) (by kernel_rfl) ?_
  simp only [pick, List.map_cons, List.map_nil, List.getD_cons_succ, List.getD_cons_zero]
  iterate 10 (refine wpQuiet_step (fun K hK => ?_); go_simp; refine hK _ ?_; clear hK K)
  refine wpQuiet_nil ?_
  intro w1 hw1
  have ho1 := only_of_plus hw1; clear hw1
  clear c0 c1 c2 c3 f2
  have hq1 := H.out.kept ho1 (by simp) (by simp)
  have c2 := cell_got hq1.qc 2
  have f2 := frozen_got hq1.qc 2
  have hps1 := got_lt hq1.qc
  have HQ1 := Lib.hid hq1; clear hq1
  go_wp2
  refine wabs (G := Code.wp _ _ _ _) (R := fun w2 => w2.heap[p]? = some (.cells #[.int .i64 lim, .int .i64 tm, .int .i64 (pu + 1), .slice pt l.length cap] 61 (0, 0)) ∧ Only [p] w1 w2) ⟨setCell_got _ HQ1.out.qc, (Only.refl [p] w1).setCell (by simp) _⟩ ?_
  rintro w2 ⟨hq2, ho2⟩
  clear c2 f2
  have hvp : p ∉ (Value.slice pt l.length cap).ownBlock.toList := by have := H.out.vp; simp only [Option.mem_toList]; exact this
  have hrow2 : RRow w2 (.slice pt l.length cap) l := rrow_kept HQ1.out.row ho2 (fun k hk h => by simp at h; subst h; exact hvp hk)
  obtain ⟨S, hS⟩ : ∃ S, S = (Value.slice pt l.length cap).ownBlock.toList := ⟨_, rfl⟩
  have hpS : p ∉ S := by rw [hS]; exact hvp
  have d2 := cell_got hq2 2
  have d3 := cell_got hq2 3
  have hps2 := got_lt hq2
  have HS := Lib.hid hS; have HR2 := Lib.hid hrow2; have HQ2 := Lib.hid hq2; clear hS hrow2 hq2
  refine wp_region_calm2 [0,1,2,3,4,5,6,7,8,9,10,11] [14,15,16] (OnlyC S w2) (by kernel_rfl) (by kernel_rfl) ?_
  simp only [pick, List.map_cons, List.map_nil, List.getD_cons_succ, List.getD_cons_zero]
  iterate 12 (refine wpCalm_step (fun K hK => ?_); go_simp; refine hK _ ?_; clear hK K)
  refine wpCalm_nil ?_
  clear d2 d3
  refine Rest.by (X := Nat × Nat) (fun y a => (((((a.put (some 48) (.slice (some ⟨w2.heap.size, 0, none⟩) 1 1)).put (some 49) (.slice (some ⟨y.1, 0, none⟩) (l.length + 1) y.2)).put (some 50) (.pointer (some ⟨p, 0, none⟩))).put (some 51) (.pointer (some ⟨p, 3, none⟩))))) (fun y w' => w'.heap[p]? = some (.cells #[.int .i64 lim, .int .i64 tm, .int .i64 (pu + 1), .slice (some ⟨y.1, 0, none⟩) (l.length + 1) y.2] 61 (0, 0)) ∧ w'.ownsRow 0 31 3 (.slice (some ⟨y.1, 0, none⟩) (l.length + 1) y.2) (l.length + 1) (l.flatMap evc ++ evc ⟨at_, pu + 1, item⟩) ∧ Only (p :: S) w2 w' ∧ (y.1 ∈ S ∨ w2.heap.size ≤ y.1)) ?_ ?_
  · rintro ⟨g', cap'⟩ w3 ⟨k1, k2, k3, k4⟩
    simp only at k1 k2 k4
    simp only [Act.put, List.setIfInBounds_toArray, List.set_cons_succ, List.set_cons_zero]
    have e2 := cell_got k1 2
    have hps3 := got_lt k1
    have K1 := Lib.hid k1; have K2 := Lib.hid k2; have K4 := Lib.hid k4; clear k1 k2 k4
    go_wp2
    go_ret2
    have hs : w.heap.size ≤ w2.heap.size := by have := ho1.size; have := ho2.size; omega
    refine ⟨rfl, .slice (some ⟨g', 0, none⟩) (l.length + 1) cap', ⟨K1.out, ?_, ?_, by simp; omega⟩, ?_, ?_⟩
    · have := K2.out
      unfold RRow
      rw [List.flatMap_append, List.length_append]
      simpa using this
    · simp only [Value.ownBlock]
      intro e
      simp only [Option.some.injEq] at e
      rcases K4.out with h | h
      · rw [e] at h; exact hpS h
      · omega
    · rw [← HS.out]
      have o2 : Only (p :: S) w w2 := (ho1.weak (S' := p :: S) (by simp)).trans ho2 (by simp)
      exact o2.trans k3 (fun _ h => .inl h)
    · intro k hk
      simp [Value.ownBlock] at hk
      subst hk
      rw [← HS.out]
      rcases K4.out with h | h
      · exact .inl h
      · exact .inr (by omega)
  · have hC0 : Only S w2 w2 := Only.refl _ _
    refine wpAnyC_next [12] (by kernel_rfl) (by simp) (.inr (onlyC hC0.drew)) ?_
    simp only [List.mem_cons, List.not_mem_nil, or_false, forall_eq]
    refine wpOp_one rfl ?_
    go_wp2
    simp only [nrm]
    refine allocd_abs (G := wpAnyC _ _ _ _ _ _ _ _ _) ?_
    intro w3 hn1 ho3 hs1
    refine wpAnyC_next [13] (by kernel_rfl) (by simp) (.inr (onlyC (ho3.weak (by simp)))) ?_
    simp only [List.mem_cons, List.not_mem_nil, or_false, forall_eq]
    refine wpOp_one rfl ?_
    have hown1 : w3.ownsRow 0 31 3 (.slice pt l.length cap) l.length (l.flatMap evc) := rrow_kept HR2.out ho3 (by simp)
    refine wpList_append_row rfl (.tmp 40) (.tmp 48) 59 rfl 31 i0 (.agg #[.int .i64 0, .int .i64 0, .int .i64 0]) 3 24 Try.underlying59 HI0.out HZ0.out HZ1.out HZ2.out rfl (by decide) _ _ _ rfl hown1 ⟨w2.heap.size, 0, none⟩ 1 1 (evc ⟨at_, pu + 1, item⟩) rfl rfl ?_ (by simp [evc, Value.oneCell']) (by simp [maxLen]; omega) (by omega) (by decide) ?_
    · intro j u hj
      have hadd : (⟨w2.heap.size, 0, none⟩ : Addr).add j = ⟨w2.heap.size, j, none⟩ := by unfold Addr.add; split <;> simp_all
      rw [hadd, cell_got hn1]
      simpa [evc] using hj
    intro g' cap' w4 hown2 ho4 hblk
    have ho4 : Only S w3 w4 := by rw [HS.out]; exact ho4
    have hblk : (Value.slice pt l.length cap).ownBlock = some g' ∨ g' = w3.heap.size := hblk
    have hqc4 := ho4.got (ho3.got HQ2.out (by simp)) hpS
    have d3 := cell_got hqc4 3
    have f3 := frozen_got hqc4 3
    have hps4 := got_lt hqc4
    have HO2 := Lib.hid hown2; have HB2 := Lib.hid hblk; have HQC := Lib.hid hqc4; clear hown2 hblk hqc4
    go_wp2
    simp only [nrm]
    refine wpAnyC_next [14] (by kernel_rfl) (by simp) (.inr (onlyC (ho3.nil_left ho4))) ?_
    simp only [List.mem_cons, List.not_mem_nil, or_false, forall_eq]
    refine wpOp_one rfl ?_
    go_wp2
    simp only [nrm]
    refine wpAnyC_next [15] (by kernel_rfl) (by simp) (.inr (onlyC (ho3.nil_left ho4))) ?_
    simp only [List.mem_cons, List.not_mem_nil, or_false, forall_eq]
    refine wpOp_one rfl ?_
    go_wp2
    simp only [nrm]
    refine wpAnyC_next [16] (by kernel_rfl) (by simp) (.inr (onlyC (ho3.nil_left ho4))) ?_
    simp only [List.mem_cons, List.not_mem_nil, or_false, forall_eq]
    refine wpOp_one rfl ?_
    go_wp2
    simp only [nrm]
    have hvb : g' ∈ S ∨ w2.heap.size ≤ g' := by
      rcases HB2.out with h | h
      · left; rw [HS.out]; simp [h]
      · right; rw [h]; exact ho3.size
    have hvq : g' ≠ p := by
      rcases hvb with h | h
      · rintro rfl; exact hpS h
      · omega
    refine wpAnyC_done (by kernel_rfl) (.inl (late_of (by kernel_rfl))) ⟨(g', cap'), rfl, ?_, ?_, ?_, by simpa using hvb⟩
    · exact setCell_got _ HQC.out
    · exact HO2.out.kept (row := some p) ⟨rfl, rfl, rfl, by simp [World.setCell], fun k _ hk => Below.heap_setCell _ _ _ _ (fun e => hk (by rw [e]))⟩ (.inr (by simpa [Value.ownBlock] using hvq))
    · exact (ho3.nil_left (ho4.weak (S' := p :: S) (fun _ h => by simp [h]))).setCell (by simp) _
end Go.Proofs.Ytpiilepmaomfeaa
