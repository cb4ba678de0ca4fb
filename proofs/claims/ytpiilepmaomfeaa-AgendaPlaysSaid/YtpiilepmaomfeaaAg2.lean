/- The heap of package agenda: swap and before. Conditions: as stated. -/
import Derived.Test.YtpiilepmaomfeaaAgM
import Derived.Test.YtpiilepmaomfeaaCalm
namespace Go.Proofs.Ytpiilepmaomfeaa
open Go.RowKit

set_option maxHeartbeats 400000 in
theorem swap_any {w : World} {q g cap b : Nat} {a2 a3 a4 : Value} {l : List Ev} (h : HRep w q g cap b a2 a3 a4 l) {i j : Nat} {ei ej : Ev} (hi : l[i]? = some ei) (hj : l[j]? = some ej) :
    Calls Try.prog 31 #[.pointer (some ⟨q, 0, none⟩), .int .i64 i, .int .i64 j] w fun e w' => e = .returned (.tuple #[]) ∧ HRep w' q g cap b a2 a3 a4 (sw l i j) ∧ Only [g, b] w w' := by
  have hbg := h.bg.1
  have hbq := h.bg.2
  obtain ⟨hq, hrow, ⟨D, hD, hok, hsz⟩, hqg, hn⟩ := h
  have hqs := got_lt hq
  have hil : i < l.length := (List.getElem?_eq_some_iff.1 hi).1
  have hjl : j < l.length := (List.getElem?_eq_some_iff.1 hj).1
  have c0 := cell_got hq 0
  have r0 := hrow.cell evc_len hi (j := 0) (by omega)
  have r1 := hrow.cell evc_len hi (j := 1) (by omega)
  have r2 := hrow.cell evc_len hi (j := 2) (by omega)
  have s0 := hrow.cell evc_len hj (j := 0) (by omega)
  have s1 := hrow.cell evc_len hj (j := 1) (by omega)
  have s2 := hrow.cell evc_len hj (j := 2) (by omega)
  simp only [Nat.add_zero, evc] at r0 s0 r1 r2 s1 s2
  have hgs := hrow.lt
  have hbs : b < w.heap.size := World.ownsMap.lt hD
  have HD := Lib.hid hD; have HO := Lib.hid hok; have HZ := Lib.hid hsz; clear hD hok hsz
  have HQ := Lib.hid hq; have HR := Lib.hid hrow; have HI := Lib.hid hi; have HJ := Lib.hid hj
  clear hq hrow hi hj
  go_enter Try.func31, Try.ntmps31
  go_wp2
  refine wp_region_calm2 [0,1,2,3,4,5,6,7,8,9,10,11,12,13] [] (OnlyC [] w) (by kernel_rfl) (by kernel_rfl) ?_
  simp only [pick, List.map_cons, List.map_nil, List.getD_cons_succ, List.getD_cons_zero]
  iterate 14 (refine wpCalm_step (fun K hK => ?_); go_simp; refine hK _ ?_; clear hK K)
  refine wpCalm_nil ?_
  refine Rest.by (X := Nat × Nat) (fun x a => (a.put (some 6) (.pointer (some ⟨x.1, 0, none⟩))).put (some 7) (.pointer (some ⟨x.2, 0, none⟩))) (fun x w' => x.1 ≠ x.2 ∧ w.heap.size ≤ x.1 ∧ w.heap.size ≤ x.2 ∧ w'.heap[x.1]? = some (.cells #[.int .i64 ei.t, .int .i64 ei.i, .int .i64 ei.x] 57 (0, 0)) ∧ w'.heap[x.2]? = some (.cells #[.int .i64 ej.t, .int .i64 ej.i, .int .i64 ej.x] 57 (0, 0)) ∧ Only [] w w') ?_ ?_
  · rintro ⟨B1, B2⟩ w1 ⟨h1, h2, h3, h4, h5, h6⟩
    simp only at h1 h2 h3 h4 h5
    simp only [Act.put, List.setIfInBounds_toArray, List.set_cons_succ, List.set_cons_zero]
    have H4 := Lib.hid h4; have H5 := Lib.hid h5; clear h4 h5
    have x0 := cell_got H4.out 0; have x1 := cell_got H4.out 1; have x2 := cell_got H4.out 2
    have y0 := cell_got H5.out 0; have y1 := cell_got H5.out 1; have y2 := cell_got H5.out 2
    clear c0 r0 r1 r2 s0 s1 s2
    go_wp2_with fail
    have hkj := HO.out.wf ej (List.mem_of_getElem? HJ.out)
    have hki := HO.out.wf ei (List.mem_of_getElem? HI.out)
    refine (put_any q g cap l.length b i l.length ej.t ej.i ej.x _ l D w1 (h6.got HQ.out (by simp)) rfl rfl hqg (HR.out.kept h6 (by simp)) hbg (EMap.kept HD.out h6 (by simp)) (by simp [maxLen]; omega) hkj hil rfl (by omega)).mono ?_
    rintro e w2 ⟨rfl, hrow2, hmap2, ho2⟩
    have z0 := cell_got (ho2.got H4.out (by simp; omega)) 0; have z1 := cell_got (ho2.got H4.out (by simp; omega)) 1; have z2 := cell_got (ho2.got H4.out (by simp; omega)) 2
    clear x0 x1 x2 y0 y1 y2
    have HR2 := Lib.hid hrow2; have HM2 := Lib.hid hmap2; clear hrow2 hmap2
    go_wp2_with fail
    refine (put_any q g cap l.length b j (l.length + 1) ei.t ei.i ei.x _ _ _ w2 (ho2.got (h6.got HQ.out (by simp)) (by simp; omega)) rfl rfl hqg HR2.out hbg HM2.out (by simp [maxLen]; omega) hki hjl (by simp) (by omega)).mono ?_
    rintro e w3 ⟨rfl, hrow3, hmap3, ho3⟩
    have HR3 := Lib.hid hrow3; have HM3 := Lib.hid hmap3; clear hrow3 hmap3
    go_wp2
    go_end0
    have esw : (l.set i ej).set j ei = sw l i j := by unfold sw; rw [getD_of HI.out, getD_of HJ.out]
    have hsz3 : Maps.size ((D.put (.int .i64 ej.i) (.lit (.int .i64 i))).put (.int .i64 ei.i) (.lit (.int .i64 j))) = l.length := by
      have t0 := EMap.key _ _ _ _ HD.out
      have t1 := EMap.key _ _ _ _ HM2.out
      rw [Maps.size_put t1, Maps.size_put t0, (HO.out.at_ j ej HJ.out).1, if_pos rfl, HZ.out]
      split
      · rfl
      · rename_i hh
        exfalso
        by_cases hij : ei.i = ej.i
        · rw [hij, Maps.has_put_same HO.out.isMap (isKey _)] at hh; exact hh rfl
        · rw [Maps.has_put_other (lit_ne hij), (HO.out.at_ i ei HI.out).1] at hh; exact hh rfl
    refine ⟨rfl, ⟨?_, ?_, ⟨_, ?_, HO.out.sw HI.out HJ.out, ?_⟩, hqg, by rw [sw_length]; exact hn⟩, ?_⟩
    · rw [sw_length]; exact ho3.got (ho2.got (h6.got HQ.out (by simp)) (by simp; omega)) (by simp; omega)
    · rw [← esw]; exact HR3.out
    · rw [sw_length]; have := EMap.tight HM3.out; rw [hsz3] at this; exact this
    · rw [sw_length]; exact hsz3
    · exact (h6.nil_left ho2).trans ho3 (fun _ h => .inl h)
  · have hC0 : Only [] w w := Only.refl _ _
    refine wpAnyC_next [14, 15] (by kernel_rfl) (by simp) (.inr (onlyC hC0.drew)) ?_
    simp only [List.mem_cons, List.not_mem_nil, or_false, forall_eq_or_imp, forall_eq]
    refine ⟨?_, ?_⟩
    · refine wpOp_one rfl ?_
      go_wp2
      simp only [nrm]
      refine wpAnyC_next [15] (by kernel_rfl) (by simp) (.inr (onlyC (hC0.alloc _).drew)) ?_
      simp only [List.mem_cons, List.not_mem_nil, or_false, forall_eq]
      refine wpOp_one rfl ?_
      go_wp2
      simp only [nrm]
      refine wpAnyC_next [16] (by kernel_rfl) (by simp) (.inr (onlyC ((hC0.alloc _).alloc _).drew)) ?_
      simp only [List.mem_cons, List.not_mem_nil, or_false, forall_eq]
      refine wpOp_one rfl ?_
      go_wp2
      simp only [nrm]
      refine wpAnyC_next [17] (by kernel_rfl) (by simp) (.inr (onlyC ((hC0.alloc _).alloc _).drew)) ?_
      simp only [List.mem_cons, List.not_mem_nil, or_false, forall_eq]
      refine wpOp_one rfl ?_
      go_wp2
      simp only [nrm]
      refine wpAnyC_done (by kernel_rfl) (.inr (onlyC ((hC0.alloc _).alloc _).drew)) ⟨(w.heap.size, w.heap.size + 1), rfl, by simp, by simp, by simp, ?_, ?_, ((((Only.refl [] w).alloc _).alloc _).drew)⟩
      · exact two_new_first _ _ _
      · exact two_new_second _ _ _
    · refine wpOp_one rfl ?_
      go_wp2
      simp only [nrm]
      refine wpAnyC_next [14] (by kernel_rfl) (by simp) (.inr (onlyC (hC0.alloc _).drew)) ?_
      simp only [List.mem_cons, List.not_mem_nil, or_false, forall_eq]
      refine wpOp_one rfl ?_
      go_wp2
      simp only [nrm]
      refine wpAnyC_next [16] (by kernel_rfl) (by simp) (.inr (onlyC ((hC0.alloc _).alloc _).drew)) ?_
      simp only [List.mem_cons, List.not_mem_nil, or_false, forall_eq]
      refine wpOp_one rfl ?_
      go_wp2
      simp only [nrm]
      refine wpAnyC_next [17] (by kernel_rfl) (by simp) (.inr (onlyC ((hC0.alloc _).alloc _).drew)) ?_
      simp only [List.mem_cons, List.not_mem_nil, or_false, forall_eq]
      refine wpOp_one rfl ?_
      go_wp2
      simp only [nrm]
      refine wpAnyC_done (by kernel_rfl) (.inr (onlyC ((hC0.alloc _).alloc _).drew)) ⟨(w.heap.size + 1, w.heap.size), rfl, by simp, by simp, by simp, ?_, ?_, ((((Only.refl [] w).alloc _).alloc _).drew)⟩
      · exact two_new_second _ _ _
      · exact two_new_first _ _ _
end Go.Proofs.Ytpiilepmaomfeaa
