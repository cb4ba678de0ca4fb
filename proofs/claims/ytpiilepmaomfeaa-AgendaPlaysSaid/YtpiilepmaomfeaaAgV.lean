/- The reference queue (package timesyncref15): Peek, Pop and Cancel. Conditions: as stated. -/
import Derived.Test.YtpiilepmaomfeaaAgU
namespace Go.Proofs.Ytpiilepmaomfeaa
open Go.RowKit

/-- a struct of three is stored in a box -/
theorem three_set {w : World} {B : Nat} {c : Array Value} {t : TypeId} (h : w.heap[B]? = some (.cells c t (0, 0))) (hc : c.size = 3) (x y z : Value) :
    (((w.setCell ⟨B, 0, none⟩ x).setCell ⟨B, 1, none⟩ y).setCell ⟨B, 2, none⟩ z).heap[B]? = some (.cells #[x, y, z] t (0, 0)) ∧ Only [B] w (((w.setCell ⟨B, 0, none⟩ x).setCell ⟨B, 1, none⟩ y).setCell ⟨B, 2, none⟩ z) := by
  refine ⟨?_, (((Only.refl [B] w).setCell (by simp) _).setCell (by simp) _).setCell (by simp) _⟩
  rw [setCell_got (o := 2) _ (setCell_got (o := 1) _ (setCell_got (o := 0) _ h))]
  obtain ⟨l⟩ := c
  match l, hc with
  | [a, b, d], _ => rfl

set_option maxHeartbeats 400000 in
theorem rfirst_nil (w : World) :
    Calls Try.prog 27 #[.pointer none] w fun e w' => e = .returned (.int .i64 (-1)) ∧ w = w' := by
  go_enter Try.func27, Try.ntmps27
  go_wp2
  go_ret
  exact ⟨rfl, rfl⟩

set_option maxHeartbeats 400000 in
theorem rpeek_nil (w : World) :
    Calls Try.prog 20 #[.pointer none] w fun e w' => e = .returned (.tuple #[evv ⟨0, 0, 0⟩, .bool false]) ∧ Only [] w w' := by
  go_enter Try.func20, Try.ntmps20
  go_wp2_with fail
  refine alloc_abs (G := fun w0 => Calls _ _ _ w0 _) ?_
  intro w1 hb1 ho1 hs1
  refine (rfirst_nil _).mono ?_
  rintro e w2 ⟨rfl, rfl⟩
  have x0 := cell_got hb1 0; have x1 := cell_got hb1 1; have x2 := cell_got hb1 2
  have f0 := frozen_got hb1 0; have f1 := frozen_got hb1 1; have f2 := frozen_got hb1 2
  have z1 := got_lt hb1
  have HB1 := Lib.hid hb1; clear hb1 hs1
  go_wp2
  refine wabs (G := bodyPost _ _ _ _ _) (R := fun wf => wf.heap[w.heap.size]? = some (.cells #[.int .i64 ((⟨0, 0, 0⟩ : Ev)).t, .int .i64 ((⟨0, 0, 0⟩ : Ev)).i, .int .i64 ((⟨0, 0, 0⟩ : Ev)).x] 31 (0, 0)) ∧ Only [w.heap.size] w1 wf) (three_set HB1.out rfl _ _ _) ?_
  rintro wf ⟨hf2, hf3⟩
  clear x0 x1 x2 f0 f1 f2
  have x0 := cell_got hf2 0
  have x1 := cell_got hf2 1
  have x2 := cell_got hf2 2
  refine bodyPost_ret (v := .tuple #[evv (⟨0, 0, 0⟩ : Ev), .bool false]) (by simp [results, Try.results20, go_sem, x0, x1, x2]) rfl ⟨rfl, ho1.trans hf3 (by simp)⟩

set_option maxHeartbeats 400000 in
theorem rpop_nil (w : World) :
    Calls Try.prog 19 #[.pointer none] w fun e w' => e = .returned (.tuple #[evv ⟨0, 0, 0⟩, .bool false]) ∧ Only [] w w' := by
  go_enter Try.func19, Try.ntmps19
  go_wp2_with fail
  refine alloc_abs (G := fun w0 => Calls _ _ _ w0 _) ?_
  intro w1 hb1 ho1 hs1
  refine (rfirst_nil _).mono ?_
  rintro e w2 ⟨rfl, rfl⟩
  have x0 := cell_got hb1 0; have x1 := cell_got hb1 1; have x2 := cell_got hb1 2
  have f0 := frozen_got hb1 0; have f1 := frozen_got hb1 1; have f2 := frozen_got hb1 2
  have z1 := got_lt hb1
  have HB1 := Lib.hid hb1; clear hb1 hs1
  go_wp2
  refine wabs (G := bodyPost _ _ _ _ _) (R := fun wf => wf.heap[w.heap.size]? = some (.cells #[.int .i64 ((⟨0, 0, 0⟩ : Ev)).t, .int .i64 ((⟨0, 0, 0⟩ : Ev)).i, .int .i64 ((⟨0, 0, 0⟩ : Ev)).x] 31 (0, 0)) ∧ Only [w.heap.size] w1 wf) (three_set HB1.out rfl _ _ _) ?_
  rintro wf ⟨hf2, hf3⟩
  clear x0 x1 x2 f0 f1 f2
  have x0 := cell_got hf2 0
  have x1 := cell_got hf2 1
  have x2 := cell_got hf2 2
  refine bodyPost_ret (v := .tuple #[evv (⟨0, 0, 0⟩ : Ev), .bool false]) (by simp [results, Try.results19, go_sem, x0, x1, x2]) rfl ⟨rfl, ho1.trans hf3 (by simp)⟩

set_option maxHeartbeats 1000000 in
theorem rpeek_any {w : World} {p : Nat} {v : Value} {lim tm pu : Int} {l : List Ev} (h : RQ w p v lim tm pu l) :
    Calls Try.prog 20 #[.pointer (some ⟨p, 0, none⟩)] w fun e w' => ∃ x b, e = .returned (.tuple #[evv x, .bool b]) ∧ Only [] w w' ∧ ((l = [] ∧ x = ⟨0, 0, 0⟩ ∧ b = false) ∨ ∃ k, FirstAt l l.length k ∧ x = el l k ∧ b = true) := by
  have hn := h.le
  have H := Lib.hid h; clear h
  go_enter Try.func20, Try.ntmps20
  go_wp2_with fail
  refine alloc_abs (G := fun w0 => Calls _ _ _ w0 _) ?_
  intro w1 hb1 ho1 hs1
  refine (rfirst_any (H.out.kept ho1 (by simp) (by simp))).mono ?_
  rintro e w2 ⟨r, rfl, ho2, hc⟩
  have hb2 := ho2.got hb1 (by simp)
  have x0 := cell_got hb2 0; have x1 := cell_got hb2 1; have x2 := cell_got hb2 2
  have f0 := frozen_got hb2 0; have f1 := frozen_got hb2 1; have f2 := frozen_got hb2 2
  have z1 := got_lt hb2
  have hs2 := ho2.size
  have hs1' : w.heap.size < w1.heap.size := by omega
  have HB2 := Lib.hid hb2; clear hb1 hs1 hb2
  rcases hc with ⟨hl, rfl⟩ | ⟨k, rfl, hf⟩
  · have HL := Lib.hid hl; clear hl
    go_wp2
    refine wabs (G := bodyPost _ _ _ _ _) (R := fun wf => wf.heap[w.heap.size]? = some (.cells #[.int .i64 ((⟨0, 0, 0⟩ : Ev)).t, .int .i64 ((⟨0, 0, 0⟩ : Ev)).i, .int .i64 ((⟨0, 0, 0⟩ : Ev)).x] 31 (0, 0)) ∧ Only [w.heap.size] w2 wf) (three_set HB2.out rfl _ _ _) ?_
    rintro wf ⟨hf2, hf3⟩
    clear x0 x1 x2 f0 f1 f2
    have x0 := cell_got hf2 0
    have x1 := cell_got hf2 1
    have x2 := cell_got hf2 2
    refine bodyPost_ret (v := .tuple #[evv (⟨0, 0, 0⟩ : Ev), .bool false]) (by simp [results, Try.results20, go_sem, x0, x1, x2]) rfl ⟨_, _, rfl, (ho1.nil_trans ho2).trans hf3 (by simp), .inl ⟨HL.out, rfl, rfl⟩⟩
  · have hkl : k < l.length := hf.1
    have hq2 := (H.out.kept ho1 (by simp) (by simp)).kept ho2 (by simp) (by simp)
    obtain ⟨g, cap, rfl, hr⟩ : ∃ g cap, v = .slice (some ⟨g, 0, none⟩) l.length cap ∧ RowAt evc 31 3 w2 g cap l := by
      rcases hq2.row.val with ⟨_, rfl⟩ | h
      · simp at hkl
      · exact h
    have c3 := cell_got hq2.qc 3
    have hps := got_lt hq2.qc
    have hgs := hr.lt
    have r0 := hr.cell evc_len (el_some hkl) (j := 0) (by omega)
    have r1 := hr.cell evc_len (el_some hkl) (j := 1) (by omega)
    have r2 := hr.cell evc_len (el_some hkl) (j := 2) (by omega)
    simp only [Nat.add_zero, evc] at r0 r1 r2
    have HF := Lib.hid hf; have HQ2 := Lib.hid hq2; clear hf hq2 hr
    go_wp2
    refine wabs (G := bodyPost _ _ _ _ _) (R := fun wf => wf.heap[w.heap.size]? = some (.cells #[.int .i64 ((el l k)).t, .int .i64 ((el l k)).i, .int .i64 ((el l k)).x] 31 (0, 0)) ∧ Only [w.heap.size] w2 wf) (three_set HB2.out rfl _ _ _) ?_
    rintro wf ⟨hf2, hf3⟩
    clear x0 x1 x2 f0 f1 f2
    have x0 := cell_got hf2 0
    have x1 := cell_got hf2 1
    have x2 := cell_got hf2 2
    refine bodyPost_ret (v := .tuple #[evv (el l k), .bool true]) (by simp [results, Try.results20, go_sem, x0, x1, x2]) rfl ⟨_, _, rfl, (ho1.nil_trans ho2).trans hf3 (by simp), .inr ⟨k, HF.out, rfl, rfl⟩⟩

set_option maxHeartbeats 1000000 in
theorem rpop_any {w : World} {p : Nat} {v : Value} {lim tm pu : Int} {l : List Ev} (h : RQ w p v lim tm pu l) :
    Calls Try.prog 19 #[.pointer (some ⟨p, 0, none⟩)] w fun e w' => ∃ x b, e = .returned (.tuple #[evv x, .bool b]) ∧ ∃ v' tm' l', RQ w' p v' lim tm' pu l' ∧ Only [p] w w' ∧ (∀ k ∈ v'.ownBlock.toList, k ∈ v.ownBlock.toList ∨ w.heap.size ≤ k) ∧ ((l = [] ∧ x = ⟨0, 0, 0⟩ ∧ b = false ∧ l' = l ∧ tm' = tm) ∨ ∃ k, FirstAt l l.length k ∧ x = el l k ∧ b = true ∧ l' = l.take k ++ l.drop (k + 1) ∧ tm' = (el l k).t) := by
  have hn := h.le
  have H := Lib.hid h; clear h
  go_enter Try.func19, Try.ntmps19
  go_wp2_with fail
  refine alloc_abs (G := fun w0 => Calls _ _ _ w0 _) ?_
  intro w1 hb1 ho1 hs1
  refine (rfirst_any (H.out.kept ho1 (by simp) (by simp))).mono ?_
  rintro e w2 ⟨r, rfl, ho2, hc⟩
  have hb2 := ho2.got hb1 (by simp)
  have x0 := cell_got hb2 0; have x1 := cell_got hb2 1; have x2 := cell_got hb2 2
  have f0 := frozen_got hb2 0; have f1 := frozen_got hb2 1; have f2 := frozen_got hb2 2
  have z1 := got_lt hb2
  have hs2 := ho2.size
  have hs1' : w.heap.size < w1.heap.size := by omega
  have HB2 := Lib.hid hb2; clear hb1 hs1 hb2
  rcases hc with ⟨hl, rfl⟩ | ⟨k, rfl, hf⟩
  · have HL := Lib.hid hl; clear hl
    go_wp2
    refine wabs (G := bodyPost _ _ _ _ _) (R := fun wf => wf.heap[w.heap.size]? = some (.cells #[.int .i64 ((⟨0, 0, 0⟩ : Ev)).t, .int .i64 ((⟨0, 0, 0⟩ : Ev)).i, .int .i64 ((⟨0, 0, 0⟩ : Ev)).x] 31 (0, 0)) ∧ Only [w.heap.size] w2 wf) (three_set HB2.out rfl _ _ _) ?_
    rintro wf ⟨hf2, hf3⟩
    clear x0 x1 x2 f0 f1 f2
    have x0 := cell_got hf2 0
    have x1 := cell_got hf2 1
    have x2 := cell_got hf2 2
    refine bodyPost_ret (v := .tuple #[evv (⟨0, 0, 0⟩ : Ev), .bool false]) (by simp [results, Try.results19, go_sem, x0, x1, x2]) rfl ⟨_, _, rfl, v, tm, l, ?_, ?_, fun k hk => .inl hk, .inl ⟨HL.out, rfl, rfl, rfl, rfl⟩⟩
    · have hb := H.out.blocks
      exact (((H.out.kept ho1 (by simp) (by simp)).kept ho2 (by simp) (by simp)).kept hf3 (by have := hb p (by simp); simp; omega) (fun k hk h => by simp at h; subst h; have := hb _ (by simp only [List.mem_cons]; exact .inr hk); omega))
    · exact ((ho1.nil_trans ho2).weak (S' := [p]) (by simp)).trans hf3 (by simp)
  · have hkl : k < l.length := hf.1
    have hq2 := (H.out.kept ho1 (by simp) (by simp)).kept ho2 (by simp) (by simp)
    obtain ⟨g, cap, rfl, hr⟩ : ∃ g cap, v = .slice (some ⟨g, 0, none⟩) l.length cap ∧ RowAt evc 31 3 w2 g cap l := by
      rcases hq2.row.val with ⟨_, rfl⟩ | h
      · simp at hkl
      · exact h
    have c3 := cell_got hq2.qc 3
    have hps := got_lt hq2.qc
    have hgs := hr.lt
    have r0 := hr.cell evc_len (el_some hkl) (j := 0) (by omega)
    have r1 := hr.cell evc_len (el_some hkl) (j := 1) (by omega)
    have r2 := hr.cell evc_len (el_some hkl) (j := 2) (by omega)
    simp only [Nat.add_zero, evc] at r0 r1 r2
    have HF := Lib.hid hf; have HQ2 := Lib.hid hq2; clear hf hq2 hr
    go_wp2_with fail
    refine alloc_abs (G := fun w0 => Calls _ _ _ w0 _) ?_
    intro w3 hb3 ho3 hs3
    have hs3' : w2.heap.size < w3.heap.size := by omega
    have HB3 := Lib.hid hb3; clear hb3 hs3 c3 r0 r1 r2 x0 x1 x2 f0 f1 f2
    refine (rremove_any (HQ2.out.kept ho3 (by simp) (by simp)) hkl).mono ?_
    rintro e w4 ⟨rfl, v4, hq4, ho4, hv4⟩
    have hp0 : p < w.heap.size := H.out.blocks p (by simp)
    have hr4 := ho4.got (ho3.got HB2.out (by simp)) (by simp; omega)
    have hb4 := ho4.got HB3.out (by simp; omega)
    have c1 := cell_got hq4.qc 1
    have fp := frozen_got hq4.qc 1
    have hps4 := got_lt hq4.qc
    have y0 := cell_got hb4 0; have y1 := cell_got hb4 1; have y2 := cell_got hb4 2
    have x0 := cell_got hr4 0; have x1 := cell_got hr4 1; have x2 := cell_got hr4 2
    have f0 := frozen_got hr4 0; have f1 := frozen_got hr4 1; have f2 := frozen_got hr4 2
    have z4 := got_lt hr4; have z5 := got_lt hb4
    have n1 : w2.heap.size ≠ p := by omega
    have n2 : w.heap.size ≠ p := by omega
    have n3 : w2.heap.size ≠ w.heap.size := by omega
    have HQ4 := Lib.hid hq4; have HV4 := Lib.hid hv4; have HR4 := Lib.hid hr4; clear hq4 hv4 hr4 hb4
    go_wp2
    have o5 : Only [p] w4 (w4.setCell ⟨p, 1, none⟩ (.int .i64 (el l k).t)) := (Only.refl [p] w4).setCell (by simp) _
    have q5 : (w4.setCell ⟨p, 1, none⟩ (.int .i64 (el l k).t)).heap[p]? = some (.cells #[.int .i64 lim, .int .i64 (el l k).t, .int .i64 pu, v4] 61 (0, 0)) := setCell_got _ HQ4.out.qc
    have O5 := Lib.hid o5; have Q5 := Lib.hid q5; clear q5
    refine wabs (G := bodyPost _ _ _ _ _) (R := fun wf => wf.heap[w.heap.size]? = some (.cells #[.int .i64 ((el l k)).t, .int .i64 ((el l k)).i, .int .i64 ((el l k)).x] 31 (0, 0)) ∧ Only [w.heap.size] (w4.setCell ⟨p, 1, none⟩ (.int .i64 (el l k).t)) wf) (three_set (o5.got HR4.out (by simp; omega)) rfl _ _ _) ?_
    rintro wf ⟨hf2, hf3⟩
    clear x0 x1 x2 f0 f1 f2
    have x0 := cell_got hf2 0
    have x1 := cell_got hf2 1
    have x2 := cell_got hf2 2
    refine bodyPost_ret (v := .tuple #[evv (el l k), .bool true]) (by simp [results, Try.results19, go_sem, x0, x1, x2]) rfl ⟨_, _, rfl, v4, (el l k).t, l.take k ++ l.drop (k + 1), ?_, ?_, fun x hx => .inr (by have := HV4.out x hx; omega), .inr ⟨k, HF.out, rfl, rfl, rfl, rfl⟩⟩
    · have hv4p : ∀ x ∈ v4.ownBlock.toList, x ∉ [p] := fun x hx h => by simp at h; have := HV4.out x hx; omega
      have hv4b : ∀ x ∈ v4.ownBlock.toList, x ∉ [w.heap.size] := fun x hx h => by simp at h; have := HV4.out x hx; omega
      exact ⟨hf3.got Q5.out (by simp; omega), rrow_kept (rrow_kept HQ4.out.row O5.out hv4p) hf3 hv4b, HQ4.out.vp, HQ4.out.le⟩
    · exact (((((ho1.nil_trans ho2).nil_trans ho3).weak (S' := [p]) (by simp)).trans ho4 (by simp)).trans O5.out (by simp)).trans hf3 (by simp)
end Go.Proofs.Ytpiilepmaomfeaa
