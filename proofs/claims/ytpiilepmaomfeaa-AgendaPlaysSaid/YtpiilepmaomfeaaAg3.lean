/- The heap of package agenda: before and up. Conditions: as stated. -/
import Derived.Test.YtpiilepmaomfeaaAg2
import Derived.Test.YtpiilepmaomfeaaAgH
namespace Go.Proofs.Ytpiilepmaomfeaa
open Go.RowKit

set_option maxHeartbeats 400000 in
theorem before_any (x y : Ev) (w : World) :
    Calls Try.prog 49 #[.agg #[.int .i64 x.t, .int .i64 x.i, .int .i64 x.x], .agg #[.int .i64 y.t, .int .i64 y.i, .int .i64 y.x]] w fun e w' => e = .returned (.bool (bef x y)) ∧ Below w.heap.size w w' := by
  have hb := bef_false (x := x) (y := y)
  by_cases h : x.t = y.t
  · have h' : (x.t != y.t) = false := by simpa using h
    have H : Hid (bef x y = decide (x.i < y.i)) := by unfold bef; rw [if_neg (by simp [h])]; exact rfl
    clear hb h
    go_enter Try.func49, Try.ntmps49
    go_wp2
    go_ret
    exact ⟨by rw [H.out]; rfl, ((Below.refl _ _).alloc (Nat.le_refl _) _).alloc (by simp) _⟩
  · have h' : (x.t != y.t) = true := by simpa using h
    have H : Hid (bef x y = decide (x.t < y.t)) := by unfold bef; rw [if_pos h']; exact rfl
    clear hb h
    go_enter Try.func49, Try.ntmps49
    go_wp2
    go_ret
    exact ⟨by rw [H.out]; rfl, ((Below.refl _ _).alloc (Nat.le_refl _) _).alloc (by simp) _⟩

set_option maxHeartbeats 800000 in
theorem up_any {w : World} {q g cap b : Nat} {a2 a3 a4 : Value} {l : List Ev} (h : HRep w q g cap b a2 a3 a4 l) {i : Nat} (hi : i < l.length) (hu : UpInv l.length (el l) i) :
    Calls Try.prog 30 #[.pointer (some ⟨q, 0, none⟩), .int .i64 i] w fun e w' => e = .returned (.tuple #[]) ∧
      ∃ l', HRep w' q g cap b a2 a3 a4 l' ∧ Only [g, b] w w' ∧ l'.length = l.length ∧ Heap l'.length (el l') ∧ ∀ e, e ∈ l' ↔ e ∈ l := by
  have hn := h.le
  have H := Lib.hid h; have HU := Lib.hid hu; clear h hu
  go_enter Try.func30, Try.ntmps30
  go_wp2
  go_loopw [1] (fun vi wr => ∃ (k : Nat) (l' : List Ev), vi = .int .i64 k ∧ k < l'.length ∧ HRep wr q g cap b a2 a3 a4 l' ∧ Only [g, b] w wr ∧ l'.length = l.length ∧ UpInv l'.length (el l') k ∧ (∀ e, e ∈ l' ↔ e ∈ l)) (fun vi _ => (intOf vi).toNat)
  case atStart => exact ⟨i, l, rfl, hi, H.out, Only.refl _ _, rfl, HU.out, fun _ => Iff.rfl⟩
  case round =>
    obtain ⟨k, l', rfl, hk, hrep, hol, hlen, hup, hmem⟩ := hrel
    have HR := Lib.hid hrep; have HO := Lib.hid hol; have HL := Lib.hid hlen; have HP := Lib.hid hup; have HM := Lib.hid hmem
    clear hrep hol hlen hup hmem
    have hkb : k ≤ 1000000 := by have := HL.out; omega
    by_cases h0 : k = 0
    · subst h0
      go_wp2
      go_end0
      exact ⟨rfl, l', HR.out, HO.out, HL.out, up_done HP.out (.inl rfl), HM.out⟩
    · have hkp : 0 < k := by omega
      obtain ⟨p, hp, hpi⟩ : ∃ p : Nat, p = (k - 1) / 2 ∧ ((k : Int) - 1) / 2 = (p : Int) := ⟨(k - 1) / 2, rfl, by omega⟩
      have hpl : p < l'.length := by omega
      have HPp := Lib.hid hp; have HPI := Lib.hid hpi; clear hp hpi
      have hpk : p < k := by have := HPp.out; omega
      have hqs := got_lt HR.out.qc
      have hgs := HR.out.row.lt
      have c0 := cell_got HR.out.qc 0
      have r0 := HR.out.row.cell evc_len (el_some hk) (j := 0) (by omega)
      have r1 := HR.out.row.cell evc_len (el_some hk) (j := 1) (by omega)
      have r2 := HR.out.row.cell evc_len (el_some hk) (j := 2) (by omega)
      have s0 := HR.out.row.cell evc_len (el_some hpl) (j := 0) (by omega)
      have s1 := HR.out.row.cell evc_len (el_some hpl) (j := 1) (by omega)
      have s2 := HR.out.row.cell evc_len (el_some hpl) (j := 2) (by omega)
      simp only [Nat.add_zero, evc] at r0 s0 r1 r2 s1 s2
      have hcl : l'.length ≤ 1000000 := by have := HL.out; omega
      go_wp2
      rw [HPI.out]
      refine wp_region_grown [0,1,2,3,4,5,6,7,8,9,10,11,12,13,14,15,16] [] (by kernel_rfl) (by kernel_rfl) ?_
      simp only [pick, List.map_cons, List.map_nil, List.getD_cons_succ, List.getD_cons_zero]
      iterate 15 (refine wpQuiet_step (fun K hK => ?_); go_simp; refine hK _ ?_; clear hK K)
      refine wpQuiet_enter rfl 49 #[.agg #[.int .i64 (el l' k).t, .int .i64 (el l' k).i, .int .i64 (el l' k).x], .agg #[.int .i64 (el l' p).t, .int .i64 (el l' p).i, .int .i64 (el l' p).x]] (fun _ => by kernel_rfl) (.bool (bef (el l' k) (el l' p))) (grown_calls fun w' _ => before_any _ _ w') ?_
      iterate 1 (refine wpQuiet_step (fun K hK => ?_); go_simp; refine hK _ ?_; clear hK K)
      refine wpQuiet_nil ?_
      intro w1 hw1
      have ho1 := only_of_plus hw1; clear hw1
      clear c0 r0 r1 r2 s0 s1 s2
      cases hb : bef (el l' k) (el l' p)
      · have HB := Lib.hid hb; clear hb
        go_wp2
        refine bodyPost_ret (results_none rfl _ _ _) rfl ?_
        exact ⟨rfl, l', HR.out.kept ho1 (by simp) (by simp) (by simp), HO.out.nil_trans ho1, HL.out, up_done HP.out (.inr (by rw [← HPp.out]; exact bef_false.1 HB.out)), HM.out⟩
      · have HB := Lib.hid hb; clear hb
        go_wp2_with fail
        refine (swap_any (HR.out.kept ho1 (by simp) (by simp) (by simp)) (el_some hk) (el_some hpl)).mono ?_
        rintro e w2 ⟨rfl, hrep2, ho2⟩
        have HR2 := Lib.hid hrep2; clear hrep2
        go_wp2
        go_roundw
        case rel =>
          refine ⟨p, sw l' k p, rfl, by rw [sw_length]; exact hpl, HR2.out, (HO.out.nil_trans ho1).trans ho2 (fun _ h => .inl h), by rw [sw_length]; exact HL.out, ?_, fun e => (mem_sw hk hpl).trans (HM.out e)⟩
          rw [sw_length]
          exact up_step HP.out hkp hk HPp.out (bef_true.1 HB.out) (fun j => el_sw l' k p j hk hpl)
        case measure => simp [intOf]; omega
end Go.Proofs.Ytpiilepmaomfeaa
