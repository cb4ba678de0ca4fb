/- The heap of package agenda: down. Conditions: as stated. -/
import Derived.Test.YtpiilepmaomfeaaAg3
namespace Go.Proofs.Ytpiilepmaomfeaa
open Go.RowKit

/-- what the inner loop of down knows: `f` is the first among `k` and those of its children that are below `bl` -/
def FirstOf (n : Nat) (f : Nat → Ev) (k c bl : Nat) : Prop :=
  (c = k ∨ ((c - 1) / 2 = k ∧ 0 < c ∧ c < n ∧ ¬ ge (f c) (f k))) ∧ ∀ j, 0 < j → j < n → (j - 1) / 2 = k → j < bl → ge (f j) (f c)

theorem firstOf_start (n : Nat) (f : Nat → Ev) (k : Nat) : FirstOf n f k k (2 * k + 1) := ⟨.inl rfl, fun j _ _ _ _ => by omega⟩
theorem firstOf_yes {n : Nat} {f : Nat → Ev} {k c bl : Nat} (h : FirstOf n f k c bl) (h1 : 2 * k + 1 ≤ bl) (h2 : bl ≤ 2 * k + 2) (h3 : bl < n) (hb : ¬ ge (f bl) (f c)) : FirstOf n f k bl (bl + 1) := by
  obtain ⟨ha, hc⟩ := h
  refine ⟨.inr ⟨by omega, by omega, h3, ?_⟩, ?_⟩
  · rcases ha with rfl | ⟨_, _, _, ha⟩
    · exact hb
    · intro hg; exact hb (ge_trans hg (ge_of_not ha))
  · intro j j1 j2 j3 j4
    by_cases h : j = bl
    · subst h; exact ge_refl _
    · exact ge_trans (hc j j1 j2 j3 (by omega)) (ge_of_not hb)
theorem firstOf_no {n : Nat} {f : Nat → Ev} {k c bl : Nat} (h : FirstOf n f k c bl) (hb : ge (f bl) (f c)) : FirstOf n f k c (bl + 1) := by
  refine ⟨h.1, fun j j1 j2 j3 j4 => ?_⟩
  by_cases h' : j = bl
  · subst h'; exact hb
  · exact h.2 j j1 j2 j3 (by omega)

set_option maxHeartbeats 1600000 in
theorem down_any {w : World} {q g cap b : Nat} {a2 a3 a4 : Value} {l : List Ev} (h : HRep w q g cap b a2 a3 a4 l) {i : Nat} (hi : i < l.length) (hu : DownInv l.length (el l) i i) :
    Calls Try.prog 32 #[.pointer (some ⟨q, 0, none⟩), .int .i64 i] w fun e w' => e = .returned (.tuple #[]) ∧
      ∃ l', HRep w' q g cap b a2 a3 a4 l' ∧ Only [g, b] w w' ∧ l'.length = l.length ∧ UpInv l'.length (el l') i ∧ ∀ e, e ∈ l' ↔ e ∈ l := by
  have hn := h.le
  have H := Lib.hid h; have HU := Lib.hid hu; clear h hu
  go_enter Try.func32, Try.ntmps32
  go_wp2
  go_loopw [1] (fun vi wr => ∃ (k : Nat) (l' : List Ev), vi = .int .i64 k ∧ k < l'.length ∧ HRep wr q g cap b a2 a3 a4 l' ∧ Only [g, b] w wr ∧ l'.length = l.length ∧ DownInv l'.length (el l') k i ∧ (∀ e, e ∈ l' ↔ e ∈ l)) (fun vi _ => l.length - (intOf vi).toNat)
  case atStart => exact ⟨i, l, rfl, hi, H.out, Only.refl _ _, rfl, HU.out, fun _ => Iff.rfl⟩
  case round =>
    obtain ⟨k, l', rfl, hk, hrep, hol, hlen, hup, hmem⟩ := hrel
    obtain ⟨wo, hwo⟩ : ∃ wo : World, wo = wr := ⟨_, rfl⟩
    subst hwo
    have HR := Lib.hid hrep; have HO := Lib.hid hol; have HL := Lib.hid hlen; have HP := Lib.hid hup; have HM := Lib.hid hmem
    clear hrep hol hlen hup hmem
    have hkb : k ≤ 1000000 := by have := HL.out; omega
    have hcl : l'.length ≤ 1000000 := by have := HL.out; omega
    go_wp2
    go_loopw [4, 5] (fun vf vb wi => ∃ (c bl : Nat), vf = .int .i64 c ∧ vb = .int .i64 bl ∧ 2 * k + 1 ≤ bl ∧ bl ≤ 2 * k + 3 ∧ c < l'.length ∧ FirstOf l'.length (el l') k c bl ∧ Only [] wo wi) (fun _ vb _ => 2 * k + 3 - (intOf vb).toNat)
    case atStart => exact ⟨k, 2 * k + 1, rfl, by go_num, by omega, by omega, hk, firstOf_start _ _ _, Only.refl _ _⟩
    case round =>
      obtain ⟨c, bl, rfl, rfl, hb1, hb2, hcl', hfo, hoi⟩ := hrel
      have HF := Lib.hid hfo; have HI := Lib.hid hoi; clear hfo hoi
      have hrep := HR.out.kept HI.out (by simp) (by simp) (by simp)
      have HRI := Lib.hid hrep; clear hrep
      have c0 := cell_got HRI.out.qc 0
      have hqs := got_lt HRI.out.qc
      have hgs := HRI.out.row.lt
      by_cases hin : bl ≤ 2 * k + 2 ∧ bl < l'.length
      · obtain ⟨hin1, hin2⟩ := hin
        have r0 := HRI.out.row.cell evc_len (el_some hin2) (j := 0) (by omega)
        have r1 := HRI.out.row.cell evc_len (el_some hin2) (j := 1) (by omega)
        have r2 := HRI.out.row.cell evc_len (el_some hin2) (j := 2) (by omega)
        have s0 := HRI.out.row.cell evc_len (el_some hcl') (j := 0) (by omega)
        have s1 := HRI.out.row.cell evc_len (el_some hcl') (j := 1) (by omega)
        have s2 := HRI.out.row.cell evc_len (el_some hcl') (j := 2) (by omega)
        simp only [Nat.add_zero, evc] at r0 s0 r1 r2 s1 s2
        go_wp2
        refine wp_region_grown [0,1,2,3,4,5,6,7,8,9,10,11,12,13,14,15] [] (by kernel_rfl) (by kernel_rfl) ?_
        simp only [pick, List.map_cons, List.map_nil, List.getD_cons_succ, List.getD_cons_zero]
        iterate 15 (refine wpQuiet_step (fun K hK => ?_); go_simp; refine hK _ ?_; clear hK K)
        refine wpQuiet_enter rfl 49 #[.agg #[.int .i64 (el l' bl).t, .int .i64 (el l' bl).i, .int .i64 (el l' bl).x], .agg #[.int .i64 (el l' c).t, .int .i64 (el l' c).i, .int .i64 (el l' c).x]] (fun _ => by kernel_rfl) (.bool (bef (el l' bl) (el l' c))) (grown_calls fun w' _ => before_any _ _ w') ?_
        refine wpQuiet_nil ?_
        intro w1 hw1
        have ho1 := only_of_plus hw1; clear hw1
        clear c0 r0 r1 r2 s0 s1 s2
        cases hb : bef (el l' bl) (el l' c)
        · have HB := Lib.hid hb; clear hb
          go_wp2
          go_roundw
          case rel => exact ⟨c, bl + 1, rfl, by go_num, by omega, by omega, hcl', firstOf_no HF.out (bef_false.1 HB.out), HI.out.nil_trans ho1⟩
          case measure => simp [intOf]; omega
        · have HB := Lib.hid hb; clear hb
          go_wp2
          go_roundw
          case rel => exact ⟨bl, bl + 1, rfl, by go_num, by omega, by omega, hin2, firstOf_yes HF.out hb1 hin1 hin2 (bef_true.1 HB.out), HI.out.nil_trans ho1⟩
          case measure => simp [intOf]; omega
      · have hch : ∀ j, 0 < j → j < l'.length → (j - 1) / 2 = k → ge (el l' j) (el l' c) := fun j j1 j2 j3 => HF.out.2 j j1 j2 j3 (by omega)
        have HCH := Lib.hid hch; clear hch
        by_cases hck : c = k
        · subst hck
          by_cases hle : bl ≤ 2 * c + 2
          all_goals
            go_wp2
            refine bodyPost_ret (results_none rfl _ _ _) rfl ?_
            exact ⟨rfl, l', HRI.out, HO.out.nil_trans HI.out, HL.out, down_done HP.out HCH.out, HM.out⟩
        · have hce : ((c : Int) == (k : Int)) = false := by simp; omega
          obtain ⟨p1, p2, p3, p4⟩ := HF.out.1.resolve_left hck
          have P1 := Lib.hid p1; have P4 := Lib.hid p4; clear p1 p4
          by_cases hle : bl ≤ 2 * k + 2
          all_goals
            go_wp2_with fail
            refine (swap_any HRI.out (el_some hk) (el_some hcl')).mono ?_
            rintro e w2 ⟨rfl, hrep2, ho2⟩
            have HR2 := Lib.hid hrep2; clear hrep2
            go_wp2
            go_roundw
            case rel =>
              refine ⟨c, sw l' k c, rfl, by rw [sw_length]; exact hcl', HR2.out, (HO.out.nil_trans HI.out).trans ho2 (fun _ h => .inl h), by rw [sw_length]; exact HL.out, ?_, fun e => (mem_sw hk hcl').trans (HM.out e)⟩
              rw [sw_length]
              exact down_step HP.out p2 p3 P1.out P4.out HCH.out (fun j => el_sw l' k c j hk hcl')
            case measure => have := HL.out; have := P1.out; simp [intOf]; omega
end Go.Proofs.Ytpiilepmaomfeaa
