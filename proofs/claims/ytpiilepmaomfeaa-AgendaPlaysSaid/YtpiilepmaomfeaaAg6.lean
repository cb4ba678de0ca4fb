/- The heap of package agenda: remove. Conditions: as stated. -/
import Derived.Test.YtpiilepmaomfeaaAg5
namespace Go.Proofs.Ytpiilepmaomfeaa
open Go.RowKit

theorem MOk.ids {D : DataW Unit} {l : List Ev} (h : MOk D l) {e f : Ev} (he : e ∈ l) (hf : f ∈ l) (hi : e.i = f.i) : e = f := by
  obtain ⟨a, ha⟩ := List.mem_iff_getElem?.1 he
  obtain ⟨b, hb⟩ := List.mem_iff_getElem?.1 hf
  by_cases hab : a = b
  · subst hab; rw [ha] at hb; cases hb; rfl
  · exact absurd hi (h.apart ha hb hab)

theorem mem_dropLast {D : DataW Unit} {l : List Ev} (h : MOk D l) {k : Nat} (hk : k + 1 = l.length) (e : Ev) : e ∈ l.take k ↔ e ∈ l ∧ e.i ≠ (el l k).i := by
  have hl : l[k]? = some (el l k) := el_some (by omega)
  constructor
  · intro he
    obtain ⟨j, hj⟩ := List.mem_iff_getElem?.1 he
    have hjk : j < k := by
      rcases Nat.lt_or_ge j k with h | h
      · exact h
      · rw [List.getElem?_take, if_neg (by omega)] at hj; cases hj
    rw [List.getElem?_take, if_pos hjk] at hj
    exact ⟨List.mem_of_getElem? hj, h.apart hj hl (by omega)⟩
  · rintro ⟨he, hne⟩
    obtain ⟨j, hj⟩ := List.mem_iff_getElem?.1 he
    have hjk : j < k := by
      have : j < l.length := (List.getElem?_eq_some_iff.1 hj).1
      by_cases hjk : j = k
      · subst hjk; rw [hl] at hj; cases hj; exact absurd rfl hne
      · omega
    exact List.mem_iff_getElem?.2 ⟨j, by rw [List.getElem?_take, if_pos hjk]; exact hj⟩

theorem MOk.drop {D : DataW Unit} {l : List Ev} (h : MOk D l) {k : Nat} (hk : k + 1 = l.length) : MOk (D.del (.int .i64 (el l k).i)) (l.take k) := by
  have hl : l[k]? = some (el l k) := el_some (by omega)
  refine ⟨h.isMap.del _, ?_, ?_, fun e he => h.wf e (List.mem_of_mem_take he)⟩
  · intro i e hi
    have hik : i < k := by
      rcases Nat.lt_or_ge i k with h | h
      · exact h
      · rw [List.getElem?_take, if_neg (by omega)] at hi; cases hi
    rw [List.getElem?_take, if_pos hik] at hi
    have hne := h.apart hi hl (by omega)
    rw [Maps.has_del_other (lit_ne hne), Maps.atKey_del_other (lit_ne hne)]
    exact h.at_ i e hi
  · intro j hj
    by_cases hjk : j = (el l k).i
    · subst hjk; exact Maps.has_del_same
    · rw [Maps.has_del_other (lit_ne hjk)]
      refine h.none j (fun e he hej => ?_)
      exact hj e ((mem_dropLast h hk e).2 ⟨he, by rw [hej]; exact hjk⟩) hej

theorem el_take {l : List Ev} {k j : Nat} (h : j < k) : el (l.take k) j = el l j := by
  unfold el; simp only [List.getD_eq_getElem?_getD, List.getElem?_take, if_pos h]

set_option maxHeartbeats 1600000 in
theorem remove_any {w : World} {q g cap b : Nat} {a2 a3 a4 : Value} {l : List Ev} (h : HRep w q g cap b a2 a3 a4 l) {i : Nat} (hi : i < l.length) (hheap : Heap l.length (el l)) :
    Calls Try.prog 26 #[.pointer (some ⟨q, 0, none⟩), .int .i64 i] w fun e w' => e = .returned (.tuple #[]) ∧
      ∃ l', HRep w' q g cap b a2 a3 a4 l' ∧ Only [q, g, b] w w' ∧ l'.length + 1 = l.length ∧ Heap l'.length (el l') ∧ ∀ e, e ∈ l' ↔ e ∈ l ∧ e.i ≠ (el l i).i := by
  have hbg := h.bg
  have hqg := h.qg
  have hn := h.le
  obtain ⟨k, hk⟩ : ∃ k, l.length = k + 1 := ⟨l.length - 1, by omega⟩
  have hkl : k < l.length := by omega
  have HH := Lib.hid hheap; clear hheap
  have hqs := got_lt h.qc
  have c0 := cell_got h.qc 0
  have HR := Lib.hid h; clear h
  have HK := Lib.hid hk
  rw [hk] at c0
  clear hk
  have hkb : k ≤ 1000000 := by have := HK.out; omega
  have hlt : (k : Int) < (k : Int) + 1 := by omega
  go_enter Try.func26, Try.ntmps26
  go_wp2_with fail
  refine (swap_any HR.out (el_some hi) (el_some hkl)).mono ?_
  rintro e w1 ⟨rfl, hrep1, ho1⟩
  have HR1 := Lib.hid hrep1; clear hrep1 c0
  have d0 := cell_got HR1.out.qc 0
  have d1 := cell_got HR1.out.qc 1
  have f0 := frozen_got HR1.out.qc 0
  rw [sw_length, HK.out] at d0
  have hqs1 := got_lt HR1.out.qc
  have hgs1 := HR1.out.row.lt
  have hk1 : k < (sw l i k).length := by rw [sw_length]; exact hkl
  have r0 := HR1.out.row.cell evc_len (el_some hk1) (j := 0) (by omega)
  have r1 := HR1.out.row.cell evc_len (el_some hk1) (j := 1) (by omega)
  have r2 := HR1.out.row.cell evc_len (el_some hk1) (j := 2) (by omega)
  simp only [Nat.add_zero, evc] at r0 r1 r2
  go_wp2
  refine wp_region_grown [0,1,2,3,4,5,6,7,8,9,10,11,12] [13] (by kernel_rfl) (by kernel_rfl) ?_
  simp only [pick, List.map_cons, List.map_nil, List.getD_cons_succ, List.getD_cons_zero]
  iterate 12 (refine wpQuiet_step (fun K hK => ?_); go_simp; refine hK _ ?_; clear hK K)
  refine wpQuiet_enter rfl 50 #[.agg #[.int .i64 (el (sw l i k) k).t, .int .i64 (el (sw l i k) k).i, .int .i64 (el (sw l i k) k).x]] (fun _ => by kernel_rfl) (.int .i64 (el (sw l i k) k).i) (grown_calls fun w' _ => key_any _ _ _ w') ?_
  refine wpQuiet_nil ?_
  intro w2 hw2
  have ho2 := only_of_plus hw2; clear hw2
  clear r0 r1 r2 d0 d1 f0
  obtain ⟨D, hD, hok, hsz⟩ := HR1.out.map
  have HD := Lib.hid hD; have HOK := Lib.hid hok; have HSZ := Lib.hid hsz; clear hD hok hsz
  have hek : el (sw l i k) k = el l i := by rw [el_sw l i k k hi hkl, if_pos rfl]
  have HEK := Lib.hid hek; clear hek
  refine wpList_delete_own _ rfl _ _ 49 3 rfl 3 (Maps.int_keyed Try.underlying3) Try.underlying49 (plainElem Try.prog 3) b _ D rfl (EMap.kept HD.out ho2 (by simp)) _ (.int .i64 (el (sw l i k) k).i) rfl (Maps.keyOf_int_mk Try.underlying3 (HOK.out.wf _ (List.mem_of_getElem? (el_some hk1)))) ?_
  intro w3 hm3 ht3
  have ho3 : Only [b] w2 w3 := (Only.refl [b] w2).grown ht3.grown (by simp)
  have HM3 := Lib.hid hm3; clear hm3 ht3
  have hq3 := ho3.got (ho2.got HR1.out.qc (by simp)) (by simpa using Ne.symm hbg.2)
  rw [sw_length, HK.out] at hq3
  have d0 := cell_got hq3 0
  have f0 := frozen_got hq3 0
  have HQ3 := Lib.hid hq3; clear hq3
  have hcap : k + 1 ≤ cap := by obtain ⟨cur, _, _, h, _⟩ := HR.out.row; have := HK.out; omega
  have hcm : cap ≤ 9223372036854775807 := by obtain ⟨cur, _, _, _, h, _⟩ := HR.out.row; simp only [maxLen] at h; omega
  have hsz' : Maps.size (D.del (.int .i64 (el (sw l i k) k).i)) = k := by
    have t0 := EMap.key _ _ _ _ HD.out
    have := Maps.size_del (k := .int .i64 (el (sw l i k) k).i) t0
    rw [(HOK.out.at_ k _ (el_some hk1)).1, HSZ.out, sw_length, HK.out] at this
    simpa using this
  have HSZ' := Lib.hid hsz'; clear hsz'
  have hlen : ((sw l i k).take k).length = k := by rw [List.length_take, sw_length, HK.out]; omega
  have HLEN := Lib.hid hlen; clear hlen
  have hmem : ∀ e, e ∈ (sw l i k).take k ↔ e ∈ l ∧ e.i ≠ (el l i).i := fun e => by
    rw [mem_dropLast HOK.out (by rw [sw_length, HK.out]) e, mem_sw hi hkl, HEK.out]
  have HMEM := Lib.hid hmem; clear hmem
  by_cases hik : i < k
  · have hdn : DownInv ((sw l i k).take k).length (el ((sw l i k).take k)) i i := by
      rw [HLEN.out]
      refine heap_replace (heap_mono HH.out (by omega)) hik (fun j hj hji => ?_)
      rw [el_take hj, el_sw l i k j hi hkl, if_neg (by omega), if_neg hji]
    have HDN := Lib.hid hdn; clear hdn
    go_wp2_with fail
    have hrep4 : HRep (w3.setCell ⟨q, 0, none⟩ (.slice (some ⟨g, 0, none⟩) k cap)) q g cap b a2 a3 a4 ((sw l i k).take k) := by
      have hoc : Only [q] w3 (w3.setCell ⟨q, 0, none⟩ (.slice (some ⟨g, 0, none⟩) k cap)) := (Only.refl [q] w3).setCell (by simp) _
      refine ⟨?_, ((((HR1.out.row.kept ho2 (by simp)).kept ho3 (by simpa using Ne.symm hbg.1)).kept hoc (by simpa using Ne.symm hqg)).take evc_len k), ⟨_, ?_, HOK.out.drop (by rw [sw_length, HK.out]), by rw [HLEN.out]; exact HSZ'.out⟩, hqg, by rw [HLEN.out]; exact hkb⟩
      · rw [HLEN.out]; exact setCell_got _ HQ3.out
      · have := EMap.tight (EMap.kept HM3.out hoc (by simpa using hbg.2))
        rw [HSZ'.out] at this
        rw [HLEN.out]; exact this
    have HR4 := Lib.hid hrep4; clear hrep4
    refine (down_any HR4.out (by rw [HLEN.out]; exact hik) HDN.out).mono ?_
    rintro e w5 ⟨rfl, l5, hrep5, ho5, hl5, hu5, hm5⟩
    have HR5 := Lib.hid hrep5; have HL5 := Lib.hid hl5; have HU5 := Lib.hid hu5; have HM5 := Lib.hid hm5; clear hrep5 hl5 hu5 hm5
    go_wp2_with fail
    refine (up_any HR5.out (by rw [HL5.out, HLEN.out]; exact hik) HU5.out).mono ?_
    rintro e w6 ⟨rfl, l6, hrep6, ho6, hl6, hh6, hm6⟩
    have HR6 := Lib.hid hrep6; have HL6 := Lib.hid hl6; have HU6 := Lib.hid hh6; have HM6 := Lib.hid hm6; clear hrep6 hl6 hh6 hm6
    go_wp2
    go_end0
    refine ⟨rfl, l6, HR6.out, ?_, by rw [HL6.out, HL5.out, HLEN.out, HK.out], HU6.out, fun e => by rw [HM6.out e, HM5.out e, HMEM.out e]⟩
    have o2 : Only [q, g, b] w w2 := (ho1.weak (by simp)).nil_trans ho2
    have o3 : Only [q, g, b] w w3 := o2.trans ho3 (by simp)
    have o4 := o3.setCell (p := ⟨q, 0, none⟩) (by simp) (.slice (some ⟨g, 0, none⟩) k cap)
    exact (o4.trans ho5 (by simp)).trans ho6 (by simp)
  · have hie : i = k := by have := HK.out; omega
    have hik' : ¬ (i : Int) < (k : Int) := by omega
    have HIE := Lib.hid hie; clear hie
    go_wp2
    go_end0
    have hoc : Only [q] w3 (w3.setCell ⟨q, 0, none⟩ (.slice (some ⟨g, 0, none⟩) k cap)) := (Only.refl [q] w3).setCell (by simp) _
    refine ⟨rfl, (sw l i k).take k, ⟨?_, ((((HR1.out.row.kept ho2 (by simp)).kept ho3 (by simpa using Ne.symm hbg.1)).kept hoc (by simpa using Ne.symm hqg)).take evc_len k), ⟨_, ?_, HOK.out.drop (by rw [sw_length, HK.out]), by rw [HLEN.out]; exact HSZ'.out⟩, hqg, by rw [HLEN.out]; exact hkb⟩, ?_, by rw [HLEN.out, HK.out], ?_, HMEM.out⟩
    · rw [HLEN.out]; exact setCell_got _ HQ3.out
    · have := EMap.tight (EMap.kept HM3.out hoc (by simpa using hbg.2))
      rw [HSZ'.out] at this
      rw [HLEN.out]; exact this
    · have o2 : Only [q, g, b] w w2 := (ho1.weak (by simp)).nil_trans ho2
      have o3 : Only [q, g, b] w w3 := o2.trans ho3 (by simp)
      exact o3.setCell (p := ⟨q, 0, none⟩) (by simp) (.slice (some ⟨g, 0, none⟩) k cap)
    · rw [HLEN.out]
      intro j h1 h2
      rw [el_take h2, el_take (by omega), el_sw l i k j hi hkl, el_sw l i k _ hi hkl, if_neg (by omega), if_neg (by have := HIE.out; omega), if_neg (by omega), if_neg (by have := HIE.out; omega)]
      exact HH.out j h1 (by omega)
end Go.Proofs.Ytpiilepmaomfeaa
