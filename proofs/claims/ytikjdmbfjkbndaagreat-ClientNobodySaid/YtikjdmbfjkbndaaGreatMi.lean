/- interval.Hull. Condition: the length of the list. -/
import Derived.Test.YtikjdmbfjkbndaaGreatMh
import Derived.Test.YtikjdmbfjkbndaaGreatCalm
namespace Go.Proofs.YtikjdmbfjkbndaaGreat
open Go.RowKit

/-- the hull of the instants that at least so many intervals contain -/
def hullI (l : List Iv) (need : Int) : Option Iv := if need < 1 then none else
  match (sortI (endsI Iv.lo (pkI l need) l)).head?, (sortI (endsI Iv.hi (pkI l need) l)).getLast? with
  | some a, some b => some ⟨a, b⟩
  | _, _ => none
def hullV : Option Iv → Value
  | some x => .tuple #[ivV x, .bool true]
  | none => .tuple #[ivV ⟨0, 0⟩, .bool false]
set_option maxRecDepth 100000 in
set_option maxHeartbeats 4000000 in
theorem pHull {w : World} {p : Option Addr} {n cap : Nat} {l : List Iv} (hv : VRow ivC 2 w p n cap l) (hn : l.length ≤ 48) (need : Int) :
    Calls Tryz.prog 92 #[.slice p n cap, .int .i64 need] w fun e w' => e = .returned (hullV (hullI l need)) ∧ Only [] w w' := by
  have HV := Lib.hid hv
  clear hv
  obtain ⟨res, hres⟩ : ∃ res, res = hullI l need := ⟨_, rfl⟩
  rw [← hres]
  have HR := Lib.hid hres
  clear hres
  go_enter Tryz.func92, Tryz.ntmps92
  go_upto_region 1 with (fail)
  refine wabs (G := fun w0 => Code.wp _ _ _ _ w0) (R := fun w1 => w1.heap[w.heap.size]? = some (.cells #[.slice p n cap] 182 (0, 0)) ∧ w1.heap[w.heap.size + 1]? = some (.cells #[.int .i64 need] 3 (0, 0)) ∧ w1.heap[w.heap.size + 2]? = some (.cells #[.int .i64 0, .int .i64 0] 45 (0, 0)) ∧ Only [] w w1) ?_ ?_
  · have k0 := alloc_new w (.cells #[.slice p n cap] 182)
    have k1 := alloc_new (w.alloc (.cells #[.slice p n cap] 182)) (.cells #[.int .i64 need] 3)
    have k2 := alloc_new ((w.alloc (.cells #[.slice p n cap] 182)).alloc (.cells #[.int .i64 need] 3)) (.cells #[.int .i64 0, .int .i64 0] 45)
    simp only [World.size_alloc] at k0 k1 k2
    exact ⟨alloc_old (alloc_old k0), alloc_old k1, k2, (((Only.refl [] w).alloc _).alloc _).alloc _⟩
  rintro w1 ⟨h1, h2, h3, ho1⟩
  have B1 := Lib.hid h1; have B2 := Lib.hid h2; have B3 := Lib.hid h3; have O1 := Lib.hid ho1; have HS := Lib.hid ho1.size
  obtain ⟨b1, hb1⟩ : ∃ b, w.heap.size = b := ⟨_, rfl⟩
  obtain ⟨b2, hb2⟩ : ∃ b, w.heap.size + 1 = b := ⟨_, rfl⟩
  obtain ⟨b3, hb3⟩ : ∃ b, w.heap.size + 2 = b := ⟨_, rfl⟩
  have HN3 : Hid (w.heap.size ≤ b3 ∧ b1 ≠ b3 ∧ b2 ≠ b3) := Lib.hid (by omega)
  rw [hb1] at B1
  rw [hb2] at B2
  rw [hb3] at B3
  rw [show w.heap.size + 1 + 1 = b3 from hb3, hb2, hb1]
  clear h1 h2 h3 ho1 hb1 hb2 hb3
  have k1 := cell_got B1.out 0; have k2 := cell_got B2.out 0; have l1 := got_lt B1.out; have l2 := got_lt B2.out; have k3 := cell_got B3.out 0; have k4 := cell_got B3.out 1; have l3 := got_lt B3.out; have z3 := frozen_got B3.out 0; have z4 := frozen_got B3.out 1
  by_cases hneed : need < 1
  · obtain rfl : res = none := by rw [HR.out]; unfold hullI; rw [if_pos hneed]
    have a1 : decide (need < 1) = true := decide_eq_true hneed
    clear HR
    go_wp2
    have HD := setCell_got (o := 1) (.int .i64 0) (setCell_got (o := 0) (.int .i64 0) B3.out)
    have e0 := cell_got HD 0; have e1 := cell_got HD 1; have le := got_lt HD
    refine bodyPost_ret (v := hullV none) (by simp [results, Tryz.results92, go_sem, e0, e1, hullV, ivV]) rfl ⟨rfl, ?_⟩
    exact (O1.out.setCell (.inr HN3.out.1) _).setCell (.inr HN3.out.1) _
  have a1 : decide (need < 1) = false := decide_eq_false hneed
  have HR2 : Hid (res = match (sortI (endsI Iv.lo (pkI l need) l)).head?, (sortI (endsI Iv.hi (pkI l need) l)).getLast? with
    | some a, some b => some ⟨a, b⟩
    | _, _ => none) := Lib.hid (by rw [HR.out]; unfold hullI; rw [if_neg hneed])
  have HL := Lib.hid (fun w' (ho : Only [] w1 w') => pEnds_lower (pk := pkI l need) ((HV.out.kept O1.out).kept ho) hn (fun t w'' ho' => pEnough (((HV.out.kept O1.out).kept ho).kept ho') hn (ho'.got (ho.got B1.out (by simp)) (by simp)) (ho'.got (ho.got B2.out (by simp)) (by simp)) t))
  have HU := Lib.hid (fun w' (ho : Only [] w1 w') => pEnds_upper (pk := pkI l need) ((HV.out.kept O1.out).kept ho) hn (fun t w'' ho' => pEnough (((HV.out.kept O1.out).kept ho).kept ho') hn (ho'.got (ho.got B1.out (by simp)) (by simp)) (ho'.got (ho.got B2.out (by simp)) (by simp)) t))
  generalize sortI (endsI Iv.lo (pkI l need) l) = S1 at HR2 HL
  generalize sortI (endsI Iv.hi (pkI l need) l) = S2 at HR2 HU
  clear HR
  go_wp2_with fail
  refine wp_region_calm2 [0, 1, 3, 4] [] (OnlyC ([] : List Nat) w1) (by kernel_rfl) (by kernel_rfl) ?_
  simp only [pick, List.map_cons, List.map_nil, List.getD_cons_succ, List.getD_cons_zero]
  iterate 4 (refine wpCalm_step (fun K hK => ?_); go_simp; refine hK _ ?_; clear hK K)
  refine wpCalm_nil ?_
  refine Rest.by (X := Value × Value) (fun y a => (((a.put (some 15) y.1).put (some 18) y.2).put (some 7) y.1).put (some 8) y.2) (fun y w' => Own intC 3 1 w1.heap.size w' y.1 S1 ∧ Own intC 3 1 w1.heap.size w' y.2 S2 ∧ Only [] w1 w') ?_ ?_
  · rintro ⟨y1, y2⟩ w3 ⟨hR1, hR2, ho3⟩
    simp only [Act.put, List.setIfInBounds_toArray, List.set_cons_succ, List.set_cons_zero]
    obtain ⟨q1, c1, rfl, hv1⟩ := Own.vrow (enc := intC) (s := 1) intC_len hR1
    obtain ⟨q2, c2, rfl, hv2⟩ := Own.vrow (enc := intC) (s := 1) intC_len hR2
    have V1 := Lib.hid hv1; have V2 := Lib.hid hv2; have O3 := Lib.hid ho3; have OW := Lib.hid (O1.out.nil_trans ho3); have D3 := Lib.hid (ho3.got B3.out (by simp))
    clear hR1 hR2 ho3 hv1 hv2 k1 k2 k3 k4 l1 l2 l3 z3 z4 HL HU
    have k3 := cell_got D3.out 0; have k4 := cell_got D3.out 1; have l3 := got_lt D3.out; have z3 := frozen_got D3.out 0; have z4 := frozen_got D3.out 1
    by_cases h1 : S1 = []
    · obtain rfl : res = none := by rw [HR2.out, h1]; rfl
      subst h1
      clear HR2
      go_wp2
      have HD := setCell_got (o := 1) (.int .i64 0) (setCell_got (o := 0) (.int .i64 0) D3.out)
      have e0 := cell_got HD 0; have e1 := cell_got HD 1; have le := got_lt HD
      refine bodyPost_ret (v := hullV none) (by simp [results, Tryz.results92, go_sem, e0, e1, hullV, ivV]) rfl ⟨rfl, ?_⟩
      exact (OW.out.setCell (.inr HN3.out.1) _).setCell (.inr HN3.out.1) _
    · have n1 : 0 < S1.length := List.length_pos_iff.2 h1
      by_cases h2 : S2 = []
      · obtain rfl : res = none := by rw [HR2.out, h2]; cases S1 <;> rfl
        have n1' : ((S1.length : Int) == 0) = false := by rw [beq_eq_false_iff_ne]; omega
        subst h2
        clear HR2
        go_wp2
        have HD := setCell_got (o := 1) (.int .i64 0) (setCell_got (o := 0) (.int .i64 0) D3.out)
        have e0 := cell_got HD 0; have e1 := cell_got HD 1; have le := got_lt HD
        refine bodyPost_ret (v := hullV none) (by simp [results, Tryz.results92, go_sem, e0, e1, hullV, ivV]) rfl ⟨rfl, ?_⟩
        exact (OW.out.setCell (.inr HN3.out.1) _).setCell (.inr HN3.out.1) _
      · have n2 : 0 < S2.length := List.length_pos_iff.2 h2
        have n1' : ((S1.length : Int) == 0) = false := by rw [beq_eq_false_iff_ne]; omega
        have n2' : ((S2.length : Int) == 0) = false := by rw [beq_eq_false_iff_ne]; omega
        obtain ⟨x, hx⟩ : ∃ x, S1[0] = x := ⟨_, rfl⟩
        obtain ⟨j, hj⟩ : ∃ j, S2.length - 1 = j := ⟨_, rfl⟩
        have hjl : j < S2.length := by omega
        have hj2 : (S2.length : Int) - 1 = (j : Int) := by omega
        obtain ⟨y, hy⟩ : ∃ y, S2[j] = y := ⟨_, rfl⟩
        obtain rfl : res = some ⟨x, y⟩ := by
          rw [HR2.out, List.head?_eq_getElem?, List.getElem?_eq_getElem n1, hx, List.getLast?_eq_getElem?, hj, List.getElem?_eq_getElem hjl, hy]
        obtain ⟨g1, o1, hp1, hg1, hc1⟩ := V1.out.cell 0 x (by rw [List.getElem?_eq_getElem n1, hx])
        obtain ⟨g2, o2, hp2, hg2, hc2⟩ := V2.out.cell j y (by rw [List.getElem?_eq_getElem hjl, hy])
        subst hp1 hp2
        have m1 := hc1 0 _ rfl
        have m2 := hc2 0 _ rfl
        simp only [Nat.add_zero, Nat.mul_one] at m1 m2
        have hjb : (j : Int) ≤ 9223372036854775807 := by
          have h5 := V2.out.le
          have h6 := V2.out.cm
          simp only [maxLen] at h6
          omega
        have hjw : IntKind.i64.wrap (j : Int) = (j : Int) := by rw [IntKind.wrap_i64]; omega
        clear HR2 hc1 hc2 h1 h2 hx hy hj
        go_wp2_with fail
        refine wp_region_grown [0, 1, 2, 3, 4, 5, 6, 7, 8, 9] [10, 11] (by kernel_rfl) (by kernel_rfl) ?_
        simp only [pick, List.map_cons, List.map_nil, List.getD_cons_succ, List.getD_cons_zero]
        iterate 10 (refine wpQuiet_step (fun K hK => ?_); go_simp; refine hK _ ?_; clear hK K)
        refine wpQuiet_nil ?_
        intro w4 hw4
        have O4 := Lib.hid (only_of_plus hw4)
        have E4 := Lib.hid (O4.out.got D3.out (by simp)); have P4 := Lib.hid (OW.out.nil_trans O4.out)
        clear hw4 k3 k4 l3 z3 z4 m1 m2
        have k3 := cell_got E4.out 0; have k4 := cell_got E4.out 1; have l3 := got_lt E4.out; have z3 := frozen_got E4.out 0; have z4 := frozen_got E4.out 1
        go_wp2
        have HD := setCell_got (o := 1) (.int .i64 y) (setCell_got (o := 0) (.int .i64 x) E4.out)
        have e0 := cell_got HD 0; have e1 := cell_got HD 1; have le := got_lt HD
        refine bodyPost_ret (v := hullV (some ⟨x, y⟩)) (by simp [results, Tryz.results92, go_sem, e0, e1, hullV, ivV]) rfl ⟨rfl, ?_⟩
        exact (P4.out.setCell (.inr HN3.out.1) _).setCell (.inr HN3.out.1) _
  · refine wpAnyC_next [2] (by kernel_rfl) (by simp) (.inr (onlyC (Only.refl [] w1).drew)) ?_
    simp only [List.mem_cons, List.not_mem_nil, or_false, forall_eq]
    refine wpOp_one rfl ?_
    go_wp2_with fail
    refine (HL.out _ (Only.refl [] w1).drew).mono ?_
    rintro e w2 ⟨⟨v2, rfl, hown2⟩, ho2⟩
    have O2 := Lib.hid ((Only.refl [] w1).drew.nil_trans ho2); have W2 := Lib.hid (hown2.base (Only.refl [] w1).drew.size)
    clear hown2 ho2
    go_wp2
    simp only [nrm]
    refine wpAnyC_next [5] (by kernel_rfl) (by simp) (.inr (onlyC O2.out)) ?_
    simp only [List.mem_cons, List.not_mem_nil, or_false, forall_eq]
    refine wpOp_one rfl ?_
    go_wp2_with fail
    refine (HU.out _ O2.out).mono ?_
    rintro e w3 ⟨⟨v3, rfl, hown3⟩, ho3⟩
    have O3 := Lib.hid (O2.out.nil_trans ho3); have W3 := Lib.hid (hown3.base O2.out.size); have V3 := Lib.hid (W2.out.kept ho3)
    clear hown3 ho3
    go_wp2
    simp only [nrm]
    refine wpAnyC_next [6] (by kernel_rfl) (by simp) (.inr (onlyC O3.out)) ?_
    simp only [List.mem_cons, List.not_mem_nil, or_false, forall_eq]
    refine wpOp_one rfl ?_
    go_wp2
    simp only [nrm]
    refine wpAnyC_next [7] (by kernel_rfl) (by simp) (.inr (onlyC O3.out)) ?_
    simp only [List.mem_cons, List.not_mem_nil, or_false, forall_eq]
    refine wpOp_one rfl ?_
    go_wp2
    simp only [nrm]
    refine wpAnyC_done (by kernel_rfl) (.inr (onlyC O3.out)) ⟨(v2, v3), ?_, V3.out, W3.out, O3.out⟩
    simp [Act.put]
end Go.Proofs.YtikjdmbfjkbndaaGreat
