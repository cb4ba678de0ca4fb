/- slices.SortFunc by the order of merit, slices.Clone and slices.Delete of one, on candidates. Conditions: the lengths. -/
import Derived.Test.YtikjdmbfjkbndaaGreatMc
import Derived.Deep.RegionLaw
import Derived.Shelf.RegionOpenPlain
namespace Go.Proofs.YtikjdmbfjkbndaaGreat
open Go.RowKit Go.Sort

/-- the order of merit -/
def cfC (x y : Cd) : Int := if Lib.compareInt x.str y.str != 0 then Lib.compareInt x.str y.str else if Lib.compareInt x.dist y.dist != 0 then Lib.compareInt x.dist y.dist else Lib.compareInt x.id y.id
theorem cfC_lt (x y : Cd) : ltOf cfC x y = decide (x.str < y.str ∨ (x.str = y.str ∧ (x.dist < y.dist ∨ (x.dist = y.dist ∧ x.id < y.id)))) := by
  unfold ltOf cfC Lib.compareInt
  by_cases h1 : x.str < y.str
  · simp [h1]
  · by_cases h2 : y.str < x.str
    · have : x.str ≠ y.str := by omega
      simp [h1, h2, this]
    · have e : x.str = y.str := by omega
      by_cases h3 : x.dist < y.dist
      · simp [e, h3]
      · by_cases h4 : y.dist < x.dist
        · have : x.dist ≠ y.dist := by omega
          simp [e, h3, h4, this]
        · have e2 : x.dist = y.dist := by omega
          by_cases h5 : x.id < y.id
          · simp [e, e2, h5]
          · by_cases h6 : y.id < x.id <;> simp [e, e2, h5, h6]
theorem cfC_swo : SWO (ltOf cfC) where
  irrefl x := by rw [cfC_lt]; simp
  trans x y z h1 h2 := by rw [cfC_lt] at *; simp only [decide_eq_true_eq] at *; omega
  ntrans x y z h1 h2 := by rw [cfC_lt] at *; simp only [decide_eq_false_iff_not] at *; omega
theorem cdC_one (c : Cd) : ∀ u ∈ cdC c, u.oneCell' = true := by
  intro u hu
  simp only [cdC, List.mem_cons, List.not_mem_nil, or_false] at hu
  rcases hu with rfl | rfl | rfl | rfl | rfl <;> rfl
/-- two records in new blocks -/
structure OcW (W : World) (xi xo xd xj xs yi yo yd yj ys : Int) (w : World) : Prop where
  eq : ∃ q os', w = grow (W.drewN q) os'
  a : w.heap[W.heap.size]? = some (.cells #[.int .i64 xi, .int .i64 xo, .int .i64 xd, .int .i64 xj, .int .i64 xs] 126 (0, 0))
  b : w.heap[W.heap.size + 1]? = some (.cells #[.int .i64 yi, .int .i64 yo, .int .i64 yd, .int .i64 yj, .int .i64 ys] 126 (0, 0))
theorem ocW_intro (W : World) (xi xo xd xj xs yi yo yd yj ys : Int) : OcW W xi xo xd xj xs yi yo yd yj ys ((W.alloc (.cells #[.int .i64 xi, .int .i64 xo, .int .i64 xd, .int .i64 xj, .int .i64 xs] 126)).alloc (.cells #[.int .i64 yi, .int .i64 yo, .int .i64 yd, .int .i64 yj, .int .i64 ys] 126)) := by
  refine ⟨⟨0, _, by rw [alloc_eq_grow, alloc_eq_grow, grow_grow]; rfl⟩, alloc_old (alloc_new _ _), ?_⟩
  have := alloc_new (W.alloc (.cells #[.int .i64 xi, .int .i64 xo, .int .i64 xd, .int .i64 xj, .int .i64 xs] 126)) (.cells #[.int .i64 yi, .int .i64 yo, .int .i64 yd, .int .i64 yj, .int .i64 ys] 126)
  rwa [World.size_alloc] at this
set_option maxRecDepth 100000 in
set_option maxHeartbeats 1000000 in
theorem pOrderCmp (x y : Cd) (W : World) : Calls Tryz.prog 162 #[cdV x, cdV y] W fun e w' => e = .returned (.int .i64 (cfC x y)) ∧ ∃ q os', w' = grow (W.drewN q) os' := by
  obtain ⟨xi, xo, xd, xj, xs⟩ := x
  obtain ⟨yi, yo, yd, yj, ys⟩ := y
  have H1 := Lib.hid (fun W' => Tryz.cmp_Compare_int xs ys W'); have H2 := Lib.hid (fun W' => Tryz.cmp_Compare_int xd yd W'); have H3 := Lib.hid (fun W' => Tryz.cmp_Compare_int xi yi W')
  have HC : Hid (cfC ⟨xi, xo, xd, xj, xs⟩ ⟨yi, yo, yd, yj, ys⟩ = if Lib.compareInt xs ys != 0 then Lib.compareInt xs ys else if Lib.compareInt xd yd != 0 then Lib.compareInt xd yd else Lib.compareInt xi yi) := Lib.hid rfl
  generalize Lib.compareInt xs ys = a at H1 HC
  generalize Lib.compareInt xd yd = b at H2 HC
  generalize Lib.compareInt xi yi = c at H3 HC
  generalize cfC ⟨xi, xo, xd, xj, xs⟩ ⟨yi, yo, yd, yj, ys⟩ = r at HC ⊢
  unfold cdV
  dsimp only
  by_cases ha : (a != 0) = true
  · obtain rfl : r = a := by rw [HC.out, if_pos ha]
    clear HC
    go_enter Tryz.func162, Tryz.ntmps162
    go_upto_region 1 with (fail)
    refine wabs (G := fun w0 => Code.wp _ _ _ _ w0) (R := OcW W xi xo xd xj xs yi yo yd yj ys) (ocW_intro ..) ?_
    intro w1 hw1
    have HW := Lib.hid hw1
    clear hw1
    have c0 := cell_got HW.out.a 0; have c2 := cell_got HW.out.a 2; have c4 := cell_got HW.out.a 4; have e0 := cell_got HW.out.b 0; have e2 := cell_got HW.out.b 2; have e4 := cell_got HW.out.b 4; have l1 := got_lt HW.out.a; have l2 := got_lt HW.out.b
    go_wp2_with fail
    refine (H1.out _).mono ?_
    rintro e w' ⟨rfl, rfl⟩
    go_wp2
    go_ret
    exact ⟨rfl, HW.out.eq⟩
  · have ha' : (a != 0) = false := by simpa using ha
    by_cases hb : (b != 0) = true
    · obtain rfl : r = b := by rw [HC.out, if_neg ha, if_pos hb]
      clear HC ha
      go_enter Tryz.func162, Tryz.ntmps162
      go_upto_region 1 with (fail)
      refine wabs (G := fun w0 => Code.wp _ _ _ _ w0) (R := OcW W xi xo xd xj xs yi yo yd yj ys) (ocW_intro ..) ?_
      intro w1 hw1
      have HW := Lib.hid hw1
      clear hw1
      have c0 := cell_got HW.out.a 0; have c2 := cell_got HW.out.a 2; have c4 := cell_got HW.out.a 4; have e0 := cell_got HW.out.b 0; have e2 := cell_got HW.out.b 2; have e4 := cell_got HW.out.b 4; have l1 := got_lt HW.out.a; have l2 := got_lt HW.out.b
      go_wp2_with fail
      refine (H1.out _).mono ?_
      rintro e w' ⟨rfl, rfl⟩
      go_wp2_with fail
      refine (H2.out _).mono ?_
      rintro e w' ⟨rfl, rfl⟩
      go_wp2
      go_ret
      exact ⟨rfl, HW.out.eq⟩
    · have hb' : (b != 0) = false := by simpa using hb
      obtain rfl : r = c := by rw [HC.out, if_neg ha, if_neg hb]
      clear HC ha hb
      go_enter Tryz.func162, Tryz.ntmps162
      go_upto_region 1 with (fail)
      refine wabs (G := fun w0 => Code.wp _ _ _ _ w0) (R := OcW W xi xo xd xj xs yi yo yd yj ys) (ocW_intro ..) ?_
      intro w1 hw1
      have HW := Lib.hid hw1
      clear hw1
      have c0 := cell_got HW.out.a 0; have c2 := cell_got HW.out.a 2; have c4 := cell_got HW.out.a 4; have e0 := cell_got HW.out.b 0; have e2 := cell_got HW.out.b 2; have e4 := cell_got HW.out.b 4; have l1 := got_lt HW.out.a; have l2 := got_lt HW.out.b
      go_wp2_with fail
      refine (H1.out _).mono ?_
      rintro e w' ⟨rfl, rfl⟩
      go_wp2_with fail
      refine (H2.out _).mono ?_
      rintro e w' ⟨rfl, rfl⟩
      go_wp2_with fail
      refine (H3.out _).mono ?_
      rintro e w' ⟨rfl, rfl⟩
      go_wp2
      go_ret
      exact ⟨rfl, HW.out.eq⟩
/-- slices.SortFunc of the call's own candidates: a permutation -/
theorem sortf_own {w : World} {g cap : Nat} {l : List Cd} (h : RowAt cdC 126 5 w g cap l) (hl : l.length ≤ 12) :
    Calls Tryz.prog 161 #[.slice (some ⟨g, 0, none⟩) l.length cap, .func (.func 162) #[] #[]] w fun e w' => e = .returned (.tuple #[]) ∧ (∃ l', l'.Perm l ∧ RowAt cdC 126 5 w' g cap l') ∧ Only [g] w w' := by
  obtain ⟨cur, hg, h1, h2, h3, h4⟩ := h
  have hfl := flatK_list cdC 5 cdC_len l
  have hold : HoldsK cdC 5 w g 0 l.toArray := by
    intro j hj
    rw [Nat.zero_add]
    refine ⟨?_, frozen_got hg j⟩
    have hj' : j < l.length * 5 := by simpa using hj
    rw [cell_got hg, ← Array.getElem?_toList, ← List.getElem?_take_of_lt hj', h4, ← hfl, Array.getElem?_toList, getElem!_pos _ j hj, Array.getElem?_eq_getElem hj]
    rfl
  have hs : l.toArray.size = l.length := by simp
  have hc := AnyQ.slices_SortFunc_small_sorted Tryz.laySortF 5 Tryz.isAgg126 Tryz.sizeOf126 cdC cdC_len cdC_one cfC 162 #[] cfC_swo g 0 cap l.toArray w (enters_of Tryz.func162 (by kernel_rfl) rfl) (fun _ _ _ _ x y => pOrderCmp x y _) hold (got_lt hg) (by simpa using hl) (fun n W hn => (Tryz.bits_Len n W (by omega) (by omega)).mono fun _ _ ⟨he, hw⟩ => ⟨⟨_, he⟩, hw⟩)
  rw [hs] at hc
  refine hc.mono ?_
  rintro e w' ⟨rfl, d', n, os, ⟨hsz, _, hp⟩, _, rfl⟩
  have hd : d'.size = l.length := by simpa using hsz
  have hpm : d'.toList.Perm l := by
    have e1 : d'.extract 0 l.length = d' := by rw [← hd]; simp
    have e2 : l.toArray.extract 0 l.length = l.toArray := by simp
    rw [e1, e2] at hp
    simpa using hp
  refine ⟨rfl, ⟨d'.toList, hpm, _, sorted_heap hg, by rw [putCells_size]; omega, by rw [hpm.length_eq]; exact h2, h3, ?_⟩, sorted_only⟩
  have hf2 := flatK_list cdC 5 cdC_len d'.toList
  have hle : (flatK cdC 5 d').size ≤ cur.size := by simp; rw [hd]; omega
  have := putCells_take id (flatK cdC 5 d') cur hle
  rw [List.map_id, show d' = d'.toList.toArray by simp, hf2] at this
  rw [← this]
  simp
end Go.Proofs.YtikjdmbfjkbndaaGreat
