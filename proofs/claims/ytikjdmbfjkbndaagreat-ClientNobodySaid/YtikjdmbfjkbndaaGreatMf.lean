/- slices.Delete of one candidate. Conditions: the lengths. -/
import Derived.Test.YtikjdmbfjkbndaaGreatMe
namespace Go.Proofs.YtikjdmbfjkbndaaGreat
open Go.RowKit

theorem flat_drop {α : Type} (enc : α → List Value) (s : Nat) (hs : ∀ x, (enc x).length = s) (l : List α) (k : Nat) : (l.flatMap enc).drop (k * s) = (l.drop k).flatMap enc := by
  induction l generalizing k with
  | nil => simp
  | cons y l ih =>
    cases k with
    | zero => simp
    | succ k =>
      rw [List.flatMap_cons, List.drop_succ_cons, ← ih k, Nat.succ_mul, List.drop_append, hs, List.drop_of_length_le (by rw [hs]; omega), List.nil_append]
      congr 1; omega
def cdZs : List Value := [.int .i64 0, .int .i64 0, .int .i64 0, .int .i64 0, .int .i64 0]
theorem run_clear_one {w : World} {g k c : Nat} {ty : TypeId} {cur : Array Value} (hg : w.heap[g]? = some (.cells cur 126 (0, 0))) (hfit : k * 5 + 5 ≤ cur.size) :
    (Builtin.clear_ #[85] ty #[.slice (some ⟨g, k * 5, none⟩) 1 c]).run Tryz.prog w = .ok (.tuple #[]) (w.setRow g (cur.toList.take (k * 5) ++ cdZs ++ cur.toList.drop (k * 5 + 5)).toArray) := by
  have hst := run_storeCells_at Tryz.prog g (k * 5) 126 cdZs 0 cur w hg (by simpa [cdZs] using hfit) (by intro v hv; simp [cdZs] at hv; subst hv; rfl)
  simp only [Nat.add_zero] at hst
  have hzc : (Builtin.zeroCells cdZ.cells 1).toList = cdZs := by simp [Builtin.zeroCells, cdZ, cdZs, Value.cells]; rfl
  have hzv : (zeroValue 126).run Tryz.prog w = .ok cdZ w := Tryz.zeroValue126 w
  simp [Builtin.clear_, run_underlying Tryz.underlying85, hzv, hzc, hst]
  rfl
set_option maxRecDepth 1000000 in
set_option maxHeartbeats 2000000 in
theorem deleteC {w : World} {g cap i : Nat} {l : List Cd} (h : RowAt cdC 126 5 w g cap l) (hi : i < l.length) (hl : l.length ≤ 1000) :
    Calls Tryz.prog 98 #[.slice (some ⟨g, 0, none⟩) l.length cap, .int .i64 i, .int .i64 (i + 1 : Nat)] w fun e w' => e = .returned (.slice (some ⟨g, 0, none⟩) (l.length - 1) cap) ∧ RowAt cdC 126 5 w' g cap (l.take i ++ l.drop (i + 1)) ∧ Only [g] w w' := by
  obtain ⟨cur, hg, h1, h2, h3, h4⟩ := h
  obtain ⟨i0, hi0, hz0, hz1, hz2⟩ := info_parts cd_info
  obtain ⟨news, hnews⟩ : ∃ news, news = (l.drop (i + 1)).flatMap cdC := ⟨_, rfl⟩
  have hlen : news.length = (l.length - (i + 1)) * 5 := by rw [hnews, flat_length cdC 5 cdC_len, List.length_drop]
  obtain ⟨n, hn⟩ : ∃ n, l.length = n := ⟨_, rfl⟩
  obtain ⟨j, hj⟩ : ∃ j, i + 1 = j := ⟨_, rfl⟩
  have hji : ((i : Nat) : Int) + 1 = (j : Int) := by omega
  rw [hn, hj] at hlen
  rw [hn, hj]
  have heq : ((i : Int) == (j : Int)) = false := by rw [beq_eq_false_iff_ne]; omega
  have hij : i < j := by omega
  have hjn : j ≤ n := by omega
  have hnc : n ≤ cap := by omega
  have hcm : cap ≤ 9223372036854775807 := by simp [maxLen] at h3; omega
  have hic : i ≤ cap := by omega
  have hjc : j ≤ cap := by omega
  obtain ⟨k, hk⟩ : ∃ k, i + (n - j) = k := ⟨_, rfl⟩
  have hkn : n - k = 1 := by omega
  have hcell : ∀ t, t < n * 5 → w.drew.cell? ⟨g, t, none⟩ = (l.flatMap cdC)[t]? := by
    intro t ht
    show w.cell? _ = _
    rw [cell_got hg, ← h4, hn, List.getElem?_take_of_lt ht, Array.getElem?_toList]
  obtain ⟨A, hA, hsrc⟩ : ∃ A : Addr, (if cap = j then some (⟨g, 0, none⟩ : Addr) else some ⟨g, j * 5, none⟩) = some A ∧ Hid (∀ t u, news[t]? = some u → w.drew.cell? (A.add t) = some u) := by
    by_cases h : cap = j
    · refine ⟨⟨g, 0, none⟩, by simp [h], Lib.hid fun t u hu => ?_⟩
      have h0 : news.length = 0 := by rw [hlen]; omega
      rw [List.length_eq_zero_iff.1 h0] at hu
      simp at hu
    · refine ⟨⟨g, j * 5, none⟩, by simp [h], Lib.hid fun t u hu => ?_⟩
      have ht : t < (n - j) * 5 := by
        have := (List.getElem?_eq_some_iff.1 hu).1
        rwa [hlen] at this
      rw [addr_add, hcell _ (by omega)]
      rw [hnews] at hu
      rw [← hu, ← List.getElem?_drop, ← flat_drop cdC 5 cdC_len, hj]
  have s1 := Lib.hid hlen
  have s2 : Hid (∀ u ∈ news, u.oneCell' = true) := Lib.hid (by rw [hnews]; exact cd_flat_one _)
  have s3 : Hid (∀ t, t < news.length → (w.drew.cell? ⟨g, 0 + i * 5 + t, none⟩).isSome = true ∧ w.drew.frozen? ⟨g, 0 + i * 5 + t, none⟩ = false) := Lib.hid (by
    intro t ht
    rw [hlen] at ht
    refine ⟨?_, frozen_got hg _⟩
    rw [Nat.zero_add, hcell _ (by omega), List.getElem?_eq_getElem (by rw [flat_length cdC 5 cdC_len, hn]; omega)]; rfl)
  have hcs : n * 5 ≤ cur.size := by rw [h1]; omega
  obtain ⟨hw1, ho1⟩ := setCells_got (w := w.drew) hg (0 + i * 5) news (by omega) s2.out
  obtain ⟨W1, hW1⟩ : ∃ W1, W1 = w.drew.setCells g (0 + i * 5) news := ⟨_, rfl⟩
  rw [← hW1] at hw1 ho1
  obtain ⟨cur1, hcur1⟩ : ∃ cur1, cur1 = (cur.toList.take (0 + i * 5) ++ news ++ cur.toList.drop (0 + i * 5 + news.length)).toArray := ⟨_, rfl⟩
  rw [← hcur1] at hw1
  have hc1s : cur1.size = cur.size := by rw [hcur1]; simp; omega
  have hcl := fun ty => run_clear_one (k := k) (c := cap - k) (ty := ty) hw1 (by omega)
  obtain ⟨W2, hW2⟩ : ∃ W2, W2 = W1.setRow g (cur1.toList.take (k * 5) ++ cdZs ++ cur1.toList.drop (k * 5 + 5)).toArray := ⟨_, rfl⟩
  rw [← hW2, ← hkn] at hcl
  have hck : ¬ cap = k := by omega
  have hkc : k ≤ cap := by omega
  have hkn2 : k ≤ n := by omega
  have HW := Lib.hid hW1; have HK := Lib.hid hk
  have HG : Hid (RowAt cdC 126 5 W2 g cap (l.take i ++ l.drop j) ∧ Only [g] w W2) := Lib.hid (by
    refine ⟨⟨_, by rw [hW2]; exact setRow_heap W1 g cur1 _ _ _ hw1, ?_, ?_, h3, ?_⟩, ?_⟩
    · simp only [List.size_toArray, List.length_append, List.length_take, List.length_drop, Array.length_toList, cdZs, List.length_cons, List.length_nil]; omega
    · rw [List.length_append, List.length_take, List.length_drop]; omega
    · have e1 : (l.take i ++ l.drop j).length * 5 = k * 5 := by rw [List.length_append, List.length_take, List.length_drop]; omega
      have e2 : (cur1.toList.take (k * 5)).length = k * 5 := by rw [List.length_take, Array.length_toList]; omega
      rw [e1, List.append_assoc, List.take_append_of_le_length (by omega), List.take_of_length_le (by omega), hcur1]
      have e3 : (cur.toList.take (0 + i * 5)).length = i * 5 := by rw [List.length_take, Array.length_toList]; omega
      have e4 : (cur.toList.take (0 + i * 5) ++ news).length = k * 5 := by rw [List.length_append, e3, hlen]; omega
      rw [List.take_append_of_le_length (by omega), List.take_of_length_le (by omega), List.flatMap_append, ← hj, ← hnews, ← flat_take cdC 5 cdC_len, ← h4, List.take_take, Nat.zero_add]
      congr 2
      omega
    · rw [hW2]
      have o2 : Only [g] W1 (W1.setRow g (cur1.toList.take (k * 5) ++ cdZs ++ cur1.toList.drop (k * 5 + 5)).toArray) := ⟨rfl, rfl, rfl, by simp [World.setRow], fun q _ hq => setRow_other W1 g q _ (fun e => hq (by simp [e]))⟩
      exact ((Only.refl [g] w).drew.trans ho1 (fun x hx => .inl hx)).trans o2 (fun x hx => .inl hx))
  have HN : Hid (n - 1 = k) := Lib.hid (by omega)
  rw [HN.out]
  clear hcell hcur1 hw1 ho1 hW1 hW2 hnews hlen hg h1 h4 hk hcs hc1s hkn hn hj
  go_enter Tryz.func98, Tryz.ntmps98
  go_wp2_with fail
  go_region_law (refine step_append_room rfl (.tmp 22) (.tmp 25) 85 rfl 126 i0 5 Tryz.underlying85 hi0 hz1 g 0 i cap (by simp [Act.eval, Act.put]) A (n - j) (cap - j) news (by simp [Act.eval, Act.put]) s1.out hsrc.out s2.out (by omega) s3.out ?_; rw [← HW.out, HK.out])
  go_wp2
  go_ret
  exact ⟨rfl, HG.out⟩
end Go.Proofs.YtikjdmbfjkbndaaGreat
