/- The comparison of two lists of pairs. Condition: the lengths of the slices. -/
import Derived.Test.YtdpfbedcejahjaaDoorLr
namespace Go.Proofs.YtdpfbedcejahjaaDoor
open Go.RowKit

/-- two arrays of two ints are compared -/
theorem pr_equal (a b : Nat × Nat) (w : World) : (Op.equalIn 10000 33 (.agg #[.int .i64 a.1, .int .i64 a.2]) (.agg #[.int .i64 b.1, .int .i64 b.2])).run Tryd.prog w = .ok (decide (a = b)) w := by
  obtain ⟨a1, a2⟩ := a
  obtain ⟨b1, b2⟩ := b
  cases hi : Tryd.prog.info? 3 with
  | none => exact absurd (hi.symm.trans rfl) (by have h : (Tryd.prog.info? 3).isSome = true := by kernel_rfl
                                                 rw [hi] at h; cases h)
  | some i =>
    rw [show (10000 : Nat) = 9999 + 1 from rfl, run_equalIn_array w 9999 _ _ Tryd.underlying33 hi]
    have hc : Tryd.prog.cellsOf 3 = 1 := by kernel_rfl
    rw [hc]
    simp [Op.eqItems, go_sem, List.range_succ]
    by_cases h1 : a1 = b1 <;> by_cases h2 : a2 = b2 <;> simp [h1, h2] <;> omega
def EqRel (w : World) (l m : List (Nat × Nat)) (vi : Value) (wr : World) : Prop :=
  ∃ k : Nat, k ≤ l.length ∧ vi = .int .i64 k ∧ l.take k = m.take k ∧ Only [] w wr

set_option maxRecDepth 100000 in
set_option maxHeartbeats 1000000 in
theorem Eqpairs {w : World} {p q : Option Addr} {n n' cap cap' : Nat} {l m : List (Nat × Nat)} (hv : VRow prC 2 w p n cap l) (hv' : VRow prC 2 w q n' cap' m) (hn : n ≤ 100000) (hn' : n' ≤ 100000) :
    Calls Tryd.prog 16 #[.slice p n cap, .slice q n' cap'] w fun e w' => e = .returned (.bool (decide (l = m))) ∧ Only [] w w' := by
  have hl := hv.len
  have hl' := hv'.len
  subst hl hl'
  have HV := Lib.hid hv; have HW := Lib.hid hv'; clear hv hv'
  by_cases hll : l.length = m.length
  · have b1 : ((l.length : Int) != (m.length : Int)) = false := by simp [hll]
    have b2 : (l.length != m.length) = false := by simp [hll]
    go_enter Tryd.func16, Tryd.ntmps16
    go_wp2
    go_loopw [13] (fun vi wr => EqRel w l m vi wr) (fun vi _ => l.length - (intOf vi).toNat)
    case atStart => exact ⟨0, Nat.zero_le _, rfl, rfl, Only.refl _ _⟩
    case round =>
      obtain ⟨k, hk, rfl, ht, ho⟩ := hrel
      have HT := Lib.hid ht; have OO := Lib.hid ho
      clear ht ho
      by_cases hlt : k < l.length
      · have hlt' : k < m.length := by omega
        obtain ⟨bb, off, hp, hb, hcl⟩ := HV.out.cell k l[k] (List.getElem?_eq_getElem hlt)
        obtain ⟨bb', off', hp', hb', hcl'⟩ := HW.out.cell k m[k] (List.getElem?_eq_getElem hlt')
        subst hp hp'
        obtain ⟨x, hx⟩ : ∃ x, x = l[k] := ⟨_, rfl⟩
        obtain ⟨y, hy⟩ : ∃ y, y = m[k] := ⟨_, rfl⟩
        rw [← hx] at hcl
        rw [← hy] at hcl'
        have c0 : wr.cell? ⟨bb, off + k * 2, none⟩ = some (.int .i64 x.1) := by rw [OO.out.cell hb (by simp)]; exact hcl 0 _ rfl
        have c1 : wr.cell? ⟨bb, off + k * 2 + 1, none⟩ = some (.int .i64 x.2) := by rw [OO.out.cell hb (by simp)]; exact hcl 1 _ rfl
        have d0 : wr.cell? ⟨bb', off' + k * 2, none⟩ = some (.int .i64 y.1) := by rw [OO.out.cell hb' (by simp)]; exact hcl' 0 _ rfl
        have d1 : wr.cell? ⟨bb', off' + k * 2 + 1, none⟩ = some (.int .i64 y.2) := by rw [OO.out.cell hb' (by simp)]; exact hcl' 1 _ rfl
        have hle := OO.out.size
        have q1 : bb < wr.heap.size := by omega
        have q2 : bb' < wr.heap.size := by omega
        clear hcl hcl'
        have hkl : (k : Int) < (l.length : Int) := by omega
        have hkm : (k : Int) < (m.length : Int) := by omega
        have HX := Lib.hid hx; have HY := Lib.hid hy
        clear hx hy
        have heq := pr_equal x y
        by_cases hxy : x = y
        · rw [decide_eq_true hxy] at heq
          have HN : Hid (l.take (k + 1) = m.take (k + 1)) := Lib.hid (by rw [List.take_succ_eq_append_getElem hlt, List.take_succ_eq_append_getElem hlt', HT.out, ← HX.out, ← HY.out, hxy])
          clear hxy hll
          go_wp2_with fail
          go_quiet (fail)
          go_wp2
          go_roundw
          case rel => exact ⟨k + 1, by omega, by go_num, HN.out, OO.out.nil_trans (only_drewN _ _)⟩
          case measure => simp [intOf]; omega
        · rw [decide_eq_false hxy] at heq
          have HN : Hid (decide (l = m) = false) := Lib.hid (by
            refine decide_eq_false fun q => hxy ?_
            rw [HX.out, HY.out]; subst q; rfl)
          clear hxy hll
          go_wp2_with fail
          go_quiet (fail)
          go_wp2
          go_ret
          exact ⟨by rw [HN.out]; rfl, OO.out.nil_trans (only_drewN _ _)⟩
      · have HN : Hid (decide (l = m) = true) := Lib.hid (by
          refine decide_eq_true ?_
          have := HT.out
          rwa [List.take_of_length_le (by omega), List.take_of_length_le (by omega)] at this)
        obtain rfl : k = l.length := by omega
        go_wp2
        go_ret
        exact ⟨by rw [HN.out]; rfl, OO.out⟩
  · have b1 : ((l.length : Int) != (m.length : Int)) = true := by simp; omega
    have b2 : (l.length != m.length) = true := by simp [hll]
    have HN : Hid (decide (l = m) = false) := Lib.hid (decide_eq_false fun q => hll (by rw [q]))
    clear hll
    go_enter Tryd.func16, Tryd.ntmps16
    go_wp2
    go_ret
    exact ⟨by rw [HN.out]; rfl, Only.refl _ _⟩
end Go.Proofs.YtdpfbedcejahjaaDoor
