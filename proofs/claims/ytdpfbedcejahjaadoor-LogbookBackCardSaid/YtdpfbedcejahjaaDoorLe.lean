/- The comparison of two logs: Same of the reference and slices.Equal. Condition: the lengths of the slices. -/
import Derived.Test.YtdpfbedcejahjaaDoorLs
namespace Go.Proofs.YtdpfbedcejahjaaDoor
open Go.RowKit

/-- two entries are compared -/
theorem en_equal (a b : En) (w : World) : (Op.equalIn 10000 37 (.agg #[.int .i64 a.k, .int .i64 a.n, .int .i64 a.p, .int .i64 a.m, .int .i64 a.c, .int .i64 a.v]) (.agg #[.int .i64 b.k, .int .i64 b.n, .int .i64 b.p, .int .i64 b.m, .int .i64 b.c, .int .i64 b.v])).run Tryd.prog w = .ok (decide (a = b)) w := by
  obtain ⟨a1, a2, a3, a4, a5, a6⟩ := a
  obtain ⟨b1, b2, b3, b4, b5, b6⟩ := b
  have h : (Op.equalIn 10000 37 (.agg #[.int .i64 a1, .int .i64 a2, .int .i64 a3, .int .i64 a4, .int .i64 a5, .int .i64 a6]) (.agg #[.int .i64 b1, .int .i64 b2, .int .i64 b3, .int .i64 b4, .int .i64 b5, .int .i64 b6])).run Tryd.prog w = .ok (a1 == b1 && (a2 == b2 && (a3 == b3 && (a4 == b4 && (a5 == b5 && a6 == b6))))) w := by
    rw [show (10000 : Nat) = 9999 + 1 from rfl, run_equalIn_struct w 9999 37 _ _ (by kernel_rfl) (by kernel_rfl)]
    simp [Program.fieldsOf, Tryd.underlying37, Op.eqFields, go_sem]
    by_cases h1 : a1 = b1
    · by_cases h2 : a2 = b2
      · by_cases h3 : a3 = b3
        · by_cases h4 : a4 = b4
          · by_cases h5 : a5 = b5 <;> by_cases h6 : a6 = b6 <;> simp [h1, h2, h3, h4, h5, h6]
          · simp [h1, h2, h3, h4]
        · simp [h1, h2, h3]
      · simp [h1, h2]
    · simp [h1]
  rw [h]
  refine congrArg (fun x => Result.ok x w) ?_
  rw [Bool.eq_iff_iff]
  simp
def EqEn (w : World) (l m : List En) (vi : Value) (wr : World) : Prop :=
  ∃ k : Nat, k ≤ l.length ∧ vi = .int .i64 k ∧ l.take k = m.take k ∧ Only [] w wr

set_option maxRecDepth 100000 in
set_option maxHeartbeats 1000000 in
theorem Rsame {w : World} {p q : Option Addr} {n n' cap cap' : Nat} {l m : List En} (hv : VRow enC 6 w p n cap l) (hv' : VRow enC 6 w q n' cap' m) (hn : n ≤ 100000) (hn' : n' ≤ 100000) :
    Calls Tryd.prog 15 #[.slice p n cap, .slice q n' cap'] w fun e w' => e = .returned (.bool (decide (l = m))) ∧ Only [] w w' := by
  have hl := hv.len
  have hl' := hv'.len
  subst hl hl'
  have HV := Lib.hid hv; have HW := Lib.hid hv'; clear hv hv'
  by_cases hll : l.length = m.length
  · have b1 : ((l.length : Int) != (m.length : Int)) = false := by simp [hll]
    have b2 : (l.length != m.length) = false := by simp [hll]
    go_enter Tryd.func15, Tryd.ntmps15
    go_wp2
    go_loopw [5] (fun vi wr => EqEn w l m vi wr) (fun vi _ => l.length - (intOf vi).toNat)
    case atStart => exact ⟨0, Nat.zero_le _, rfl, rfl, Only.refl _ _⟩
    case round =>
      obtain ⟨k, hk, rfl, ht, ho⟩ := hrel
      have HT := Lib.hid ht; have OO := Lib.hid ho
      clear ht ho
      by_cases hlt : k < l.length
      · have hlt' : k < m.length := by omega
        obtain ⟨bb, off, hp, hb, hcl⟩ := HV.out.cell k l[k] (List.getElem?_eq_getElem hlt)
        obtain ⟨bb', off', hp', hb', hcl'⟩ := HW.out.cell k m[k] (List.getElem?_eq_getElem hlt')
        subst hp hp'
        obtain ⟨x, hx⟩ : ∃ x, x = l[k] := ⟨_, rfl⟩
        obtain ⟨y, hy⟩ : ∃ y, y = m[k] := ⟨_, rfl⟩
        rw [← hx] at hcl
        rw [← hy] at hcl'
        have c0 : wr.cell? ⟨bb, off + k * 6, none⟩ = some (.int .i64 x.k) := by rw [OO.out.cell hb (by simp)]; exact hcl 0 _ rfl
        have c1 : wr.cell? ⟨bb, off + k * 6 + 1, none⟩ = some (.int .i64 x.n) := by rw [OO.out.cell hb (by simp)]; exact hcl 1 _ rfl
        have c2 : wr.cell? ⟨bb, off + k * 6 + 2, none⟩ = some (.int .i64 x.p) := by rw [OO.out.cell hb (by simp)]; exact hcl 2 _ rfl
        have c3 : wr.cell? ⟨bb, off + k * 6 + 3, none⟩ = some (.int .i64 x.m) := by rw [OO.out.cell hb (by simp)]; exact hcl 3 _ rfl
        have c4 : wr.cell? ⟨bb, off + k * 6 + 4, none⟩ = some (.int .i64 x.c) := by rw [OO.out.cell hb (by simp)]; exact hcl 4 _ rfl
        have c5 : wr.cell? ⟨bb, off + k * 6 + 5, none⟩ = some (.int .i64 x.v) := by rw [OO.out.cell hb (by simp)]; exact hcl 5 _ rfl
        have d0 : wr.cell? ⟨bb', off' + k * 6, none⟩ = some (.int .i64 y.k) := by rw [OO.out.cell hb' (by simp)]; exact hcl' 0 _ rfl
        have d1 : wr.cell? ⟨bb', off' + k * 6 + 1, none⟩ = some (.int .i64 y.n) := by rw [OO.out.cell hb' (by simp)]; exact hcl' 1 _ rfl
        have d2 : wr.cell? ⟨bb', off' + k * 6 + 2, none⟩ = some (.int .i64 y.p) := by rw [OO.out.cell hb' (by simp)]; exact hcl' 2 _ rfl
        have d3 : wr.cell? ⟨bb', off' + k * 6 + 3, none⟩ = some (.int .i64 y.m) := by rw [OO.out.cell hb' (by simp)]; exact hcl' 3 _ rfl
        have d4 : wr.cell? ⟨bb', off' + k * 6 + 4, none⟩ = some (.int .i64 y.c) := by rw [OO.out.cell hb' (by simp)]; exact hcl' 4 _ rfl
        have d5 : wr.cell? ⟨bb', off' + k * 6 + 5, none⟩ = some (.int .i64 y.v) := by rw [OO.out.cell hb' (by simp)]; exact hcl' 5 _ rfl
        have hle := OO.out.size
        have q1 : bb < wr.heap.size := by omega
        have q2 : bb' < wr.heap.size := by omega
        clear hcl hcl'
        have hkl : (k : Int) < (l.length : Int) := by omega
        have hkm : (k : Int) < (m.length : Int) := by omega
        have HX := Lib.hid hx; have HY := Lib.hid hy
        clear hx hy
        have heq := en_equal x y
        by_cases hxy : x = y
        · rw [decide_eq_true hxy] at heq
          have HN : Hid (l.take (k + 1) = m.take (k + 1)) := Lib.hid (by rw [List.take_succ_eq_append_getElem hlt, List.take_succ_eq_append_getElem hlt', HT.out, ← HX.out, ← HY.out, hxy])
          clear hxy hll
          go_wp2_with fail
          go_quiet (fail)
          go_wp2
          go_roundw
          case rel => exact ⟨k + 1, by omega, by go_num, HN.out, OO.out.nil_trans (only_drewN _ _)⟩
          case measure => simp [intOf]; omega
        · rw [decide_eq_false hxy] at heq
          have HN : Hid (decide (l = m) = false) := Lib.hid (by
            refine decide_eq_false fun q => hxy ?_
            rw [HX.out, HY.out]; subst q; rfl)
          clear hxy hll
          go_wp2_with fail
          go_quiet (fail)
          go_wp2
          go_ret
          exact ⟨by rw [HN.out]; rfl, OO.out.nil_trans (only_drewN _ _)⟩
      · have HN : Hid (decide (l = m) = true) := Lib.hid (by
          refine decide_eq_true ?_
          have := HT.out
          rwa [List.take_of_length_le (by omega), List.take_of_length_le (by omega)] at this)
        obtain rfl : k = l.length := by omega
        go_wp2
        go_ret
        exact ⟨by rw [HN.out]; rfl, OO.out⟩
  · have b1 : ((l.length : Int) != (m.length : Int)) = true := by simp; omega
    have b2 : (l.length != m.length) = true := by simp [hll]
    have HN : Hid (decide (l = m) = false) := Lib.hid (decide_eq_false fun q => hll (by rw [q]))
    clear hll
    go_enter Tryd.func15, Tryd.ntmps15
    go_wp2
    go_ret
    exact ⟨by rw [HN.out]; rfl, Only.refl _ _⟩
set_option maxRecDepth 100000 in
set_option maxHeartbeats 1000000 in
theorem Eqlogs {w : World} {p q : Option Addr} {n n' cap cap' : Nat} {l m : List En} (hv : VRow enC 6 w p n cap l) (hv' : VRow enC 6 w q n' cap' m) (hn : n ≤ 100000) (hn' : n' ≤ 100000) :
    Calls Tryd.prog 21 #[.slice p n cap, .slice q n' cap'] w fun e w' => e = .returned (.bool (decide (l = m))) ∧ Only [] w w' := by
  have hl := hv.len
  have hl' := hv'.len
  subst hl hl'
  have HV := Lib.hid hv; have HW := Lib.hid hv'; clear hv hv'
  by_cases hll : l.length = m.length
  · have b1 : ((l.length : Int) != (m.length : Int)) = false := by simp [hll]
    have b2 : (l.length != m.length) = false := by simp [hll]
    go_enter Tryd.func21, Tryd.ntmps21
    go_wp2
    go_loopw [13] (fun vi wr => EqEn w l m vi wr) (fun vi _ => l.length - (intOf vi).toNat)
    case atStart => exact ⟨0, Nat.zero_le _, rfl, rfl, Only.refl _ _⟩
    case round =>
      obtain ⟨k, hk, rfl, ht, ho⟩ := hrel
      have HT := Lib.hid ht; have OO := Lib.hid ho
      clear ht ho
      by_cases hlt : k < l.length
      · have hlt' : k < m.length := by omega
        obtain ⟨bb, off, hp, hb, hcl⟩ := HV.out.cell k l[k] (List.getElem?_eq_getElem hlt)
        obtain ⟨bb', off', hp', hb', hcl'⟩ := HW.out.cell k m[k] (List.getElem?_eq_getElem hlt')
        subst hp hp'
        obtain ⟨x, hx⟩ : ∃ x, x = l[k] := ⟨_, rfl⟩
        obtain ⟨y, hy⟩ : ∃ y, y = m[k] := ⟨_, rfl⟩
        rw [← hx] at hcl
        rw [← hy] at hcl'
        have c0 : wr.cell? ⟨bb, off + k * 6, none⟩ = some (.int .i64 x.k) := by rw [OO.out.cell hb (by simp)]; exact hcl 0 _ rfl
        have c1 : wr.cell? ⟨bb, off + k * 6 + 1, none⟩ = some (.int .i64 x.n) := by rw [OO.out.cell hb (by simp)]; exact hcl 1 _ rfl
        have c2 : wr.cell? ⟨bb, off + k * 6 + 2, none⟩ = some (.int .i64 x.p) := by rw [OO.out.cell hb (by simp)]; exact hcl 2 _ rfl
        have c3 : wr.cell? ⟨bb, off + k * 6 + 3, none⟩ = some (.int .i64 x.m) := by rw [OO.out.cell hb (by simp)]; exact hcl 3 _ rfl
        have c4 : wr.cell? ⟨bb, off + k * 6 + 4, none⟩ = some (.int .i64 x.c) := by rw [OO.out.cell hb (by simp)]; exact hcl 4 _ rfl
        have c5 : wr.cell? ⟨bb, off + k * 6 + 5, none⟩ = some (.int .i64 x.v) := by rw [OO.out.cell hb (by simp)]; exact hcl 5 _ rfl
        have d0 : wr.cell? ⟨bb', off' + k * 6, none⟩ = some (.int .i64 y.k) := by rw [OO.out.cell hb' (by simp)]; exact hcl' 0 _ rfl
        have d1 : wr.cell? ⟨bb', off' + k * 6 + 1, none⟩ = some (.int .i64 y.n) := by rw [OO.out.cell hb' (by simp)]; exact hcl' 1 _ rfl
        have d2 : wr.cell? ⟨bb', off' + k * 6 + 2, none⟩ = some (.int .i64 y.p) := by rw [OO.out.cell hb' (by simp)]; exact hcl' 2 _ rfl
        have d3 : wr.cell? ⟨bb', off' + k * 6 + 3, none⟩ = some (.int .i64 y.m) := by rw [OO.out.cell hb' (by simp)]; exact hcl' 3 _ rfl
        have d4 : wr.cell? ⟨bb', off' + k * 6 + 4, none⟩ = some (.int .i64 y.c) := by rw [OO.out.cell hb' (by simp)]; exact hcl' 4 _ rfl
        have d5 : wr.cell? ⟨bb', off' + k * 6 + 5, none⟩ = some (.int .i64 y.v) := by rw [OO.out.cell hb' (by simp)]; exact hcl' 5 _ rfl
        have hle := OO.out.size
        have q1 : bb < wr.heap.size := by omega
        have q2 : bb' < wr.heap.size := by omega
        clear hcl hcl'
        have hkl : (k : Int) < (l.length : Int) := by omega
        have hkm : (k : Int) < (m.length : Int) := by omega
        have HX := Lib.hid hx; have HY := Lib.hid hy
        clear hx hy
        have heq := en_equal x y
        by_cases hxy : x = y
        · rw [decide_eq_true hxy] at heq
          have HN : Hid (l.take (k + 1) = m.take (k + 1)) := Lib.hid (by rw [List.take_succ_eq_append_getElem hlt, List.take_succ_eq_append_getElem hlt', HT.out, ← HX.out, ← HY.out, hxy])
          clear hxy hll
          go_wp2_with fail
          go_quiet (fail)
          go_wp2
          go_roundw
          case rel => exact ⟨k + 1, by omega, by go_num, HN.out, OO.out.nil_trans (only_drewN _ _)⟩
          case measure => simp [intOf]; omega
        · rw [decide_eq_false hxy] at heq
          have HN : Hid (decide (l = m) = false) := Lib.hid (by
            refine decide_eq_false fun q => hxy ?_
            rw [HX.out, HY.out]; subst q; rfl)
          clear hxy hll
          go_wp2_with fail
          go_quiet (fail)
          go_wp2
          go_ret
          exact ⟨by rw [HN.out]; rfl, OO.out.nil_trans (only_drewN _ _)⟩
      · have HN : Hid (decide (l = m) = true) := Lib.hid (by
          refine decide_eq_true ?_
          have := HT.out
          rwa [List.take_of_length_le (by omega), List.take_of_length_le (by omega)] at this)
        obtain rfl : k = l.length := by omega
        go_wp2
        go_ret
        exact ⟨by rw [HN.out]; rfl, OO.out⟩
  · have b1 : ((l.length : Int) != (m.length : Int)) = true := by simp; omega
    have b2 : (l.length != m.length) = true := by simp [hll]
    have HN : Hid (decide (l = m) = false) := Lib.hid (decide_eq_false fun q => hll (by rw [q]))
    clear hll
    go_enter Tryd.func21, Tryd.ntmps21
    go_wp2
    go_ret
    exact ⟨by rw [HN.out]; rfl, Only.refl _ _⟩
end Go.Proofs.YtdpfbedcejahjaaDoor
