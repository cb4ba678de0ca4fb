/- Intervals: drift.Check and Has, interval.Agree, Count, valid. Conditions: the lengths. -/
import Derived.Test.YtikjdmbfjkbndaaGreatMf
namespace Go.Proofs.YtikjdmbfjkbndaaGreat
open Go.RowKit

structure Iv where
  lo : Int
  hi : Int
deriving DecidableEq, Inhabited
def ivC (x : Iv) : List Value := [.int .i64 x.lo, .int .i64 x.hi]
def ivV (x : Iv) : Value := .agg #[.int .i64 x.lo, .int .i64 x.hi]
theorem ivC_len (x : Iv) : (ivC x).length = 2 := rfl
theorem ivC_one (x : Iv) : ∀ u ∈ ivC x, u.oneCell' = true := by
  intro u hu
  simp only [ivC, List.mem_cons, List.not_mem_nil, or_false] at hu
  rcases hu with rfl | rfl <;> rfl
def ivOk (x : Iv) : Bool := decide (x.lo ≤ x.hi ∧ -8000000000000000000 ≤ x.lo ∧ x.hi ≤ 8000000000000000000)
def hasI (x : Iv) (t : Int) : Bool := ivOk x && (decide (x.lo ≤ t) && decide (t ≤ x.hi))
/-- how many contain an instant -/
def cntI (l : List Iv) (t : Int) : Nat := (l.filter fun x => hasI x t).length

set_option maxRecDepth 100000 in
set_option maxHeartbeats 1000000 in
theorem pDriftCheck (x : Iv) (w : World) :
    Calls Tryz.prog 139 #[ivV x] w fun e w' => e = .returned (.int .i64 (if ivOk x then 0 else 3)) ∧ Only [] w w' := by
  obtain ⟨lo, hi⟩ := x
  unfold ivOk ivV
  dsimp only
  by_cases h1 : lo ≤ hi
  · have a1 : decide (hi < lo) = false := by simp; omega
    by_cases h2 : -8000000000000000000 ≤ lo
    · have a2 : decide (lo < -8000000000000000000) = false := by simp; omega
      by_cases h3 : hi ≤ 8000000000000000000
      · have a3 : decide (8000000000000000000 < hi) = false := by simp; omega
        rw [show (if decide (lo ≤ hi ∧ -8000000000000000000 ≤ lo ∧ hi ≤ 8000000000000000000) = true then (0 : Int) else 3) = 0 from if_pos (decide_eq_true ⟨h1, h2, h3⟩)]
        go_enter Tryz.func139, Tryz.ntmps139
        go_upto_region 1 with (fail)
        refine alloc_abs (G := fun w0 => Code.wp _ _ _ _ w0) ?_
        intro w1 hb1 ho1 hs1
        have B1 := Lib.hid hb1; have O1 := Lib.hid ho1
        clear hb1 ho1 hs1
        have k0 := cell_got B1.out 0; have k1 := cell_got B1.out 1; have lk := got_lt B1.out
        go_wp2
        go_ret
        exact ⟨rfl, O1.out⟩
      · have a3 : decide (8000000000000000000 < hi) = true := by simp; omega
        rw [show (if decide (lo ≤ hi ∧ -8000000000000000000 ≤ lo ∧ hi ≤ 8000000000000000000) = true then (0 : Int) else 3) = 3 from if_neg (by simp; omega)]
        go_enter Tryz.func139, Tryz.ntmps139
        go_upto_region 1 with (fail)
        refine alloc_abs (G := fun w0 => Code.wp _ _ _ _ w0) ?_
        intro w1 hb1 ho1 hs1
        have B1 := Lib.hid hb1; have O1 := Lib.hid ho1
        clear hb1 ho1 hs1
        have k0 := cell_got B1.out 0; have k1 := cell_got B1.out 1; have lk := got_lt B1.out
        go_wp2
        go_ret
        exact ⟨rfl, O1.out⟩
    · have a2 : decide (lo < -8000000000000000000) = true := by simp; omega
      rw [show (if decide (lo ≤ hi ∧ -8000000000000000000 ≤ lo ∧ hi ≤ 8000000000000000000) = true then (0 : Int) else 3) = 3 from if_neg (by simp; omega)]
      go_enter Tryz.func139, Tryz.ntmps139
      go_upto_region 1 with (fail)
      refine alloc_abs (G := fun w0 => Code.wp _ _ _ _ w0) ?_
      intro w1 hb1 ho1 hs1
      have B1 := Lib.hid hb1; have O1 := Lib.hid ho1
      clear hb1 ho1 hs1
      have k0 := cell_got B1.out 0; have k1 := cell_got B1.out 1; have lk := got_lt B1.out
      go_wp2
      go_ret
      exact ⟨rfl, O1.out⟩
  · have a1 : decide (hi < lo) = true := by simp; omega
    rw [show (if decide (lo ≤ hi ∧ -8000000000000000000 ≤ lo ∧ hi ≤ 8000000000000000000) = true then (0 : Int) else 3) = 3 from if_neg (by simp; omega)]
    go_enter Tryz.func139, Tryz.ntmps139
    go_upto_region 1 with (fail)
    refine alloc_abs (G := fun w0 => Code.wp _ _ _ _ w0) ?_
    intro w1 hb1 ho1 hs1
    have B1 := Lib.hid hb1; have O1 := Lib.hid ho1
    clear hb1 ho1 hs1
    have k0 := cell_got B1.out 0; have k1 := cell_got B1.out 1; have lk := got_lt B1.out
    go_wp2
    go_ret
    exact ⟨rfl, O1.out⟩
set_option maxRecDepth 100000 in
set_option maxHeartbeats 1000000 in
theorem pHas (x : Iv) (t : Int) (w : World) :
    Calls Tryz.prog 282 #[ivV x, .int .i64 t] w fun e w' => e = .returned (.bool (hasI x t)) ∧ Only [] w w' := by
  have HC := Lib.hid (fun w' => pDriftCheck x w')
  have HR : Hid (hasI x t = (ivOk x && (decide (x.lo ≤ t) && decide (t ≤ x.hi)))) := Lib.hid rfl
  generalize ivOk x = ok at HC HR
  generalize hasI x t = r at HR ⊢
  obtain ⟨lo, hi⟩ := x
  unfold ivV at HC ⊢
  dsimp only at HC HR ⊢
  cases ok with
  | false =>
    obtain rfl : r = false := by rw [HR.out]; rfl
    clear HR
    go_enter Tryz.func282, Tryz.ntmps282
    go_upto_region 1 with (fail)
    refine alloc_abs (G := fun w0 => Code.wp _ _ _ _ w0) ?_
    intro w1 hb1 ho1 hs1
    have B1 := Lib.hid hb1; have O1 := Lib.hid ho1
    clear hb1 ho1 hs1
    have k0 := cell_got B1.out 0; have k1 := cell_got B1.out 1; have lk := got_lt B1.out
    go_wp2_with fail
    refine (HC.out w1).mono ?_
    rintro e w2 ⟨rfl, ho2⟩
    have O2 := Lib.hid (O1.out.nil_trans ho2); have B2 := Lib.hid (ho2.got B1.out (by simp))
    clear ho2 O1 B1 k0 k1 lk
    have k0 := cell_got B2.out 0; have k1 := cell_got B2.out 1; have lk := got_lt B2.out
    go_wp2
    go_ret
    exact ⟨rfl, O2.out⟩
  | true =>
    have HR2 : Hid (r = (decide (lo ≤ t) && decide (t ≤ hi))) := Lib.hid (by rw [HR.out]; rfl)
    clear HR
    by_cases h1 : lo ≤ t
    · have a1 : decide (lo ≤ t) = true := decide_eq_true h1
      obtain ⟨r2, hr2⟩ : ∃ r2, decide (t ≤ hi) = r2 := ⟨_, rfl⟩
      obtain rfl : r = r2 := by rw [HR2.out, a1, hr2]; rfl
      clear HR2
      go_enter Tryz.func282, Tryz.ntmps282
      go_upto_region 1 with (fail)
      refine alloc_abs (G := fun w0 => Code.wp _ _ _ _ w0) ?_
      intro w1 hb1 ho1 hs1
      have B1 := Lib.hid hb1; have O1 := Lib.hid ho1
      clear hb1 ho1 hs1
      have k0 := cell_got B1.out 0; have k1 := cell_got B1.out 1; have lk := got_lt B1.out
      go_wp2_with fail
      refine (HC.out w1).mono ?_
      rintro e w2 ⟨rfl, ho2⟩
      have O2 := Lib.hid (O1.out.nil_trans ho2); have B2 := Lib.hid (ho2.got B1.out (by simp))
      clear ho2 O1 B1 k0 k1 lk
      have k0 := cell_got B2.out 0; have k1 := cell_got B2.out 1; have lk := got_lt B2.out
      go_wp2
      go_ret
      exact ⟨rfl, O2.out⟩
    · have a1 : decide (lo ≤ t) = false := decide_eq_false h1
      obtain rfl : r = false := by rw [HR2.out, a1]; rfl
      clear HR2
      go_enter Tryz.func282, Tryz.ntmps282
      go_upto_region 1 with (fail)
      refine alloc_abs (G := fun w0 => Code.wp _ _ _ _ w0) ?_
      intro w1 hb1 ho1 hs1
      have B1 := Lib.hid hb1; have O1 := Lib.hid ho1
      clear hb1 ho1 hs1
      have k0 := cell_got B1.out 0; have k1 := cell_got B1.out 1; have lk := got_lt B1.out
      go_wp2_with fail
      refine (HC.out w1).mono ?_
      rintro e w2 ⟨rfl, ho2⟩
      have O2 := Lib.hid (O1.out.nil_trans ho2); have B2 := Lib.hid (ho2.got B1.out (by simp))
      clear ho2 O1 B1 k0 k1 lk
      have k0 := cell_got B2.out 0; have k1 := cell_got B2.out 1; have lk := got_lt B2.out
      go_wp2
      go_ret
      exact ⟨rfl, O2.out⟩
theorem VRow.iv {w w' : World} {p : Option Addr} {n cap : Nat} {l : List Iv} (hv : VRow ivC 2 w p n cap l) (ho : Only [] w w') {k : Nat} (hlt : k < l.length) : ∃ b off, p = some ⟨b, off, none⟩ ∧ b < w.heap.size ∧
    w'.cell? ⟨b, off + k * 2, none⟩ = some (.int .i64 l[k].lo) ∧ w'.cell? ⟨b, off + k * 2 + 1, none⟩ = some (.int .i64 l[k].hi) := by
  obtain ⟨b, off, hp, hb, hc⟩ := hv.cell k l[k] (List.getElem?_eq_getElem hlt)
  refine ⟨b, off, hp, hb, ?_, ?_⟩
  · rw [ho.cell hb (by simp)]; exact hc 0 _ rfl
  · rw [ho.cell hb (by simp)]; exact hc 1 _ rfl
/-- where Agree stands -/
def AgI (w : World) (l : List Iv) (t : Int) (vo vi : Value) (wr : World) : Prop :=
  ∃ (k : Nat) (ns : List Int), k ≤ l.length ∧ vi = .int .i64 k ∧ ns.length = cntI (l.take k) t ∧ ns.length ≤ k ∧ Own intC 3 1 w.heap.size wr vo ns ∧ Only [] w wr
def AgR (w0 : World) (c : Nat) (e : Ending) (w : World) : Prop := ∃ (v : Value) (ns : List Int), e = .returned v ∧ Own intC 3 1 w0.heap.size w v ns ∧ ns.length = c
theorem cnt_snoc (l : List Iv) (t : Int) {k : Nat} (hk : k < l.length) : cntI (l.take (k + 1)) t = cntI (l.take k) t + (if hasI l[k] t = true then 1 else 0) := by
  unfold cntI
  rw [List.take_succ_eq_append_getElem hk, List.filter_append, List.length_append]
  by_cases h : hasI l[k] t = true <;> simp [h]
set_option maxRecDepth 100000 in
set_option maxHeartbeats 2000000 in
theorem pAgree {w : World} {p : Option Addr} {n cap : Nat} {l : List Iv} (hv : VRow ivC 2 w p n cap l) (hn : l.length ≤ 48) (t : Int) :
    Calls Tryz.prog 227 #[.slice p n cap, .int .i64 t] w fun e w' => AgR w (cntI l t) e w' ∧ Only [] w w' := by
  have hl := hv.len
  subst hl
  have HV := Lib.hid hv; clear hv
  have d1 : decide (48 < (l.length : Int)) = false := by simp; omega
  have d2 : decide (48 < l.length) = false := by simp; omega
  go_enter Tryz.func227, Tryz.ntmps227
  go_wp2
  go_loopw [5, 13] (fun vo vi wr => AgI w l t vo vi wr) (fun _ vi _ => l.length - (intOf vi).toNat)
  case atStart => exact ⟨0, [], Nat.zero_le _, rfl, rfl, by simp, own_nil _ _, Only.refl _ _⟩
  case round =>
    obtain ⟨k, ns, hk, rfl, hns, hnk, hown, ho⟩ := hrel
    have HNS := Lib.hid hns; have OW := Lib.hid hown; have OO := Lib.hid ho
    clear hns hown ho
    by_cases hlt : k < l.length
    · obtain ⟨bk, off, hp, hb, c0, c1⟩ := HV.out.iv OO.out hlt
      subst hp
      have hle := OO.out.size
      have hb' : bk < wr.heap.size := by omega
      have HSN := Lib.hid (cnt_snoc l t hlt)
      generalize l[k] = x at c0 c1 HSN
      have HH := Lib.hid (fun w' => pHas x t w')
      generalize hasI x t = hx at HSN HH
      obtain ⟨lo, hi⟩ := x
      unfold ivV at HH
      dsimp only at c0 c1 HH
      go_wp2_with fail
      refine alloc_abs (G := fun w0 => Calls _ _ _ w0 _) ?_
      intro w1 hb1 ho1 hs1
      refine (HH.out w1).mono ?_
      rintro r w2 ⟨rfl, ho2⟩
      have hoo := (Only.refl [] wr).nil_trans ho1 |>.nil_trans ho2
      have O2 := Lib.hid (OO.out.nil_trans hoo); have W2 := Lib.hid (OW.out.kept hoo)
      clear hb1 ho1 hs1 ho2 hoo c0 c1 OO OW HH
      cases hx with
      | false =>
        have HC : Hid (ns.length = cntI (l.take (k + 1)) t) := Lib.hid (by rw [HSN.out, HNS.out]; simp)
        go_wp2
        go_roundw
        case rel => exact ⟨k + 1, ns, by omega, by go_num, HC.out, by omega, W2.out, O2.out⟩
        case measure => first | (simp [intOf]; done) | (simp [intOf]; omega)
      | true =>
        have HC : Hid ((ns ++ [(k : Int)]).length = cntI (l.take (k + 1)) t) := Lib.hid (by rw [HSN.out, List.length_append, HNS.out]; simp)
        obtain ⟨pp, cap', rfl, _⟩ := Own.vrow (enc := intC) (s := 1) intC_len W2.out
        go_wp2_with (at_builtin; refine stop_here ?_)
        refine alloc_abs (G := fun w0 => Stop (wpList _ _ _ _ _ w0)) ?_
        intro w5 hb5 ho5 hs5
        have B5 := Lib.hid hb5; have O5 := Lib.hid (O2.out.nil_trans ho5); have R5 := Lib.hid (W2.out.kept ho5)
        clear hb5 ho5 hs5
        refine stop_go ?_
        refine wpList_append_one (w0 := w) rfl _ _ 122 rfl 3 (.int .i64 0) 1 8 Tryz.underlying122 (by kernel_rfl) rfl (by decide) intC intC_len intC_one ns _ rfl R5.out w2.heap.size (k : Int) rfl (fun j u hj => ?_) (by simp [maxLen]; omega) (by omega) O5.out ?_
        · rw [cell_got B5.out, ← hj]; simp [intC]
        intro v6 w6 hown6 ho6 _
        have W6 := Lib.hid hown6; have O6 := Lib.hid ho6
        clear hown6 ho6
        go_wp2
        go_roundw
        case rel => exact ⟨k + 1, ns ++ [(k : Int)], by omega, by go_num, HC.out, by simp; omega, W6.out, O6.out⟩
        case measure => first | (simp [intOf]; done) | (simp [intOf]; omega)
    · have HC : Hid (ns.length = cntI l t) := Lib.hid (by have := HNS.out; rwa [List.take_of_length_le (by omega)] at this)
      go_wp2
      go_ret
      exact ⟨⟨_, ns, rfl, OW.out, HC.out⟩, OO.out⟩
set_option maxRecDepth 100000 in
set_option maxHeartbeats 1000000 in
theorem pCount {w : World} {p : Option Addr} {n cap : Nat} {l : List Iv} (hv : VRow ivC 2 w p n cap l) (hn : l.length ≤ 48) (t : Int) :
    Calls Tryz.prog 156 #[.slice p n cap, .int .i64 t] w fun e w' => e = .returned (.int .i64 (cntI l t)) ∧ Only [] w w' := by
  have HA := Lib.hid (pAgree hv hn t)
  clear hv hn
  go_enter Tryz.func156, Tryz.ntmps156
  go_wp2_with fail
  refine HA.out.mono ?_
  rintro e w1 ⟨⟨v, ns, rfl, hown, hc⟩, ho⟩
  have HC := Lib.hid hc; have O1 := Lib.hid ho
  obtain ⟨pp, cap', rfl, _⟩ := Own.vrow (enc := intC) (s := 1) intC_len hown
  clear hc ho hown
  go_wp2
  go_ret
  exact ⟨by rw [HC.out]; rfl, O1.out⟩
/-- where interval.valid stands -/
def VaI (w : World) (l : List Iv) (vo vi : Value) (wr : World) : Prop :=
  ∃ k : Nat, k ≤ l.length ∧ vi = .int .i64 k ∧ Own ivC 45 2 w.heap.size wr vo ((l.take k).filter ivOk) ∧ Only [] w wr
def VaR (w0 : World) (l : List Iv) (e : Ending) (w : World) : Prop := ∃ v : Value, e = .returned v ∧ Own ivC 45 2 w0.heap.size w v l
set_option maxRecDepth 100000 in
set_option maxHeartbeats 2000000 in
theorem pIvValid {w : World} {p : Option Addr} {n cap : Nat} {l : List Iv} (hv : VRow ivC 2 w p n cap l) (hn : l.length ≤ 48) :
    Calls Tryz.prog 226 #[.slice p n cap] w fun e w' => VaR w (l.filter ivOk) e w' ∧ Only [] w w' := by
  have hl := hv.len
  subst hl
  have HV := Lib.hid hv; clear hv
  have d1 : decide (48 < (l.length : Int)) = false := by simp; omega
  have d2 : decide (48 < l.length) = false := by simp; omega
  go_enter Tryz.func226, Tryz.ntmps226
  go_wp2
  go_loopw [3, 11] (fun vo vi wr => VaI w l vo vi wr) (fun _ vi _ => l.length - (intOf vi).toNat)
  case atStart => exact ⟨0, Nat.zero_le _, rfl, own_nil _ _, Only.refl _ _⟩
  case round =>
    obtain ⟨k, hk, rfl, hown, ho⟩ := hrel
    have OW := Lib.hid hown; have OO := Lib.hid ho
    clear hown ho
    by_cases hlt : k < l.length
    · obtain ⟨bk, off, hp, hb, c0, c1⟩ := HV.out.iv OO.out hlt
      subst hp
      have hle := OO.out.size
      have hb' : bk < wr.heap.size := by omega
      have HSN : Hid ((l.take (k + 1)).filter ivOk = (l.take k).filter ivOk ++ (if ivOk l[k] = true then [l[k]] else [])) := Lib.hid (by
        rw [List.take_succ_eq_append_getElem hlt, List.filter_append]
        by_cases h : ivOk l[k] = true <;> simp [h])
      have hfl : ((l.take k).filter ivOk).length ≤ k := Nat.le_trans (List.length_filter_le _ _) (by rw [List.length_take]; omega)
      generalize (l.take k).filter ivOk = acc at OW HSN hfl
      generalize l[k] = x at c0 c1 HSN
      have HH := Lib.hid (fun w' => pDriftCheck x w')
      generalize ivOk x = hx at HSN HH
      obtain ⟨lo, hi⟩ := x
      unfold ivV at HH
      dsimp only at c0 c1 HH
      go_wp2_with fail
      refine alloc_abs (G := fun w0 => Calls _ _ _ w0 _) ?_
      intro w1 hb1 ho1 hs1
      refine (HH.out w1).mono ?_
      rintro r w2 ⟨rfl, ho2⟩
      have hoo := (Only.refl [] wr).nil_trans ho1 |>.nil_trans ho2
      have O2 := Lib.hid (OO.out.nil_trans hoo); have W2 := Lib.hid (OW.out.kept hoo); have B2 := Lib.hid (ho2.got hb1 (by simp))
      clear hb1 ho1 hs1 ho2 hoo c0 c1 OO OW HH
      cases hx with
      | false =>
        have HC : Hid ((l.take (k + 1)).filter ivOk = acc) := Lib.hid (by rw [HSN.out]; simp)
        go_wp2
        go_roundw
        case rel => exact ⟨k + 1, by omega, by go_num, by rw [HC.out]; exact W2.out, O2.out⟩
        case measure => first | (simp [intOf]; done) | (simp [intOf]; omega)
      | true =>
        have HC : Hid ((l.take (k + 1)).filter ivOk = acc ++ [⟨lo, hi⟩]) := Lib.hid (by rw [HSN.out]; simp)
        obtain ⟨pp, cap', rfl, _⟩ := Own.vrow (enc := ivC) (s := 2) ivC_len W2.out
        have k0 := cell_got B2.out 0; have k1 := cell_got B2.out 1; have lk := got_lt B2.out
        go_wp2_with (at_builtin; refine stop_here ?_)
        refine alloc_abs (G := fun w0 => Stop (wpList _ _ _ _ _ w0)) ?_
        intro w5 hb5 ho5 hs5
        have B5 := Lib.hid hb5; have O5 := Lib.hid (O2.out.nil_trans ho5); have R5 := Lib.hid (W2.out.kept ho5)
        clear hb5 ho5 hs5 k0 k1 lk
        refine stop_go ?_
        refine wpList_append_one (w0 := w) rfl _ _ 182 rfl 45 (.agg #[.int .i64 0, .int .i64 0]) 2 16 Tryz.underlying182 (by kernel_rfl) rfl (by decide) ivC ivC_len ivC_one acc _ rfl R5.out w2.heap.size ⟨lo, hi⟩ rfl (fun j u hj => ?_) (by simp [maxLen]; omega) (by omega) O5.out ?_
        · rw [cell_got B5.out, ← hj]; simp [ivC]
        intro v6 w6 hown6 ho6 _
        have W6 := Lib.hid hown6; have O6 := Lib.hid ho6
        clear hown6 ho6
        go_wp2
        go_roundw
        case rel => exact ⟨k + 1, by omega, by go_num, by rw [HC.out]; exact W6.out, O6.out⟩
        case measure => first | (simp [intOf]; done) | (simp [intOf]; omega)
    · have HC : Hid ((l.take k).filter ivOk = l.filter ivOk) := Lib.hid (by rw [List.take_of_length_le (by omega)])
      rw [HC.out] at OW
      go_wp2
      go_ret
      exact ⟨⟨_, rfl, OW.out⟩, OO.out⟩
end Go.Proofs.YtikjdmbfjkbndaaGreat
