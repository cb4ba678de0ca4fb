/- choose.span, pick and the test of Select. Conditions: those named in each theorem. -/
import Derived.Test.YtikjdmbfjkbndaaGreatMi
namespace Go.Proofs.YtikjdmbfjkbndaaGreat
open Go.RowKit

def spanC (c : Cd) : Iv := ⟨c.off - c.dist, c.off + c.dist⟩
/-- the positions of those that fit -/
def pkX (fit : Cd → Bool) : List Cd → Nat → List Int
  | [], _ => []
  | c :: r, i => if fit c = true then (i : Int) :: pkX fit r (i + 1) else pkX fit r (i + 1)
theorem pkX_snoc (fit : Cd → Bool) (c : Cd) : ∀ (l : List Cd) (i : Nat), pkX fit (l ++ [c]) i = pkX fit l i ++ (if fit c = true then [((i + l.length : Nat) : Int)] else [])
  | [], i => by
    by_cases h : fit c = true <;> simp [pkX, h]
  | x :: r, i => by
    rw [List.cons_append]
    unfold pkX
    rw [pkX_snoc fit c r (i + 1), show i + 1 + r.length = i + (x :: r).length by simp; omega]
    by_cases h : fit x = true
    · rw [if_pos h, if_pos h]; rfl
    · rw [if_neg h, if_neg h]
theorem pkX_len (fit : Cd → Bool) : ∀ (l : List Cd) (i : Nat), (pkX fit l i).length ≤ l.length
  | [], i => Nat.le_refl _
  | x :: r, i => by
    unfold pkX
    have := pkX_len fit r (i + 1)
    by_cases h : fit x = true
    · rw [if_pos h]; simpa using this
    · rw [if_neg h]; simp; omega
def inH (h : Iv) (c : Cd) : Bool := decide (h.lo ≤ c.off) && decide (c.off ≤ h.hi)

set_option maxRecDepth 100000 in
set_option maxHeartbeats 1000000 in
theorem pSpan (c : Cd) (hc : okC c = true) (w : World) : Calls Tryz.prog 91 #[cdV c] w fun e w' => e = .returned (ivV (spanC c)) ∧ Only [] w w' := by
  have hbd := okC_bd hc
  obtain ⟨id, of, di, ji, st⟩ := c
  unfold cdV spanC ivV
  dsimp only at hbd ⊢
  obtain ⟨_, _, b1, b2, b3, b4, _⟩ := hbd
  clear hc
  go_enter Tryz.func91, Tryz.ntmps91
  go_upto_region 1 with (fail)
  refine wabs (G := fun w0 => Code.wp _ _ _ _ w0) (R := fun w1 => w1.heap[w.heap.size]? = some (.cells #[.int .i64 id, .int .i64 of, .int .i64 di, .int .i64 ji, .int .i64 st] 126 (0, 0)) ∧ w1.heap[w.heap.size + 1]? = some (.cells #[.int .i64 0, .int .i64 0] 45 (0, 0)) ∧ Only [] w w1) ?_ ?_
  · have k0 := alloc_new w (.cells #[.int .i64 id, .int .i64 of, .int .i64 di, .int .i64 ji, .int .i64 st] 126)
    have k1 := alloc_new (w.alloc (.cells #[.int .i64 id, .int .i64 of, .int .i64 di, .int .i64 ji, .int .i64 st] 126)) (.cells #[.int .i64 0, .int .i64 0] 45)
    simp only [World.size_alloc] at k1
    exact ⟨alloc_old k0, k1, ((Only.refl [] w).alloc _).alloc _⟩
  rintro w1 ⟨h1, h2, ho1⟩
  have B1 := Lib.hid h1; have B2 := Lib.hid h2; have O1 := Lib.hid ho1
  obtain ⟨b2, hb2⟩ : ∃ b, w.heap.size + 1 = b := ⟨_, rfl⟩
  have HN : Hid (w.heap.size ≤ b2) := Lib.hid (by omega)
  rw [hb2] at B2
  rw [hb2]
  clear h1 h2 ho1 hb2
  have k1 := cell_got B1.out 1; have k2 := cell_got B1.out 2; have l1 := got_lt B1.out; have k3 := cell_got B2.out 0; have k4 := cell_got B2.out 1; have l3 := got_lt B2.out; have z3 := frozen_got B2.out 0; have z4 := frozen_got B2.out 1
  go_wp2
  have HD := setCell_got (o := 1) (.int .i64 (of + di)) (setCell_got (o := 0) (.int .i64 (of - di)) B2.out)
  have e0 := cell_got HD 0; have e1 := cell_got HD 1; have le := got_lt HD
  refine bodyPost_ret (v := .agg #[.int .i64 (of - di), .int .i64 (of + di)]) (by simp [results, Tryz.results91, go_sem, e0, e1]) rfl ⟨rfl, ?_⟩
  exact (O1.out.setCell (.inr HN.out) _).setCell (.inr HN.out) _
set_option maxRecDepth 100000 in
set_option maxHeartbeats 1000000 in
theorem pInside {w : World} {b : Nat} {h : Iv} (hb : w.heap[b]? = some (.cells #[.int .i64 h.lo, .int .i64 h.hi] 45 (0, 0))) (c : Cd) :
    Calls Tryz.prog 94 #[cdV c, .pointer (some ⟨b, 0, none⟩)] w fun e w' => e = .returned (.bool (inH h c)) ∧ Only [] w w' := by
  obtain ⟨lo, hi⟩ := h
  obtain ⟨id, of, di, ji, st⟩ := c
  have BB := Lib.hid hb
  have HR : Hid (inH ⟨lo, hi⟩ ⟨id, of, di, ji, st⟩ = (decide (lo ≤ of) && decide (of ≤ hi))) := Lib.hid rfl
  generalize inH ⟨lo, hi⟩ ⟨id, of, di, ji, st⟩ = r at HR ⊢
  unfold cdV
  dsimp only at BB ⊢
  clear hb
  by_cases h1 : lo ≤ of
  · have a1 : decide (lo ≤ of) = true := decide_eq_true h1
    obtain ⟨r2, hr2⟩ : ∃ r2, decide (of ≤ hi) = r2 := ⟨_, rfl⟩
    obtain rfl : r = r2 := by rw [HR.out, a1, hr2]; rfl
    clear HR
    go_enter Tryz.func94, Tryz.ntmps94
    go_upto_region 1 with (fail)
    refine alloc_abs (G := fun w0 => Code.wp _ _ _ _ w0) ?_
    intro w1 hb1 ho1 hs1
    have B1 := Lib.hid hb1; have O1 := Lib.hid ho1; have C1 := Lib.hid (ho1.got BB.out (by simp))
    clear hb1 ho1 hs1
    have k1 := cell_got B1.out 1; have lk := got_lt B1.out; have m0 := cell_got C1.out 0; have m1 := cell_got C1.out 1; have lm := got_lt C1.out
    go_wp2
    go_ret
    exact ⟨rfl, O1.out⟩
  · have a1 : decide (lo ≤ of) = false := decide_eq_false h1
    obtain rfl : r = false := by rw [HR.out, a1]; rfl
    clear HR
    go_enter Tryz.func94, Tryz.ntmps94
    go_upto_region 1 with (fail)
    refine alloc_abs (G := fun w0 => Code.wp _ _ _ _ w0) ?_
    intro w1 hb1 ho1 hs1
    have B1 := Lib.hid hb1; have O1 := Lib.hid ho1; have C1 := Lib.hid (ho1.got BB.out (by simp))
    clear hb1 ho1 hs1
    have k1 := cell_got B1.out 1; have lk := got_lt B1.out; have m0 := cell_got C1.out 0; have m1 := cell_got C1.out 1; have lm := got_lt C1.out
    go_wp2
    go_ret
    exact ⟨rfl, O1.out⟩
/-- where pick stands -/
def PkI (w : World) (fit : Cd → Bool) (l : List Cd) (vo vi : Value) (wr : World) : Prop :=
  ∃ k : Nat, k ≤ l.length ∧ vi = .int .i64 k ∧ Own intC 3 1 w.heap.size wr vo (pkX fit (l.take k) 0) ∧ Only [] w wr
set_option maxRecDepth 100000 in
set_option maxHeartbeats 2000000 in
theorem pPick {w : World} {p : Option Addr} {n cap b : Nat} {l : List Cd} {fit : Cd → Bool} (hv : VRow cdC 5 w p n cap l) (hn : l.length ≤ 1000)
    (hpk : ∀ c w', Only [] w w' → Calls Tryz.prog 94 #[cdV c, .pointer (some ⟨b, 0, none⟩)] w' fun e w'' => e = .returned (.bool (fit c)) ∧ Only [] w' w'') :
    Calls Tryz.prog 93 #[.slice p n cap, .func (.func 94) #[] #[.pointer (some ⟨b, 0, none⟩)]] w fun e w' => PeR w (pkX fit l 0) e w' ∧ Only [] w w' := by
  have hl := hv.len
  subst hl
  have HV := Lib.hid hv; have HPK := Lib.hid hpk
  clear hv hpk
  go_enter Tryz.func93, Tryz.ntmps93
  go_wp2
  go_loopw [5, 10] (fun vo vi wr => PkI w fit l vo vi wr) (fun _ vi _ => l.length - (intOf vi).toNat)
  case atStart => exact ⟨0, Nat.zero_le _, rfl, own_nil _ _, Only.refl _ _⟩
  case round =>
    obtain ⟨k, hk, rfl, hown, ho⟩ := hrel
    have OW := Lib.hid hown; have OO := Lib.hid ho
    clear hown ho
    by_cases hlt : k < l.length
    · obtain ⟨bk, off, hp, hb, c0, c1, c2, c3, c4⟩ := HV.out.cd OO.out hlt
      subst hp
      have hle := OO.out.size
      have hb' : bk < wr.heap.size := by omega
      have HSN : Hid (pkX fit (l.take (k + 1)) 0 = pkX fit (l.take k) 0 ++ (if fit l[k] = true then [(k : Int)] else [])) := Lib.hid (by
        rw [List.take_succ_eq_append_getElem hlt, pkX_snoc]
        have : 0 + (l.take k).length = k := by rw [List.length_take]; omega
        rw [this])
      have hfl2 : (pkX fit (l.take k) 0).length ≤ k := Nat.le_trans (pkX_len _ _ _) (by rw [List.length_take]; omega)
      generalize pkX fit (l.take k) 0 = acc at OW HSN hfl2
      generalize l[k] = x at c0 c1 c2 c3 c4 HSN
      have HH := Lib.hid (HPK.out x)
      generalize fit x = hx at HSN HH
      obtain ⟨id, of, di, ji, st⟩ := x
      unfold cdV at HH
      dsimp only at c0 c1 c2 c3 c4 HH HSN
      go_wp2_with fail
      refine alloc_abs (G := fun w0 => Calls _ _ _ w0 _) ?_
      intro w2 hb1 ho1 hs1
      refine (HH.out w2 (OO.out.nil_trans ho1)).mono ?_
      rintro r w4 ⟨rfl, ho2⟩
      have hoo := (Only.refl [] wr).nil_trans ho1 |>.nil_trans ho2
      have O4 := Lib.hid (OO.out.nil_trans hoo); have W4 := Lib.hid (OW.out.kept hoo)
      clear hb1 ho1 hs1 ho2 hoo c0 c1 c2 c3 c4 OO OW HH
      cases hx with
      | false =>
        have HC : Hid (pkX fit (l.take (k + 1)) 0 = acc) := Lib.hid (by rw [HSN.out]; simp)
        go_wp2
        go_roundw
        case rel => exact ⟨k + 1, by omega, by go_num, by rw [HC.out]; exact W4.out, O4.out⟩
        case measure => first | (simp [intOf]; done) | (simp [intOf]; omega)
      | true =>
        have HC : Hid (pkX fit (l.take (k + 1)) 0 = acc ++ [(k : Int)]) := Lib.hid (by rw [HSN.out]; simp)
        obtain ⟨pp, cap', rfl, _⟩ := Own.vrow (enc := intC) (s := 1) intC_len W4.out
        go_wp2_with (at_builtin; refine stop_here ?_)
        refine alloc_abs (G := fun w0 => Stop (wpList _ _ _ _ _ w0)) ?_
        intro w5 hb5 ho5 hs5
        have B5 := Lib.hid hb5; have O5 := Lib.hid (O4.out.nil_trans ho5); have R5 := Lib.hid (W4.out.kept ho5)
        clear hb5 ho5 hs5
        refine stop_go ?_
        refine wpList_append_one (w0 := w) rfl _ _ 122 rfl 3 (.int .i64 0) 1 8 Tryz.underlying122 (by kernel_rfl) rfl (by decide) intC intC_len intC_one acc _ rfl R5.out w4.heap.size (k : Int) rfl (fun j u hj => ?_) (by simp [maxLen]; omega) (by omega) O5.out ?_
        · rw [cell_got B5.out, ← hj]; simp [intC]
        intro v6 w6 hown6 ho6 _
        have W6 := Lib.hid hown6; have O6 := Lib.hid ho6
        clear hown6 ho6
        go_wp2
        go_roundw
        case rel => exact ⟨k + 1, by omega, by go_num, by rw [HC.out]; exact W6.out, O6.out⟩
        case measure => first | (simp [intOf]; done) | (simp [intOf]; omega)
    · have HC : Hid (pkX fit (l.take k) 0 = pkX fit l 0) := Lib.hid (by rw [List.take_of_length_le (by omega)])
      rw [HC.out] at OW
      go_wp2
      go_ret
      exact ⟨⟨_, rfl, OW.out⟩, OO.out⟩
end Go.Proofs.YtikjdmbfjkbndaaGreat
