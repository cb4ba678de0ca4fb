/- choose.Select. Condition: the length of the slice. -/
import Derived.Test.YtikjdmbfjkbndaaGreatMj
namespace Go.Proofs.YtikjdmbfjkbndaaGreat
open Go.RowKit

def selAt (l : List Cd) (a : Nat) : Option (List Int × Iv) := match hullI (l.map spanC) ((l.length : Int) - a) with
  | none => none
  | some h => if (l.length : Int) - ((pkX (inH h) l 0).length : Int) ≤ a then some (pkX (inH h) l 0, h) else none
def selF (l : List Cd) : Nat → Nat → Option (List Int × Iv)
  | 0, _ => none
  | f + 1, a => if 2 * a < l.length then (match selAt l a with
    | some x => some x
    | none => selF l f (a + 1)) else none
def sel (l : List Cd) : Option (List Int × Iv) := selF l (l.length + 1) 0
/-- what Select returns -/
def SelV (w0 : World) (l : List Cd) (e : Ending) (w : World) : Prop :=
  ∃ (v : Value) (h : Iv) (ins : List Int) (er : Int), e = .returned (.tuple #[v, ivV h, .int .i64 er]) ∧ Own intC 3 1 w0.heap.size w v ins ∧ ((er = 0 ∧ Gd l ∧ sel l = some (ins, h)) ∨ (er ≠ 0 ∧ (¬ Gd l ∨ sel l = none)))
def SpI (w : World) (l : List Cd) (vo vi : Value) (wr : World) : Prop :=
  ∃ k : Nat, k ≤ l.length ∧ vi = .int .i64 k ∧ Own ivC 45 2 w.heap.size wr vo ((l.take k).map spanC) ∧ Only [] w wr
def SeI (w : World) (l : List Cd) (va : Value) (wr : World) : Prop :=
  ∃ (a f : Nat), va = .int .i64 a ∧ a ≤ l.length ∧ f + a = l.length + 1 ∧ sel l = selF l f a ∧ Only [] w wr
set_option maxRecDepth 100000 in
set_option maxHeartbeats 4000000 in
theorem pSelect {w : World} {p : Option Addr} {n cap : Nat} {l : List Cd} (hv : VRow cdC 5 w p n cap l) (hn : n ≤ 100000) :
    Calls Tryz.prog 50 #[.slice p n cap] w fun e w' => SelV w l e w' ∧ Only [] w w' := by
  have hl := hv.len
  subst hl
  have HV := Lib.hid hv; clear hv
  go_enter Tryz.func50, Tryz.ntmps50
  go_upto_region 1 with (fail)
  refine alloc_abs (G := fun w0 => Code.wp _ _ _ _ w0) ?_
  intro w1 hb1 ho1 hs1
  have B1 := Lib.hid hb1; have O1 := Lib.hid ho1; have S1 := Lib.hid ho1.size
  obtain ⟨b, hb⟩ : ∃ b, w.heap.size = b := ⟨_, rfl⟩
  have HB : Hid (w.heap.size ≤ b) := Lib.hid (by omega)
  rw [hb] at B1
  rw [hb]
  clear hb1 ho1 hs1 hb
  have hck := pCheck (HV.out.kept O1.out) hn
  have hgd := chkC_ok (l := l)
  generalize chkC l = er at hck hgd
  have HCK := Lib.hid hck
  clear hck
  go_wp2_with fail
  refine HCK.out.mono ?_
  rintro e w2 ⟨rfl, ho2⟩
  have O2 := Lib.hid (O1.out.nil_trans ho2); have B2 := Lib.hid (ho2.got B1.out (by simp))
  clear ho2 HCK O1 B1
  have k3 := cell_got B2.out 0; have k4 := cell_got B2.out 1; have l3 := got_lt B2.out; have z3 := frozen_got B2.out 0; have z4 := frozen_got B2.out 1
  by_cases her : er = 0
  · subst her
    have HG := Lib.hid (hgd.1 rfl)
    clear hgd
    go_wp2_with fail
    clear k3 k4 l3 z3 z4
    have hlb : l.length ≤ 12 := HG.out.len
    go_loopw [6, 21] (fun vo vi wr => SpI w2 l vo vi wr) (fun _ vi _ => l.length - (intOf vi).toNat)
    case atStart => exact ⟨0, Nat.zero_le _, rfl, own_nil _ _, Only.refl _ _⟩
    case round =>
      obtain ⟨k, hk, rfl, hown, ho⟩ := hrel
      have OW := Lib.hid hown; have OO := Lib.hid ho
      clear hown ho
      by_cases hlt : k < l.length
      · obtain ⟨bk, off, hp, hb, c0, c1, c2, c3, c4⟩ := HV.out.cd (O2.out.nil_trans OO.out) hlt
        subst hp
        have hle := (O2.out.nil_trans OO.out).size
        have hb' : bk < wr.heap.size := by omega
        have hxo := HG.out.ok _ (List.getElem_mem hlt)
        have HSN : Hid ((l.take (k + 1)).map spanC = (l.take k).map spanC ++ [spanC l[k]]) := Lib.hid (by
          rw [List.take_succ_eq_append_getElem hlt, List.map_append]; rfl)
        have hfl2 : ((l.take k).map spanC).length ≤ k := by rw [List.length_map, List.length_take]; omega
        generalize (l.take k).map spanC = acc at OW HSN hfl2
        generalize l[k] = x at c0 c1 c2 c3 c4 HSN hxo
        have HH := Lib.hid (fun w' => pSpan x hxo w')
        generalize spanC x = y at HH HSN
        obtain ⟨id, of, di, ji, st⟩ := x
        obtain ⟨lo, hi⟩ := y
        unfold cdV ivV at HH
        dsimp only at c0 c1 c2 c3 c4 HH HSN
        clear hxo
        obtain ⟨pp, cap', rfl, _⟩ := Own.vrow (enc := ivC) (s := 2) ivC_len OW.out
        go_wp2_with fail
        refine alloc_abs (G := fun w0 => Calls _ _ _ w0 _) ?_
        intro w3 hb1 ho1 hs1
        refine (HH.out w3).mono ?_
        rintro r w4 ⟨rfl, ho2⟩
        have hoo := (Only.refl [] wr).nil_trans ho1 |>.nil_trans ho2
        have O4 := Lib.hid (OO.out.nil_trans hoo); have W4 := Lib.hid (OW.out.kept hoo)
        clear hb1 ho1 hs1 ho2 hoo c0 c1 c2 c3 c4 OO OW HH
        go_wp2_with (at_builtin; refine stop_here ?_)
        refine alloc_abs (G := fun w0 => Stop (wpList _ _ _ _ _ w0)) ?_
        intro w5 hb5 ho5 hs5
        have B5 := Lib.hid hb5; have O5 := Lib.hid (O4.out.nil_trans ho5); have R5 := Lib.hid (W4.out.kept ho5)
        clear hb5 ho5 hs5
        refine stop_go ?_
        refine wpList_append_one (w0 := w2) rfl _ _ 182 rfl 45 (.agg #[.int .i64 0, .int .i64 0]) 2 16 Tryz.underlying182 (by kernel_rfl) rfl (by decide) ivC ivC_len ivC_one acc _ rfl R5.out w4.heap.size ⟨lo, hi⟩ rfl (fun j u hj => ?_) (by simp [maxLen]; omega) (by omega) O5.out ?_
        · rw [cell_got B5.out, ← hj]; simp [ivC]
        intro v6 w6 hown6 ho6 _
        have W6 := Lib.hid hown6; have O6 := Lib.hid ho6
        clear hown6 ho6
        go_wp2
        go_roundw
        case rel => exact ⟨k + 1, by omega, by go_num, by rw [HSN.out]; exact W6.out, O6.out⟩
        case measure => first | (simp [intOf]; done) | (simp [intOf]; omega)
      · rw [List.take_of_length_le (by omega)] at OW
        obtain ⟨w3, hw3⟩ : ∃ w3 : World, w3 = wr := ⟨_, rfl⟩
        subst hw3
        obtain ⟨pp, cap', rfl, hvr⟩ := Own.vrow (enc := ivC) (s := 2) ivC_len OW.out
        rw [List.length_map] at hvr
        have SV := Lib.hid hvr; have O3 := Lib.hid (O2.out.nil_trans OO.out); have B3 := Lib.hid (OO.out.got B2.out (by simp))
        clear hvr OW OO B2 O2
        rw [List.length_map]
        go_wp2_with fail
        go_loopw [9] (fun va wr => SeI w3 l va wr) (fun va _ => l.length + 1 - (intOf va).toNat)
        case atStart => exact ⟨0, l.length + 1, rfl, Nat.zero_le _, by omega, rfl, Only.refl _ _⟩
        case round =>
          obtain ⟨a, f, rfl, hal, hfa, hsel, ho⟩ := hrel
          have HSE := Lib.hid hsel; have OO := Lib.hid ho; have OA := Lib.hid (O3.out.nil_trans ho); have BA := Lib.hid (ho.got B3.out (by simp)); have VA := Lib.hid (SV.out.kept ho); have VL := Lib.hid (HV.out.kept (O3.out.nil_trans ho))
          clear hsel ho
          have k3 := cell_got BA.out 0; have k4 := cell_got BA.out 1; have l3 := got_lt BA.out; have z3 := frozen_got BA.out 0; have z4 := frozen_got BA.out 1
          by_cases h2 : 2 * a < l.length
          · obtain ⟨f', rfl⟩ : ∃ f', f = f' + 1 := ⟨f - 1, by omega⟩
            have HST : Hid (sel l = match selAt l a with
              | some x => some x
              | none => selF l f' (a + 1)) := Lib.hid (by rw [HSE.out, selF, if_pos h2])
            have HSA : Hid (selAt l a = match hullI (l.map spanC) ((l.length : Int) - a) with
              | none => none
              | some h => if (l.length : Int) - ((pkX (inH h) l 0).length : Int) ≤ a then some (pkX (inH h) l 0, h) else none) := Lib.hid rfl
            have hH := pHull VA.out (by rw [List.length_map]; omega) ((l.length : Int) - a)
            generalize hullI (l.map spanC) ((l.length : Int) - a) = hu at HSA hH
            generalize selAt l a = sa at HST HSA
            have HH := Lib.hid hH
            have q1 : (2 : Int) * (a : Int) < (l.length : Int) := by omega
            clear hH HSE
            go_wp2_with fail
            refine HH.out.mono ?_
            rintro e w4 ⟨rfl, ho4⟩
            have O4 := Lib.hid (OO.out.nil_trans ho4); have A4 := Lib.hid (OA.out.nil_trans ho4); have B4 := Lib.hid (ho4.got BA.out (by simp)); have V4 := Lib.hid (VL.out.kept ho4)
            clear ho4 k3 k4 l3 z3 z4 BA VA VL HH OO OA
            cases hu with
            | none =>
              obtain rfl : sa = none := by rw [HSA.out]
              have HN : Hid (sel l = selF l f' (a + 1)) := Lib.hid HST.out
              clear HSA HST
              simp only [hullV, ivV]
              go_wp2
              go_roundw
              case rel => exact ⟨a + 1, f', by go_num, by omega, by omega, HN.out, (O4.out.alloc _)⟩
              case measure => simp [intOf]; omega
            | some h =>
              have HS2 : Hid (sa = if (l.length : Int) - ((pkX (inH h) l 0).length : Int) ≤ a then some (pkX (inH h) l 0, h) else none) := Lib.hid HSA.out
              clear HSA
              have hpl := pkX_len (inH h) l 0
              simp only [hullV, ivV]
              go_upto_region 15 with (fail)
              refine alloc_abs (G := fun w0 => Code.wp _ _ _ _ w0) ?_
              intro w5 hb5 ho5 hs5
              obtain ⟨bh, hbh⟩ : ∃ bh, w4.heap.size = bh := ⟨_, rfl⟩
              rw [hbh] at hb5
              rw [hbh]
              have E5 := Lib.hid hb5; have O5 := Lib.hid (O4.out.nil_trans ho5); have A5 := Lib.hid (A4.out.nil_trans ho5); have B5 := Lib.hid (ho5.got B4.out (by simp))
              have HP := Lib.hid (pPick (b := bh) (fit := inH h) (V4.out.kept ho5) (by omega) (fun c w' ho => pInside (ho.got hb5 (by simp)) c))
              clear hb5 ho5 hs5 hbh O4 A4 B4 V4
              generalize pkX (inH h) l 0 = ins at HS2 hpl HP
              go_wp2_with fail
              refine HP.out.mono ?_
              rintro e w6 ⟨⟨v6, rfl, hown6⟩, ho6⟩
              have O6 := Lib.hid (O5.out.nil_trans ho6); have A6 := Lib.hid (A5.out.nil_trans ho6); have B6 := Lib.hid (ho6.got B5.out (by simp)); have E6 := Lib.hid (ho6.got E5.out (by simp)); have W6 := Lib.hid hown6; have HB5 : Hid (w.heap.size ≤ w5.heap.size ∧ b < w5.heap.size) := Lib.hid ⟨A5.out.size, got_lt B5.out⟩
              obtain ⟨p6, c6, rfl, _⟩ := Own.vrow (enc := intC) (s := 1) intC_len hown6
              clear ho6 hown6 O5 A5 B5 E5 HP
              have m0 := cell_got E6.out 0; have m1 := cell_got E6.out 1; have lm := got_lt E6.out; have k3 := cell_got B6.out 0; have k4 := cell_got B6.out 1; have l3 := got_lt B6.out; have z3 := frozen_got B6.out 0; have z4 := frozen_got B6.out 1
              by_cases hle : (l.length : Int) - (ins.length : Int) ≤ a
              · have HS3 : Hid (sel l = some (ins, h)) := Lib.hid (by rw [HST.out, HS2.out, if_pos hle])
                clear HST HS2
                go_wp2_with fail
                refine wp_region_grown [0, 1, 2] [3, 4] (by kernel_rfl) (by kernel_rfl) ?_
                simp only [pick, List.map_cons, List.map_nil, List.getD_cons_succ, List.getD_cons_zero]
                iterate 3 (refine wpQuiet_step (fun K hK => ?_); go_simp; refine hK _ ?_; clear hK K)
                refine wpQuiet_nil ?_
                intro w7 hw7
                have P7 := Lib.hid (only_of_plus hw7)
                have A7 := Lib.hid (A6.out.nil_trans P7.out); have B7 := Lib.hid (P7.out.got B6.out (by simp)); have W7 := Lib.hid (W6.out.kept P7.out)
                clear hw7 m0 m1 lm k3 k4 l3 z3 z4
                have k3 := cell_got B7.out 0; have k4 := cell_got B7.out 1; have l3 := got_lt B7.out; have z3 := frozen_got B7.out 0; have z4 := frozen_got B7.out 1
                go_wp2
                have HD := setCell_got (o := 1) (.int .i64 h.hi) (setCell_got (o := 0) (.int .i64 h.lo) B7.out)
                have e0 := cell_got HD 0; have e1 := cell_got HD 1; have le := got_lt HD
                refine bodyPost_ret (v := .tuple #[.slice p6 ins.length c6, ivV h, .int .i64 0]) (by simp [results, Tryz.results50, go_sem, e0, e1, ivV]) rfl ⟨⟨_, h, ins, 0, rfl, ?_, .inl ⟨rfl, HG.out, HS3.out⟩⟩, ?_⟩
                · exact (W7.out.kept_below (((Only.refl [b] w7).setCell (p := ⟨b, 0, none⟩) (.inl (by simp)) (.int .i64 h.lo)).setCell (p := ⟨b, 1, none⟩) (.inl (by simp)) (.int .i64 h.hi)) (fun x hx => by rw [List.mem_singleton] at hx; rw [hx]; exact HB5.out.2)).base HB5.out.1
                · exact (A7.out.setCell (.inr HB.out) _).setCell (.inr HB.out) _
              · have HS3 : Hid (sel l = selF l f' (a + 1)) := Lib.hid (by rw [HST.out, HS2.out, if_neg hle])
                clear HST HS2
                go_wp2
                go_roundw
                case rel => exact ⟨a + 1, f', by go_num, by omega, by omega, HS3.out, O6.out⟩
                case measure => simp [intOf]; omega
          · have HS3 : Hid (sel l = none) := Lib.hid (by
              rw [HSE.out]
              cases f with
              | zero => rfl
              | succ f => rw [selF, if_neg h2])
            have q1 : ¬ (2 : Int) * (a : Int) < (l.length : Int) := by omega
            have q2 : decide ((2 : Int) * (a : Int) < (l.length : Int)) = false := decide_eq_false q1
            clear HSE
            go_wp2
            have HD := setCell_got (o := 1) (.int .i64 0) (setCell_got (o := 0) (.int .i64 0) BA.out)
            have e0 := cell_got HD 0; have e1 := cell_got HD 1; have le := got_lt HD
            refine bodyPost_ret (v := .tuple #[.slice none 0 0, ivV ⟨0, 0⟩, .int .i64 11]) (by simp [results, Tryz.results50, go_sem, e0, e1, ivV]) rfl ⟨⟨_, ⟨0, 0⟩, [], 11, rfl, own_nil _ _, .inr ⟨by decide, .inr HS3.out⟩⟩, ?_⟩
            exact (OA.out.setCell (.inr HB.out) _).setCell (.inr HB.out) _
  · have r1 : (er != 0) = true := by simp [her]
    have r2 : (er == 0) = false := by simp [her]
    have HG : Hid (er ≠ 0 ∧ ¬ Gd l) := Lib.hid ⟨her, fun h => her (hgd.2 h)⟩
    clear hgd her
    go_wp2_with fail
    have HD := setCell_got (o := 1) (.int .i64 0) (setCell_got (o := 0) (.int .i64 0) B2.out)
    have e0 := cell_got HD 0; have e1 := cell_got HD 1; have le := got_lt HD
    refine bodyPost_ret (v := .tuple #[.slice none 0 0, ivV ⟨0, 0⟩, .int .i64 er]) (by simp [results, Tryz.results50, go_sem, e0, e1, ivV]) rfl ⟨⟨_, ⟨0, 0⟩, [], er, rfl, own_nil _ _, .inr ⟨HG.out.1, .inl HG.out.2⟩⟩, ?_⟩
    exact (O2.out.setCell (.inr HB.out) _).setCell (.inr HB.out) _
end Go.Proofs.YtikjdmbfjkbndaaGreat
