/- interval.lower, upper, pickEnds and Hull. Conditions: the lengths. -/
import Derived.Test.YtikjdmbfjkbndaaGreatMg
namespace Go.Proofs.YtikjdmbfjkbndaaGreat
open Go.RowKit

theorem grown_only2 {P : Program} {f : FuncId} {args : Array Value} {w : World} {v : Value} (h : ∀ w', Only [] w w' → Calls P f args w' fun e w'' => e = .returned v ∧ Only [] w' w'') :
    ∀ w', (∃ x, w' = plus w x) → Calls P f args w' fun e w'' => e = .returned v ∧ ∃ x, w'' = plus w x :=
  grown_calls fun w' hw' => (h w' (only_of_plus hw')).mono fun _ _ ⟨he, ho⟩ => ⟨he, ho.nil_below⟩
theorem wpQuiet_enter_w {P : Program} {ops : Array Oper} {C : World → Prop} {Q : Act → Prop} {a : Act} {o : Oper} {rest : List Oper} (hg : Region.wanted o (yielded ops a.tmps) = true) (f : FuncId) (args : Array Value)
    (hrun : ∀ w, (execOp a.eval o).run P w = .ok (.enter f args) w) (v : Value) (hcall : ∀ w', C w' → Calls P f args w' fun e w'' => e = .returned v ∧ C w'')
    (h : wpQuiet P ops C Q rest (a.put o.dst v)) : wpQuiet P ops C Q (o :: rest) a := by
  refine wpQuiet_step fun K hK => ?_
  rw [hg]
  simp only [if_true]
  refine ⟨v, fun w' hw' => ?_, hK _ h⟩
  unfold Oper.quietAt
  rw [hrun w']
  exact ⟨rfl, hcall w' hw'⟩
theorem Own.block_ge {α : Type} {enc : α → List Value} {e : TypeId} {s B : Nat} {w : World} {v : Value} {l : List α} (h : Own enc e s B w v l) : ∀ x ∈ v.ownBlock.toList, B ≤ x := by
  intro x hx
  rcases h with ⟨rfl, _⟩ | ⟨g, cc, rfl, hB, _⟩
  · simp [Value.ownBlock] at hx
  · simp [Value.ownBlock] at hx; omega
theorem Own.base {α : Type} {enc : α → List Value} {e : TypeId} {s B B' : Nat} {w : World} {v : Value} {l : List α} (h : Own enc e s B w v l) (hB : B' ≤ B) : Own enc e s B' w v l := by
  rcases h with h | ⟨g, cc, h1, h2, h3⟩
  · exact .inl h
  · exact .inr ⟨g, cc, h1, by omega, h3⟩
/-- the ends of the valid intervals that are picked -/
def endsI (f : Iv → Int) (pk : Int → Bool) (l : List Iv) : List Int := ((l.filter ivOk).map f).filter pk
def sortI (l : List Int) : List Int := l.mergeSort fun x y => decide (x ≤ y)
/-- the pick of Hull -/
def pkI (l : List Iv) (need : Int) (t : Int) : Bool := decide (need ≤ (cntI l t : Int))
set_option maxRecDepth 100000 in
set_option maxHeartbeats 1000000 in
theorem pEnough {w : World} {p : Option Addr} {n cap b1 b2 : Nat} {l : List Iv} {need : Int} (hv : VRow ivC 2 w p n cap l) (hn : l.length ≤ 48) (h1 : w.heap[b1]? = some (.cells #[.slice p n cap] 182 (0, 0))) (h2 : w.heap[b2]? = some (.cells #[.int .i64 need] 3 (0, 0))) (t : Int) :
    Calls Tryz.prog 155 #[.int .i64 t, .pointer (some ⟨b1, 0, none⟩), .pointer (some ⟨b2, 0, none⟩)] w fun e w' => e = .returned (.bool (pkI l need t)) ∧ Only [] w w' := by
  have HC := Lib.hid (fun w' (ho : Only [] w w') => pCount (hv.kept ho) hn t)
  have B1 := Lib.hid h1; have B2 := Lib.hid h2
  have HP : Hid (pkI l need t = decide (need ≤ (cntI l t : Int))) := Lib.hid rfl
  generalize pkI l need t = r at HP ⊢
  generalize cntI l t = c at HC HP
  have k1 := cell_got h1 0; have k2 := cell_got h2 0; have l1 := got_lt h1; have l2 := got_lt h2
  clear hv h1 h2
  obtain ⟨rb, hrb⟩ : ∃ rb, decide (need ≤ (c : Int)) = rb := ⟨_, rfl⟩
  obtain rfl : r = rb := by rw [HP.out, hrb]
  clear HP
  go_enter Tryz.func155, Tryz.ntmps155
  go_wp2_with fail
  refine wp_region_grown [0, 1, 2, 3, 4] [5] (by kernel_rfl) (by kernel_rfl) ?_
  simp only [pick, List.map_cons, List.map_nil, List.getD_cons_succ, List.getD_cons_zero]
  iterate 2 (refine wpQuiet_step (fun K hK => ?_); go_simp; refine hK _ ?_; clear hK K)
  refine wpQuiet_enter_w (by kernel_rfl) 156 #[.slice p n cap, .int .i64 t] (fun _ => by kernel_rfl) (.int .i64 c) (grown_only2 fun w' ho' => HC.out w' ho') ?_
  iterate 2 (refine wpQuiet_step (fun K hK => ?_); go_simp; refine hK _ ?_; clear hK K)
  refine wpQuiet_nil ?_
  intro w1 hw1
  have O1 := Lib.hid (only_of_plus hw1)
  clear hw1
  go_wp2
  go_ret
  exact ⟨rfl, O1.out⟩
set_option maxRecDepth 100000 in
set_option maxHeartbeats 1000000 in
theorem p_lower (x : Iv) (w : World) : Calls Tryz.prog 158 #[ivV x] w fun e w' => e = .returned (.int .i64 x.lo) ∧ Only [] w w' := by
  obtain ⟨lo, hi⟩ := x
  unfold ivV
  dsimp only
  go_enter Tryz.func158, Tryz.ntmps158
  go_upto_region 1 with (fail)
  refine alloc_abs (G := fun w0 => Code.wp _ _ _ _ w0) ?_
  intro w1 hb1 ho1 hs1
  have B1 := Lib.hid hb1; have O1 := Lib.hid ho1
  clear hb1 ho1 hs1
  have k0 := cell_got B1.out 0; have k1 := cell_got B1.out 1; have lk := got_lt B1.out
  go_wp2
  go_ret
  exact ⟨rfl, O1.out⟩
set_option maxRecDepth 100000 in
set_option maxHeartbeats 1000000 in
theorem p_upper (x : Iv) (w : World) : Calls Tryz.prog 159 #[ivV x] w fun e w' => e = .returned (.int .i64 x.hi) ∧ Only [] w w' := by
  obtain ⟨lo, hi⟩ := x
  unfold ivV
  dsimp only
  go_enter Tryz.func159, Tryz.ntmps159
  go_upto_region 1 with (fail)
  refine alloc_abs (G := fun w0 => Code.wp _ _ _ _ w0) ?_
  intro w1 hb1 ho1 hs1
  have B1 := Lib.hid hb1; have O1 := Lib.hid ho1
  clear hb1 ho1 hs1
  have k0 := cell_got B1.out 0; have k1 := cell_got B1.out 1; have lk := got_lt B1.out
  go_wp2
  go_ret
  exact ⟨rfl, O1.out⟩
/-- where pickEnds stands -/
def PeI (w : World) (f : Iv → Int) (pk : Int → Bool) (l : List Iv) (vo vi : Value) (wr : World) : Prop :=
  ∃ k : Nat, k ≤ l.length ∧ vi = .int .i64 k ∧ Own intC 3 1 w.heap.size wr vo (((l.take k).map f).filter pk) ∧ Only [] w wr
def PeR (w0 : World) (l : List Int) (e : Ending) (w : World) : Prop := ∃ v : Value, e = .returned v ∧ Own intC 3 1 w0.heap.size w v l
set_option maxRecDepth 100000 in
set_option maxHeartbeats 2000000 in
theorem pEnds_lower {w : World} {p : Option Addr} {n cap b1 b2 : Nat} {l : List Iv} {pk : Int → Bool} (hv : VRow ivC 2 w p n cap l) (hn : l.length ≤ 48)
    (hpk : ∀ t w', Only [] w w' → Calls Tryz.prog 155 #[.int .i64 t, .pointer (some ⟨b1, 0, none⟩), .pointer (some ⟨b2, 0, none⟩)] w' fun e w'' => e = .returned (.bool (pk t)) ∧ Only [] w' w'') :
    Calls Tryz.prog 157 #[.slice p n cap, .func (.func 158) #[] #[], .func (.func 155) #[] #[.pointer (some ⟨b1, 0, none⟩), .pointer (some ⟨b2, 0, none⟩)]] w fun e w' => PeR w (sortI (endsI Iv.lo pk l)) e w' ∧ Only [] w w' := by
  have HA := Lib.hid (pIvValid hv hn)
  have HPK := Lib.hid hpk
  have hfl : (l.filter ivOk).length ≤ 48 := Nat.le_trans (List.length_filter_le _ _) hn
  have HE : Hid (endsI Iv.lo pk l = ((l.filter ivOk).map Iv.lo).filter pk) := Lib.hid rfl
  generalize endsI Iv.lo pk l = es at HE ⊢
  generalize l.filter ivOk = vs at HA HE hfl
  clear hv hn hpk
  go_enter Tryz.func157, Tryz.ntmps157
  go_wp2_with fail
  refine HA.out.mono ?_
  rintro e w1 ⟨⟨v, rfl, hown⟩, ho⟩
  obtain ⟨pv, cv, rfl, hvr⟩ := Own.vrow (enc := ivC) (s := 2) ivC_len hown
  have HV := Lib.hid hvr; have O1 := Lib.hid ho
  clear ho hown hvr HA
  go_wp2_with fail
  go_loopw [7, 14] (fun vo vi wr => PeI w1 Iv.lo pk vs vo vi wr) (fun _ vi _ => vs.length - (intOf vi).toNat)
  case atStart => exact ⟨0, Nat.zero_le _, rfl, own_nil _ _, Only.refl _ _⟩
  case round =>
    obtain ⟨k, hk, rfl, hown, ho⟩ := hrel
    have OW := Lib.hid hown; have OO := Lib.hid ho; have OA := Lib.hid (O1.out.nil_trans ho)
    clear hown ho
    by_cases hlt : k < vs.length
    · obtain ⟨bk, off, hp, hb, c0, c1⟩ := HV.out.iv OO.out hlt
      subst hp
      have hle := OO.out.size
      have hb' : bk < wr.heap.size := by omega
      have HSN : Hid (((vs.take (k + 1)).map Iv.lo).filter pk = ((vs.take k).map Iv.lo).filter pk ++ (if pk vs[k].lo = true then [vs[k].lo] else [])) := Lib.hid (by
        rw [List.take_succ_eq_append_getElem hlt, List.map_append, List.filter_append]
        by_cases h : pk vs[k].lo = true <;> simp [h])
      have hfl2 : (((vs.take k).map Iv.lo).filter pk).length ≤ k := Nat.le_trans (List.length_filter_le _ _) (by rw [List.length_map, List.length_take]; omega)
      generalize ((vs.take k).map Iv.lo).filter pk = acc at OW HSN hfl2
      generalize vs[k] = x at c0 c1 HSN
      have HH := Lib.hid (fun w' => p_lower x w')
      obtain ⟨lo, hi⟩ := x
      unfold ivV at HH
      dsimp only at c0 c1 HH HSN
      have HPT := Lib.hid (HPK.out lo)
      generalize pk lo = hx at HSN HPT
      go_wp2_with fail
      refine alloc_abs (G := fun w0 => Calls _ _ _ w0 _) ?_
      intro w2 hb1 ho1 hs1
      refine (HH.out w2).mono ?_
      rintro r w3 ⟨rfl, ho2⟩
      have hoo := (Only.refl [] wr).nil_trans ho1 |>.nil_trans ho2
      have O3 := Lib.hid (OO.out.nil_trans hoo); have A3 := Lib.hid (OA.out.nil_trans hoo); have W3 := Lib.hid (OW.out.kept hoo)
      clear hb1 ho1 hs1 ho2 hoo c0 c1 OO OW HH OA
      go_wp2_with fail
      refine (HPT.out w3 A3.out).mono ?_
      rintro r w4 ⟨rfl, ho2⟩
      have O4 := Lib.hid (O3.out.nil_trans ho2); have W4 := Lib.hid (W3.out.kept ho2)
      clear ho2 O3 A3 W3 HPT
      cases hx with
      | false =>
        have HC : Hid (((vs.take (k + 1)).map Iv.lo).filter pk = acc) := Lib.hid (by rw [HSN.out]; simp)
        go_wp2
        go_roundw
        case rel => exact ⟨k + 1, by omega, by go_num, by rw [HC.out]; exact W4.out, O4.out⟩
        case measure => first | (simp [intOf]; done) | (simp [intOf]; omega)
      | true =>
        have HC : Hid (((vs.take (k + 1)).map Iv.lo).filter pk = acc ++ [lo]) := Lib.hid (by rw [HSN.out]; simp)
        obtain ⟨pp, cap', rfl, _⟩ := Own.vrow (enc := intC) (s := 1) intC_len W4.out
        go_wp2_with (at_builtin; refine stop_here ?_)
        refine alloc_abs (G := fun w0 => Stop (wpList _ _ _ _ _ w0)) ?_
        intro w5 hb5 ho5 hs5
        have B5 := Lib.hid hb5; have O5 := Lib.hid (O4.out.nil_trans ho5); have R5 := Lib.hid (W4.out.kept ho5)
        clear hb5 ho5 hs5
        refine stop_go ?_
        refine wpList_append_one (w0 := w1) rfl _ _ 122 rfl 3 (.int .i64 0) 1 8 Tryz.underlying122 (by kernel_rfl) rfl (by decide) intC intC_len intC_one acc _ rfl R5.out w4.heap.size lo rfl (fun j u hj => ?_) (by simp [maxLen]; omega) (by omega) O5.out ?_
        · rw [cell_got B5.out, ← hj]; simp [intC]
        intro v6 w6 hown6 ho6 _
        have W6 := Lib.hid hown6; have O6 := Lib.hid ho6
        clear hown6 ho6
        go_wp2
        go_roundw
        case rel => exact ⟨k + 1, by omega, by go_num, by rw [HC.out]; exact W6.out, O6.out⟩
        case measure => first | (simp [intOf]; done) | (simp [intOf]; omega)
    · have HC : Hid (((vs.take k).map Iv.lo).filter pk = es) := Lib.hid (by rw [HE.out, List.take_of_length_le (by omega)])
      have hel : es.length ≤ 48 := by rw [HE.out]; exact Nat.le_trans (List.length_filter_le _ _) (by rw [List.length_map]; exact hfl)
      rw [HC.out] at OW
      have HS := Lib.hid (sort_own OW.out (by omega))
      go_wp2_with fail
      refine HS.out.mono ?_
      rintro e w2 ⟨rfl, hown2, ho2⟩
      have hob := OW.out.block_ge
      have O2 := Lib.hid (OA.out.trans ho2 (fun x hx => .inr (Nat.le_trans O1.out.size (hob x hx)))); have W2 := Lib.hid (hown2.base O1.out.size)
      clear hown2 ho2 hob HS OW OO OA
      go_wp2
      go_ret
      exact ⟨⟨_, rfl, W2.out⟩, O2.out⟩
set_option maxRecDepth 100000 in
set_option maxHeartbeats 2000000 in
theorem pEnds_upper {w : World} {p : Option Addr} {n cap b1 b2 : Nat} {l : List Iv} {pk : Int → Bool} (hv : VRow ivC 2 w p n cap l) (hn : l.length ≤ 48)
    (hpk : ∀ t w', Only [] w w' → Calls Tryz.prog 155 #[.int .i64 t, .pointer (some ⟨b1, 0, none⟩), .pointer (some ⟨b2, 0, none⟩)] w' fun e w'' => e = .returned (.bool (pk t)) ∧ Only [] w' w'') :
    Calls Tryz.prog 157 #[.slice p n cap, .func (.func 159) #[] #[], .func (.func 155) #[] #[.pointer (some ⟨b1, 0, none⟩), .pointer (some ⟨b2, 0, none⟩)]] w fun e w' => PeR w (sortI (endsI Iv.hi pk l)) e w' ∧ Only [] w w' := by
  have HA := Lib.hid (pIvValid hv hn)
  have HPK := Lib.hid hpk
  have hfl : (l.filter ivOk).length ≤ 48 := Nat.le_trans (List.length_filter_le _ _) hn
  have HE : Hid (endsI Iv.hi pk l = ((l.filter ivOk).map Iv.hi).filter pk) := Lib.hid rfl
  generalize endsI Iv.hi pk l = es at HE ⊢
  generalize l.filter ivOk = vs at HA HE hfl
  clear hv hn hpk
  go_enter Tryz.func157, Tryz.ntmps157
  go_wp2_with fail
  refine HA.out.mono ?_
  rintro e w1 ⟨⟨v, rfl, hown⟩, ho⟩
  obtain ⟨pv, cv, rfl, hvr⟩ := Own.vrow (enc := ivC) (s := 2) ivC_len hown
  have HV := Lib.hid hvr; have O1 := Lib.hid ho
  clear ho hown hvr HA
  go_wp2_with fail
  go_loopw [7, 14] (fun vo vi wr => PeI w1 Iv.hi pk vs vo vi wr) (fun _ vi _ => vs.length - (intOf vi).toNat)
  case atStart => exact ⟨0, Nat.zero_le _, rfl, own_nil _ _, Only.refl _ _⟩
  case round =>
    obtain ⟨k, hk, rfl, hown, ho⟩ := hrel
    have OW := Lib.hid hown; have OO := Lib.hid ho; have OA := Lib.hid (O1.out.nil_trans ho)
    clear hown ho
    by_cases hlt : k < vs.length
    · obtain ⟨bk, off, hp, hb, c0, c1⟩ := HV.out.iv OO.out hlt
      subst hp
      have hle := OO.out.size
      have hb' : bk < wr.heap.size := by omega
      have HSN : Hid (((vs.take (k + 1)).map Iv.hi).filter pk = ((vs.take k).map Iv.hi).filter pk ++ (if pk vs[k].hi = true then [vs[k].hi] else [])) := Lib.hid (by
        rw [List.take_succ_eq_append_getElem hlt, List.map_append, List.filter_append]
        by_cases h : pk vs[k].hi = true <;> simp [h])
      have hfl2 : (((vs.take k).map Iv.hi).filter pk).length ≤ k := Nat.le_trans (List.length_filter_le _ _) (by rw [List.length_map, List.length_take]; omega)
      generalize ((vs.take k).map Iv.hi).filter pk = acc at OW HSN hfl2
      generalize vs[k] = x at c0 c1 HSN
      have HH := Lib.hid (fun w' => p_upper x w')
      obtain ⟨lo, hi⟩ := x
      unfold ivV at HH
      dsimp only at c0 c1 HH HSN
      have HPT := Lib.hid (HPK.out hi)
      generalize pk hi = hx at HSN HPT
      go_wp2_with fail
      refine alloc_abs (G := fun w0 => Calls _ _ _ w0 _) ?_
      intro w2 hb1 ho1 hs1
      refine (HH.out w2).mono ?_
      rintro r w3 ⟨rfl, ho2⟩
      have hoo := (Only.refl [] wr).nil_trans ho1 |>.nil_trans ho2
      have O3 := Lib.hid (OO.out.nil_trans hoo); have A3 := Lib.hid (OA.out.nil_trans hoo); have W3 := Lib.hid (OW.out.kept hoo)
      clear hb1 ho1 hs1 ho2 hoo c0 c1 OO OW HH OA
      go_wp2_with fail
      refine (HPT.out w3 A3.out).mono ?_
      rintro r w4 ⟨rfl, ho2⟩
      have O4 := Lib.hid (O3.out.nil_trans ho2); have W4 := Lib.hid (W3.out.kept ho2)
      clear ho2 O3 A3 W3 HPT
      cases hx with
      | false =>
        have HC : Hid (((vs.take (k + 1)).map Iv.hi).filter pk = acc) := Lib.hid (by rw [HSN.out]; simp)
        go_wp2
        go_roundw
        case rel => exact ⟨k + 1, by omega, by go_num, by rw [HC.out]; exact W4.out, O4.out⟩
        case measure => first | (simp [intOf]; done) | (simp [intOf]; omega)
      | true =>
        have HC : Hid (((vs.take (k + 1)).map Iv.hi).filter pk = acc ++ [hi]) := Lib.hid (by rw [HSN.out]; simp)
        obtain ⟨pp, cap', rfl, _⟩ := Own.vrow (enc := intC) (s := 1) intC_len W4.out
        go_wp2_with (at_builtin; refine stop_here ?_)
        refine alloc_abs (G := fun w0 => Stop (wpList _ _ _ _ _ w0)) ?_
        intro w5 hb5 ho5 hs5
        have B5 := Lib.hid hb5; have O5 := Lib.hid (O4.out.nil_trans ho5); have R5 := Lib.hid (W4.out.kept ho5)
        clear hb5 ho5 hs5
        refine stop_go ?_
        refine wpList_append_one (w0 := w1) rfl _ _ 122 rfl 3 (.int .i64 0) 1 8 Tryz.underlying122 (by kernel_rfl) rfl (by decide) intC intC_len intC_one acc _ rfl R5.out w4.heap.size hi rfl (fun j u hj => ?_) (by simp [maxLen]; omega) (by omega) O5.out ?_
        · rw [cell_got B5.out, ← hj]; simp [intC]
        intro v6 w6 hown6 ho6 _
        have W6 := Lib.hid hown6; have O6 := Lib.hid ho6
        clear hown6 ho6
        go_wp2
        go_roundw
        case rel => exact ⟨k + 1, by omega, by go_num, by rw [HC.out]; exact W6.out, O6.out⟩
        case measure => first | (simp [intOf]; done) | (simp [intOf]; omega)
    · have HC : Hid (((vs.take k).map Iv.hi).filter pk = es) := Lib.hid (by rw [HE.out, List.take_of_length_le (by omega)])
      have hel : es.length ≤ 48 := by rw [HE.out]; exact Nat.le_trans (List.length_filter_le _ _) (by rw [List.length_map]; exact hfl)
      rw [HC.out] at OW
      have HS := Lib.hid (sort_own OW.out (by omega))
      go_wp2_with fail
      refine HS.out.mono ?_
      rintro e w2 ⟨rfl, hown2, ho2⟩
      have hob := OW.out.block_ge
      have O2 := Lib.hid (OA.out.trans ho2 (fun x hx => .inr (Nat.le_trans O1.out.size (hob x hx)))); have W2 := Lib.hid (hown2.base O1.out.size)
      clear hown2 ho2 hob HS OW OO OA
      go_wp2
      go_ret
      exact ⟨⟨_, rfl, W2.out⟩, O2.out⟩
end Go.Proofs.YtikjdmbfjkbndaaGreat
