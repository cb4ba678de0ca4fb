/- entry of the reference: the entry of a line. Condition: the length. -/
import Derived.Test.YtdpfbedcejahjaaDoorRw
import Derived.Test.YtdpfbedcejahjaaDoorLl
namespace Go.Proofs.YtdpfbedcejahjaaDoor
open Go.RowKit

theorem entW_none {hd : List UInt8} {r : List (List UInt8)} (h : ∀ ns, numsO r = some ns → mkE hd ns = none) : entW (hd :: r) = none := by
  simp only [entW]
  cases hq : numsO r with
  | none => rfl
  | some ns => exact h ns hq
/-- the cells of the array of numbers -/
def arrE (ns : List Int) : Array Value := ((0 :: (ns ++ List.replicate (4 - ns.length) 0)).map fun z => Value.int .i64 z).toArray
theorem arrE_size {ns : List Int} {i : Nat} (h : ns.length = i) : (arrE ns).size = 1 + (i + (4 - i)) := by simp [arrE, h]; omega
theorem arrE_set {ns : List Int} {i : Nat} {v : Int} (h : ns.length = i) (hi : i < 4) : (arrE ns).setIfInBounds (i + 1) (.int .i64 v) = arrE (ns ++ [v]) := by
  unfold arrE
  rw [List.setIfInBounds_toArray, List.map_cons, List.set_cons_succ, List.map_append, List.map_replicate]
  congr 1
  rw [List.map_cons, List.map_append, List.map_append, List.map_replicate]
  congr 1
  rw [List.set_append_right _ _ (by simp [h]), List.length_map, h, Nat.sub_self, List.length_append, h]
  simp only [List.length_cons, List.length_nil, Nat.zero_add]
  rw [show 4 - i = (4 - (i + 1)) + 1 by omega, List.replicate_succ, List.set_cons_zero]
  simp
def KindR (hd : List UInt8) (w : World) (v5 v6 : Value) (wr : World) : Prop :=
  ∃ kd k : Nat, v5 = .int .i64 kd ∧ v6 = .int .i64 k ∧ 1 ≤ k ∧ k ≤ 5 ∧ Only [] w wr ∧ ((kd = 0 ∧ ∀ j, 1 ≤ j → j < k → hd ≠ nameW j) ∨ (1 ≤ kd ∧ kd < k ∧ hd = nameW kd))
def EntL (r : List (List UInt8)) (w : World) (v9 : Value) (wr : World) : Prop :=
  ∃ (i : Nat) (ns : List Int), i ≤ r.length ∧ v9 = .int .i64 ((i : Int) + 1) ∧ numsO (r.take i) = some ns ∧ wr.heap[w.heap.size]? = some (.cells (arrE ns) 76 (0, 0)) ∧ Only [] w wr
theorem grown_only' {P : Program} {f : FuncId} {args : Array Value} {w : World} {v : Value} (h : ∀ w', Only [] w w' → Calls P f args w' fun e w'' => e = .returned v ∧ Only [] w' w'') :
    ∀ w', (∃ x, w' = plus w x) → Calls P f args w' fun e w'' => e = .returned v ∧ ∃ x, w'' = plus w x :=
  grown_calls fun w' hw' => (h w' (only_of_plus hw')).mono fun _ _ ⟨he, ho⟩ => ⟨he, ho.nil_below⟩

set_option maxRecDepth 100000 in
set_option maxHeartbeats 2000000 in
theorem rentry0 (s : ByteArray) (hd : List UInt8) (r : List (List UInt8)) (res : Option En) (hrl : r.length ≤ 100000) (hw : ∀ j, 1 ≤ j → j < 5 → hd ≠ nameW j)
    (HSP : Hid (∀ w, Calls Tryd.prog 41 #[.string s] w fun e w' => (∃ p cap, e = .returned (.slice p (hd :: r).length cap) ∧ VRow strC 1 w' p (hd :: r).length cap (hd :: r)) ∧ Only [] w w'))
    (_HWL : Hid (∀ x ∈ hd :: r, x.length ≤ 1000000)) (HR : Hid (res = entW (hd :: r))) (w : World) :
    Calls Tryd.prog 29 #[.string s] w fun e w' => e = .returned (lineV res) ∧ Only [] w w' := by
  have HW := Lib.hid hw
  clear hw
  go_enter Tryd.func29, Tryd.ntmps29
  go_wp2_with fail
  refine alloc_abs (G := fun w0 => Calls _ _ _ w0 _) ?_
  intro w1 hb1 ho1 hs1
  have B1 := Lib.hid hb1; have O1 := Lib.hid ho1
  clear hb1 hs1 ho1
  refine (HSP.out w1).mono ?_
  rintro e w2 ⟨⟨wp, wcap, rfl, hv2⟩, ho2⟩
  have B2 := Lib.hid (ho2.got B1.out (by simp)); have O2 := Lib.hid (O1.out.nil_trans ho2)
  obtain ⟨wb, woff, hwp, hwb, hc0⟩ := hv2.cell 0 hd rfl
  subst hwp
  have V2 := Lib.hid hv2
  have k0 : w2.cell? ⟨wb, woff, none⟩ = some (.string (bstr hd)) := by simpa using hc0 0 _ rfl
  have K0 := Lib.hid k0; have HWB := Lib.hid hwb
  clear B1 O1 ho2 hv2 HSP hc0 k0 hwb
  simp only [List.length_cons]
  go_wp2
  go_loopw [5, 6] (fun v5 v6 wr => KindR hd w2 v5 v6 wr) (fun _ v6 _ => 5 - (intOf v6).toNat)
  case atStart => exact ⟨0, 1, rfl, rfl, by omega, by omega, Only.refl _ _, .inl ⟨rfl, fun j h1 h2 => by omega⟩⟩
  case round =>
    obtain ⟨kd, k, rfl, rfl, hk1, hk5, ho, hkd⟩ := hrel
    have O3 := Lib.hid ho; have HKD := Lib.hid hkd
    clear ho hkd
    by_cases hk : k ≤ 4
    · have c0 : wr.cell? ⟨wb, woff, none⟩ = some (.string (bstr hd)) := by rw [O3.out.cell HWB.out (by simp)]; exact K0.out
      have hbw : wb < wr.heap.size := Nat.lt_of_lt_of_le HWB.out O3.out.size
      have hname := fun w' => rname k hk w'
      obtain ⟨b, hb⟩ : ∃ b, ((bstr hd).toList == (bstr (nameW k)).toList) = b := ⟨_, rfl⟩
      have hbq : b = true ↔ hd = nameW k := by
        rw [← hb, Lib.toList_data, Lib.toList_data, beq_iff_eq]; rfl
      obtain ⟨Hd, hHd⟩ : ∃ Hd, Hd = bstr hd := ⟨_, rfl⟩
      obtain ⟨Nk, hNk⟩ : ∃ Nk, Nk = bstr (nameW k) := ⟨_, rfl⟩
      rw [← hHd] at c0 hb
      rw [← hNk] at hname hb
      have HNM := Lib.hid hname; have HBQ := Lib.hid hbq
      clear hname hHd hNk hbq
      have hpos : (0 : Int) < (r.length : Int) + 1 := by omega
      go_wp2_with fail
      refine wp_region_grown [0, 1, 2, 3, 4, 5] [] (by kernel_rfl) (by kernel_rfl) ?_
      simp only [pick, List.map_cons, List.map_nil, List.getD_cons_succ, List.getD_cons_zero]
      iterate 4 (refine wpQuiet_step (fun K hK => ?_); go_simp; refine hK _ ?_; clear hK K)
      refine wpQuiet_enter rfl 42 #[.int .i64 k] (fun _ => by kernel_rfl) (.string Nk) (grown_only' fun w' _ => HNM.out w') ?_
      iterate 1 (refine wpQuiet_step (fun K hK => ?_); go_simp; refine hK _ ?_; clear hK K)
      refine wpQuiet_nil ?_
      intro w4 hw4
      have O4 := Lib.hid (O3.out.nil_trans (only_of_plus hw4))
      clear hw4 c0 hbw HNM
      cases b
      · have HX : Hid (hd ≠ nameW k) := Lib.hid (fun q => by have := HBQ.out.2 q; cases this)
        clear HBQ
        go_wp2
        go_roundw
        case rel =>
          refine ⟨kd, k + 1, rfl, by go_num, by omega, by omega, O4.out, ?_⟩
          rcases HKD.out with ⟨h1, h2⟩ | ⟨h1, h2, h3⟩
          · exact .inl ⟨h1, fun j j1 j2 => by
              rcases Nat.lt_or_ge j k with h | h
              · exact h2 j j1 h
              · obtain rfl : j = k := by omega
                exact HX.out⟩
          · exact .inr ⟨h1, by omega, h3⟩
        case measure => simp [intOf]; omega
      · have HX : Hid (hd = nameW k) := Lib.hid (HBQ.out.1 rfl)
        clear HBQ
        go_wp2
        go_roundw
        case rel => exact ⟨k, k + 1, rfl, by go_num, by omega, by omega, O4.out, .inr ⟨by omega, by omega, HX.out⟩⟩
        case measure => simp [intOf]; omega
    · obtain rfl : k = 5 := by omega
      have OO := Lib.hid (O2.out.nil_trans O3.out); have BB := Lib.hid (O3.out.got B2.out (by simp)); have VV := Lib.hid (V2.out.kept O3.out)
      clear O3 B2 O2 V2 K0 HWB hk hk1 hk5
      have hkk : kd = 0 := by
        have hw := HW.out
        have hds : nameW 1 ≠ nameW 2 ∧ nameW 1 ≠ nameW 3 ∧ nameW 1 ≠ nameW 4 ∧ nameW 2 ≠ nameW 3 ∧ nameW 2 ≠ nameW 4 ∧ nameW 3 ≠ nameW 4 := by decide
        rcases HKD.out with ⟨h1, h2⟩ | ⟨h1, h2, h3⟩
        · first
            | exact h1
            | exact absurd hw (h2 _ (by decide) (by decide))
        · rcases (show kd = 1 ∨ kd = 2 ∨ kd = 3 ∨ kd = 4 by omega) with rfl | rfl | rfl | rfl
          all_goals first
            | rfl
            | (exfalso; first | exact hw _ (by decide) (by decide) h3 | (rw [hw] at h3; simp_all))
      subst hkk
      have hw := HW.out
      clear HKD HW
      go_upto_region 9 with (fail)
      refine alloc_abs (G := fun w0 => Code.wp _ _ _ _ w0) ?_
      intro w5 hb5 ho5 hs5
      have O5 := Lib.hid (OO.out.nil_trans ho5); have B5 := Lib.hid (ho5.got BB.out (by simp)); have V5 := Lib.hid (VV.out.kept ho5)
      clear hb5 ho5 hs5 OO BB VV
      have HRS : Hid (res = none) := Lib.hid (by
        rw [HR.out]
        exact entW_none fun ns _ => mkE_none (fun q => hw 1 (by decide) (by decide) q.1) (fun q => hw 2 (by decide) (by decide) q.1) (fun q => hw 3 (by decide) (by decide) q.1) (fun q => hw 4 (by decide) (by decide) q.1))
      clear hw
      have g0 := cell_got B5.out 0; have g1 := cell_got B5.out 1; have g2 := cell_got B5.out 2; have g3 := cell_got B5.out 3; have g4 := cell_got B5.out 4; have g5 := cell_got B5.out 5
      have f0 := frozen_got B5.out 0; have f1 := frozen_got B5.out 1; have f2 := frozen_got B5.out 2; have f3 := frozen_got B5.out 3; have f4 := frozen_got B5.out 4; have f5 := frozen_got B5.out 5
      have l0 := got_lt B5.out
      go_wp2
      refine bodyPost_ret (v := lineV none) (by simp [results, Tryd.results29, go_sem, lineV, enV, en0, g0, g1, g2, g3, g4, g5]) rfl ⟨by rw [HRS.out], ?_⟩
      with_reducible repeat (first | exact O5.out | refine Only.setCell ?_ (.inr (Nat.le_refl _)) _ | refine Only.alloc ?_ _)

set_option maxRecDepth 100000 in
set_option maxHeartbeats 2000000 in
theorem rentry1 (s : ByteArray) (hd : List UInt8) (r : List (List UInt8)) (res : Option En) (hrl : r.length ≤ 100000) (hw : hd = nameW 1)
    (HSP : Hid (∀ w, Calls Tryd.prog 41 #[.string s] w fun e w' => (∃ p cap, e = .returned (.slice p (hd :: r).length cap) ∧ VRow strC 1 w' p (hd :: r).length cap (hd :: r)) ∧ Only [] w w'))
    (HWL : Hid (∀ x ∈ hd :: r, x.length ≤ 1000000)) (HR : Hid (res = entW (hd :: r))) (w : World) :
    Calls Tryd.prog 29 #[.string s] w fun e w' => e = .returned (lineV res) ∧ Only [] w w' := by
  have HW := Lib.hid hw
  clear hw
  go_enter Tryd.func29, Tryd.ntmps29
  go_wp2_with fail
  refine alloc_abs (G := fun w0 => Calls _ _ _ w0 _) ?_
  intro w1 hb1 ho1 hs1
  have B1 := Lib.hid hb1; have O1 := Lib.hid ho1
  clear hb1 hs1 ho1
  refine (HSP.out w1).mono ?_
  rintro e w2 ⟨⟨wp, wcap, rfl, hv2⟩, ho2⟩
  have B2 := Lib.hid (ho2.got B1.out (by simp)); have O2 := Lib.hid (O1.out.nil_trans ho2)
  obtain ⟨wb, woff, hwp, hwb, hc0⟩ := hv2.cell 0 hd rfl
  subst hwp
  have V2 := Lib.hid hv2
  have k0 : w2.cell? ⟨wb, woff, none⟩ = some (.string (bstr hd)) := by simpa using hc0 0 _ rfl
  have K0 := Lib.hid k0; have HWB := Lib.hid hwb
  clear B1 O1 ho2 hv2 HSP hc0 k0 hwb
  simp only [List.length_cons]
  go_wp2
  go_loopw [5, 6] (fun v5 v6 wr => KindR hd w2 v5 v6 wr) (fun _ v6 _ => 5 - (intOf v6).toNat)
  case atStart => exact ⟨0, 1, rfl, rfl, by omega, by omega, Only.refl _ _, .inl ⟨rfl, fun j h1 h2 => by omega⟩⟩
  case round =>
    obtain ⟨kd, k, rfl, rfl, hk1, hk5, ho, hkd⟩ := hrel
    have O3 := Lib.hid ho; have HKD := Lib.hid hkd
    clear ho hkd
    by_cases hk : k ≤ 4
    · have c0 : wr.cell? ⟨wb, woff, none⟩ = some (.string (bstr hd)) := by rw [O3.out.cell HWB.out (by simp)]; exact K0.out
      have hbw : wb < wr.heap.size := Nat.lt_of_lt_of_le HWB.out O3.out.size
      have hname := fun w' => rname k hk w'
      obtain ⟨b, hb⟩ : ∃ b, ((bstr hd).toList == (bstr (nameW k)).toList) = b := ⟨_, rfl⟩
      have hbq : b = true ↔ hd = nameW k := by
        rw [← hb, Lib.toList_data, Lib.toList_data, beq_iff_eq]; rfl
      obtain ⟨Hd, hHd⟩ : ∃ Hd, Hd = bstr hd := ⟨_, rfl⟩
      obtain ⟨Nk, hNk⟩ : ∃ Nk, Nk = bstr (nameW k) := ⟨_, rfl⟩
      rw [← hHd] at c0 hb
      rw [← hNk] at hname hb
      have HNM := Lib.hid hname; have HBQ := Lib.hid hbq
      clear hname hHd hNk hbq
      have hpos : (0 : Int) < (r.length : Int) + 1 := by omega
      go_wp2_with fail
      refine wp_region_grown [0, 1, 2, 3, 4, 5] [] (by kernel_rfl) (by kernel_rfl) ?_
      simp only [pick, List.map_cons, List.map_nil, List.getD_cons_succ, List.getD_cons_zero]
      iterate 4 (refine wpQuiet_step (fun K hK => ?_); go_simp; refine hK _ ?_; clear hK K)
      refine wpQuiet_enter rfl 42 #[.int .i64 k] (fun _ => by kernel_rfl) (.string Nk) (grown_only' fun w' _ => HNM.out w') ?_
      iterate 1 (refine wpQuiet_step (fun K hK => ?_); go_simp; refine hK _ ?_; clear hK K)
      refine wpQuiet_nil ?_
      intro w4 hw4
      have O4 := Lib.hid (O3.out.nil_trans (only_of_plus hw4))
      clear hw4 c0 hbw HNM
      cases b
      · have HX : Hid (hd ≠ nameW k) := Lib.hid (fun q => by have := HBQ.out.2 q; cases this)
        clear HBQ
        go_wp2
        go_roundw
        case rel =>
          refine ⟨kd, k + 1, rfl, by go_num, by omega, by omega, O4.out, ?_⟩
          rcases HKD.out with ⟨h1, h2⟩ | ⟨h1, h2, h3⟩
          · exact .inl ⟨h1, fun j j1 j2 => by
              rcases Nat.lt_or_ge j k with h | h
              · exact h2 j j1 h
              · obtain rfl : j = k := by omega
                exact HX.out⟩
          · exact .inr ⟨h1, by omega, h3⟩
        case measure => simp [intOf]; omega
      · have HX : Hid (hd = nameW k) := Lib.hid (HBQ.out.1 rfl)
        clear HBQ
        go_wp2
        go_roundw
        case rel => exact ⟨k, k + 1, rfl, by go_num, by omega, by omega, O4.out, .inr ⟨by omega, by omega, HX.out⟩⟩
        case measure => simp [intOf]; omega
    · obtain rfl : k = 5 := by omega
      have OO := Lib.hid (O2.out.nil_trans O3.out); have BB := Lib.hid (O3.out.got B2.out (by simp)); have VV := Lib.hid (V2.out.kept O3.out)
      clear O3 B2 O2 V2 K0 HWB hk hk1 hk5
      have hkk : kd = 1 := by
        have hw := HW.out
        have hds : nameW 1 ≠ nameW 2 ∧ nameW 1 ≠ nameW 3 ∧ nameW 1 ≠ nameW 4 ∧ nameW 2 ≠ nameW 3 ∧ nameW 2 ≠ nameW 4 ∧ nameW 3 ≠ nameW 4 := by decide
        rcases HKD.out with ⟨h1, h2⟩ | ⟨h1, h2, h3⟩
        · first
            | exact h1
            | exact absurd hw (h2 _ (by decide) (by decide))
        · rcases (show kd = 1 ∨ kd = 2 ∨ kd = 3 ∨ kd = 4 by omega) with rfl | rfl | rfl | rfl
          all_goals first
            | rfl
            | (exfalso; first | exact hw _ (by decide) (by decide) h3 | (rw [hw] at h3; simp_all))
      subst hkk
      have hw := HW.out
      clear HKD HW
      go_upto_region 9 with (fail)
      refine alloc_abs (G := fun w0 => Code.wp _ _ _ _ w0) ?_
      intro w5 hb5 ho5 hs5
      have O5 := Lib.hid (OO.out.nil_trans ho5); have B5 := Lib.hid (ho5.got BB.out (by simp)); have V5 := Lib.hid (VV.out.kept ho5)
      clear hb5 ho5 hs5 OO BB VV
      have hdk : hd = wSend := hw
      by_cases hr : r.length = 4
      · have hrl2 := Lib.hid hr
        have b1 : ((r.length : Int) + 1 != 5) = false := by simp; omega
        have b2 : (((r.length : Int) + 1) == 5) = true := by simp; omega
        have hr4 : r.length ≤ 4 := by omega
        have hr0 : 1 ≤ r.length := by omega
        have HDK := Lib.hid hdk
        clear hdk hw hr
        go_wp2
        go_loopw [9] (fun v9 wr => EntL r w5 v9 wr) (fun v9 _ => r.length + 1 - (intOf v9).toNat)
        case atStart => exact ⟨0, [], Nat.zero_le _, rfl, rfl, alloc_new _ _, (Only.refl [] w5).alloc _⟩
        case round =>
          obtain ⟨i, ns, hi, rfl, hns, hblk, ho⟩ := hrel
          have HNS := Lib.hid hns; have HB := Lib.hid hblk; have O6 := Lib.hid ho
          have hnl : ns.length = i := by have := numsO_len hns; rw [List.length_take] at this; omega
          clear hns hblk ho
          by_cases hlt : i < r.length
          · obtain ⟨bb, off, hpp, hb, hcl⟩ := V5.out.cell (i + 1) r[i] (by simp [List.getElem?_eq_getElem hlt])
            cases hpp
            have c1 : wr.cell? ⟨wb, woff + (i + 1), none⟩ = some (.string (bstr r[i])) := by rw [O6.out.cell hb (by simp)]; simpa using hcl 0 _ rfl
            have hbw : wb < wr.heap.size := Nat.lt_of_lt_of_le hb O6.out.size
            have hxl := HWL.out r[i] (by simp)
            have htk : r.take (i + 1) = r.take i ++ [r[i]] := List.take_succ_eq_append_getElem hlt
            have hmem : r[i] ∈ r := List.getElem_mem hlt
            generalize r[i] = x at c1 hxl htk hmem hcl
            have hnum := rnumber (bstr x) (by rw [bstr_size]; omega) wr
            rw [bstr_data] at hnum
            have HNU := Lib.hid hnum; have HTK := Lib.hid htk; have HMM := Lib.hid hmem
            clear hcl hnum htk hmem hb
            have hi1 : ((i : Int) + 1) < (r.length : Int) + 1 := by omega
            generalize bstr x = X at c1 HNU
            go_wp2_with fail
            with_reducible refine HNU.out.mono ?_
            rintro e w7 ⟨⟨z, rfl⟩, ho7⟩
            have O7 := Lib.hid (O6.out.nil_trans ho7); have HB7 := Lib.hid (ho7.got HB.out (by simp))
            clear ho7 c1 O6 HB HNU
            cases hq : numO x with
            | none =>
              have HRS : Hid (res = none) := Lib.hid (by rw [HR.out]; exact entW_none fun ns' h' => by rw [numsO_none hq HMM.out] at h'; cases h')
              simp only [Option.getD_none, Option.isSome_none]
              have BA := Lib.hid (O7.out.got B5.out (by simp)); have OA := Lib.hid (O5.out.nil_trans O7.out)
              have g0 := cell_got BA.out 0; have g1 := cell_got BA.out 1; have g2 := cell_got BA.out 2; have g3 := cell_got BA.out 3; have g4 := cell_got BA.out 4; have g5 := cell_got BA.out 5
              have f0 := frozen_got BA.out 0; have f1 := frozen_got BA.out 1; have f2 := frozen_got BA.out 2; have f3 := frozen_got BA.out 3; have f4 := frozen_got BA.out 4; have f5 := frozen_got BA.out 5
              have l0 := got_lt BA.out
              go_wp2
              refine bodyPost_ret (v := lineV none) (by simp [results, Tryd.results29, go_sem, lineV, enV, en0, g0, g1, g2, g3, g4, g5]) rfl ⟨by rw [HRS.out], ?_⟩
              with_reducible repeat (first | exact OA.out | refine Only.setCell ?_ (.inr (Nat.le_refl _)) _ | refine Only.alloc ?_ _)
            | some v =>
              have HNN : Hid (numsO (r.take (i + 1)) = some (ns ++ [v])) := Lib.hid (by rw [HTK.out, numsO_snoc x _ ns HNS.out, hq]; rfl)
              simp only [Option.getD_some, Option.isSome_some]
              have hcu : ∃ u, w7.cell? ⟨w5.heap.size, i + 1, none⟩ = some u := by
                rw [cell_got HB7.out]
                refine ⟨_, Array.getElem?_eq_getElem ?_⟩
                simp only [arrE_size hnl]; omega
              obtain ⟨u, hcu⟩ := hcu
              have hfz := frozen_got HB7.out (i + 1)
              have hl7 := got_lt HB7.out
              have HB8 : Hid ((w7.setCell ⟨w5.heap.size, i + 1, none⟩ (.int .i64 v)).heap[w5.heap.size]? = some (.cells (arrE (ns ++ [v])) 76 (0, 0))) := Lib.hid (by
                rw [setCell_got _ HB7.out, arrE_set hnl (by omega)])
              have O8 := Lib.hid (O7.out.setCell (p := ⟨w5.heap.size, i + 1, none⟩) (.inr (Nat.le_refl _)) (.int .i64 v))
              clear hq hnl
              go_wp2
              go_roundw
              case rel => exact ⟨i + 1, ns ++ [v], by omega, by go_num, HNN.out, HB8.out, O8.out⟩
              case measure => simp [intOf]; omega
          · obtain rfl : i = r.length := by omega
            have hh := HNS.out
            rw [List.take_of_length_le (Nat.le_refl _)] at hh
            have hnl2 : ns.length = 4 := by rw [hnl]; exact hrl2.out
            obtain ⟨za, zb, zc, zd, rfl⟩ : ∃ za zb zc zd, ns = [za, zb, zc, zd] := by
              match ns, hnl2 with
              | [za, zb, zc, zd], _ => exact ⟨za, zb, zc, zd, rfl⟩
            have HRS : Hid (res = some ⟨1, za, zb, zc, zd, 0⟩) := Lib.hid (by rw [HR.out, entW, hh]; exact mkE_send HDK.out)
            have m1 := cell_got HB.out 1; have m2 := cell_got HB.out 2; have m3 := cell_got HB.out 3; have m4 := cell_got HB.out 4
            simp only [arrE, List.length_cons, List.length_nil, Nat.zero_add, Nat.reduceAdd, Nat.reduceSub, List.replicate, List.cons_append, List.nil_append, List.map_cons, List.map_nil, List.getElem?_toArray, List.getElem?_cons_succ, List.getElem?_cons_zero] at m1 m2 m3 m4
            have l5 := got_lt HB.out
            have BA := Lib.hid (O6.out.got B5.out (by simp)); have OA := Lib.hid (O5.out.nil_trans O6.out)
            have g0 := cell_got BA.out 0; have g1 := cell_got BA.out 1; have g2 := cell_got BA.out 2; have g3 := cell_got BA.out 3; have g4 := cell_got BA.out 4; have g5 := cell_got BA.out 5
            have f0 := frozen_got BA.out 0; have f1 := frozen_got BA.out 1; have f2 := frozen_got BA.out 2; have f3 := frozen_got BA.out 3; have f4 := frozen_got BA.out 4; have f5 := frozen_got BA.out 5
            have l0 := got_lt BA.out
            clear hh hnl hnl2
            go_wp2
            refine bodyPost_ret (v := lineV (some ⟨1, za, zb, zc, zd, 0⟩)) (by simp [results, Tryd.results29, go_sem, lineV, enV, en0, g0, g1, g2, g3, g4, g5]) rfl ⟨by rw [HRS.out], ?_⟩
            with_reducible repeat (first | exact OA.out | refine Only.setCell ?_ (.inr (Nat.le_refl _)) _ | refine Only.alloc ?_ _)
      · have b1 : ((r.length : Int) + 1 != 5) = true := by simp; omega
        have b2 : (((r.length : Int) + 1) == 5) = false := by simp; omega
        have HRS : Hid (res = none) := Lib.hid (by
          rw [HR.out]
          refine entW_none fun ns h' => ?_
          have hl := numsO_len h'
          refine mkE_none ?_ ?_ ?_ ?_ <;> (rintro ⟨q1, q2⟩; first | omega | (rw [hdk] at q1; revert q1; decide)))
        clear hdk hw
        have g0 := cell_got B5.out 0; have g1 := cell_got B5.out 1; have g2 := cell_got B5.out 2; have g3 := cell_got B5.out 3; have g4 := cell_got B5.out 4; have g5 := cell_got B5.out 5
        have f0 := frozen_got B5.out 0; have f1 := frozen_got B5.out 1; have f2 := frozen_got B5.out 2; have f3 := frozen_got B5.out 3; have f4 := frozen_got B5.out 4; have f5 := frozen_got B5.out 5
        have l0 := got_lt B5.out
        go_wp2
        refine bodyPost_ret (v := lineV none) (by simp [results, Tryd.results29, go_sem, lineV, enV, en0, g0, g1, g2, g3, g4, g5]) rfl ⟨by rw [HRS.out], ?_⟩
        with_reducible repeat (first | exact O5.out | refine Only.setCell ?_ (.inr (Nat.le_refl _)) _ | refine Only.alloc ?_ _)

set_option maxRecDepth 100000 in
set_option maxHeartbeats 2000000 in
theorem rentry2 (s : ByteArray) (hd : List UInt8) (r : List (List UInt8)) (res : Option En) (hrl : r.length ≤ 100000) (hw : hd = nameW 2)
    (HSP : Hid (∀ w, Calls Tryd.prog 41 #[.string s] w fun e w' => (∃ p cap, e = .returned (.slice p (hd :: r).length cap) ∧ VRow strC 1 w' p (hd :: r).length cap (hd :: r)) ∧ Only [] w w'))
    (HWL : Hid (∀ x ∈ hd :: r, x.length ≤ 1000000)) (HR : Hid (res = entW (hd :: r))) (w : World) :
    Calls Tryd.prog 29 #[.string s] w fun e w' => e = .returned (lineV res) ∧ Only [] w w' := by
  have HW := Lib.hid hw
  clear hw
  go_enter Tryd.func29, Tryd.ntmps29
  go_wp2_with fail
  refine alloc_abs (G := fun w0 => Calls _ _ _ w0 _) ?_
  intro w1 hb1 ho1 hs1
  have B1 := Lib.hid hb1; have O1 := Lib.hid ho1
  clear hb1 hs1 ho1
  refine (HSP.out w1).mono ?_
  rintro e w2 ⟨⟨wp, wcap, rfl, hv2⟩, ho2⟩
  have B2 := Lib.hid (ho2.got B1.out (by simp)); have O2 := Lib.hid (O1.out.nil_trans ho2)
  obtain ⟨wb, woff, hwp, hwb, hc0⟩ := hv2.cell 0 hd rfl
  subst hwp
  have V2 := Lib.hid hv2
  have k0 : w2.cell? ⟨wb, woff, none⟩ = some (.string (bstr hd)) := by simpa using hc0 0 _ rfl
  have K0 := Lib.hid k0; have HWB := Lib.hid hwb
  clear B1 O1 ho2 hv2 HSP hc0 k0 hwb
  simp only [List.length_cons]
  go_wp2
  go_loopw [5, 6] (fun v5 v6 wr => KindR hd w2 v5 v6 wr) (fun _ v6 _ => 5 - (intOf v6).toNat)
  case atStart => exact ⟨0, 1, rfl, rfl, by omega, by omega, Only.refl _ _, .inl ⟨rfl, fun j h1 h2 => by omega⟩⟩
  case round =>
    obtain ⟨kd, k, rfl, rfl, hk1, hk5, ho, hkd⟩ := hrel
    have O3 := Lib.hid ho; have HKD := Lib.hid hkd
    clear ho hkd
    by_cases hk : k ≤ 4
    · have c0 : wr.cell? ⟨wb, woff, none⟩ = some (.string (bstr hd)) := by rw [O3.out.cell HWB.out (by simp)]; exact K0.out
      have hbw : wb < wr.heap.size := Nat.lt_of_lt_of_le HWB.out O3.out.size
      have hname := fun w' => rname k hk w'
      obtain ⟨b, hb⟩ : ∃ b, ((bstr hd).toList == (bstr (nameW k)).toList) = b := ⟨_, rfl⟩
      have hbq : b = true ↔ hd = nameW k := by
        rw [← hb, Lib.toList_data, Lib.toList_data, beq_iff_eq]; rfl
      obtain ⟨Hd, hHd⟩ : ∃ Hd, Hd = bstr hd := ⟨_, rfl⟩
      obtain ⟨Nk, hNk⟩ : ∃ Nk, Nk = bstr (nameW k) := ⟨_, rfl⟩
      rw [← hHd] at c0 hb
      rw [← hNk] at hname hb
      have HNM := Lib.hid hname; have HBQ := Lib.hid hbq
      clear hname hHd hNk hbq
      have hpos : (0 : Int) < (r.length : Int) + 1 := by omega
      go_wp2_with fail
      refine wp_region_grown [0, 1, 2, 3, 4, 5] [] (by kernel_rfl) (by kernel_rfl) ?_
      simp only [pick, List.map_cons, List.map_nil, List.getD_cons_succ, List.getD_cons_zero]
      iterate 4 (refine wpQuiet_step (fun K hK => ?_); go_simp; refine hK _ ?_; clear hK K)
      refine wpQuiet_enter rfl 42 #[.int .i64 k] (fun _ => by kernel_rfl) (.string Nk) (grown_only' fun w' _ => HNM.out w') ?_
      iterate 1 (refine wpQuiet_step (fun K hK => ?_); go_simp; refine hK _ ?_; clear hK K)
      refine wpQuiet_nil ?_
      intro w4 hw4
      have O4 := Lib.hid (O3.out.nil_trans (only_of_plus hw4))
      clear hw4 c0 hbw HNM
      cases b
      · have HX : Hid (hd ≠ nameW k) := Lib.hid (fun q => by have := HBQ.out.2 q; cases this)
        clear HBQ
        go_wp2
        go_roundw
        case rel =>
          refine ⟨kd, k + 1, rfl, by go_num, by omega, by omega, O4.out, ?_⟩
          rcases HKD.out with ⟨h1, h2⟩ | ⟨h1, h2, h3⟩
          · exact .inl ⟨h1, fun j j1 j2 => by
              rcases Nat.lt_or_ge j k with h | h
              · exact h2 j j1 h
              · obtain rfl : j = k := by omega
                exact HX.out⟩
          · exact .inr ⟨h1, by omega, h3⟩
        case measure => simp [intOf]; omega
      · have HX : Hid (hd = nameW k) := Lib.hid (HBQ.out.1 rfl)
        clear HBQ
        go_wp2
        go_roundw
        case rel => exact ⟨k, k + 1, rfl, by go_num, by omega, by omega, O4.out, .inr ⟨by omega, by omega, HX.out⟩⟩
        case measure => simp [intOf]; omega
    · obtain rfl : k = 5 := by omega
      have OO := Lib.hid (O2.out.nil_trans O3.out); have BB := Lib.hid (O3.out.got B2.out (by simp)); have VV := Lib.hid (V2.out.kept O3.out)
      clear O3 B2 O2 V2 K0 HWB hk hk1 hk5
      have hkk : kd = 2 := by
        have hw := HW.out
        have hds : nameW 1 ≠ nameW 2 ∧ nameW 1 ≠ nameW 3 ∧ nameW 1 ≠ nameW 4 ∧ nameW 2 ≠ nameW 3 ∧ nameW 2 ≠ nameW 4 ∧ nameW 3 ≠ nameW 4 := by decide
        rcases HKD.out with ⟨h1, h2⟩ | ⟨h1, h2, h3⟩
        · first
            | exact h1
            | exact absurd hw (h2 _ (by decide) (by decide))
        · rcases (show kd = 1 ∨ kd = 2 ∨ kd = 3 ∨ kd = 4 by omega) with rfl | rfl | rfl | rfl
          all_goals first
            | rfl
            | (exfalso; first | exact hw _ (by decide) (by decide) h3 | (rw [hw] at h3; simp_all))
      subst hkk
      have hw := HW.out
      clear HKD HW
      go_upto_region 9 with (fail)
      refine alloc_abs (G := fun w0 => Code.wp _ _ _ _ w0) ?_
      intro w5 hb5 ho5 hs5
      have O5 := Lib.hid (OO.out.nil_trans ho5); have B5 := Lib.hid (ho5.got BB.out (by simp)); have V5 := Lib.hid (VV.out.kept ho5)
      clear hb5 ho5 hs5 OO BB VV
      have hdk : hd = wRecv := hw
      by_cases hr : r.length = 4
      · have hrl2 := Lib.hid hr
        have b1 : ((r.length : Int) + 1 != 5) = false := by simp; omega
        have b2 : (((r.length : Int) + 1) == 5) = true := by simp; omega
        have hr4 : r.length ≤ 4 := by omega
        have hr0 : 1 ≤ r.length := by omega
        have HDK := Lib.hid hdk
        clear hdk hw hr
        go_wp2
        go_loopw [9] (fun v9 wr => EntL r w5 v9 wr) (fun v9 _ => r.length + 1 - (intOf v9).toNat)
        case atStart => exact ⟨0, [], Nat.zero_le _, rfl, rfl, alloc_new _ _, (Only.refl [] w5).alloc _⟩
        case round =>
          obtain ⟨i, ns, hi, rfl, hns, hblk, ho⟩ := hrel
          have HNS := Lib.hid hns; have HB := Lib.hid hblk; have O6 := Lib.hid ho
          have hnl : ns.length = i := by have := numsO_len hns; rw [List.length_take] at this; omega
          clear hns hblk ho
          by_cases hlt : i < r.length
          · obtain ⟨bb, off, hpp, hb, hcl⟩ := V5.out.cell (i + 1) r[i] (by simp [List.getElem?_eq_getElem hlt])
            cases hpp
            have c1 : wr.cell? ⟨wb, woff + (i + 1), none⟩ = some (.string (bstr r[i])) := by rw [O6.out.cell hb (by simp)]; simpa using hcl 0 _ rfl
            have hbw : wb < wr.heap.size := Nat.lt_of_lt_of_le hb O6.out.size
            have hxl := HWL.out r[i] (by simp)
            have htk : r.take (i + 1) = r.take i ++ [r[i]] := List.take_succ_eq_append_getElem hlt
            have hmem : r[i] ∈ r := List.getElem_mem hlt
            generalize r[i] = x at c1 hxl htk hmem hcl
            have hnum := rnumber (bstr x) (by rw [bstr_size]; omega) wr
            rw [bstr_data] at hnum
            have HNU := Lib.hid hnum; have HTK := Lib.hid htk; have HMM := Lib.hid hmem
            clear hcl hnum htk hmem hb
            have hi1 : ((i : Int) + 1) < (r.length : Int) + 1 := by omega
            generalize bstr x = X at c1 HNU
            go_wp2_with fail
            with_reducible refine HNU.out.mono ?_
            rintro e w7 ⟨⟨z, rfl⟩, ho7⟩
            have O7 := Lib.hid (O6.out.nil_trans ho7); have HB7 := Lib.hid (ho7.got HB.out (by simp))
            clear ho7 c1 O6 HB HNU
            cases hq : numO x with
            | none =>
              have HRS : Hid (res = none) := Lib.hid (by rw [HR.out]; exact entW_none fun ns' h' => by rw [numsO_none hq HMM.out] at h'; cases h')
              simp only [Option.getD_none, Option.isSome_none]
              have BA := Lib.hid (O7.out.got B5.out (by simp)); have OA := Lib.hid (O5.out.nil_trans O7.out)
              have g0 := cell_got BA.out 0; have g1 := cell_got BA.out 1; have g2 := cell_got BA.out 2; have g3 := cell_got BA.out 3; have g4 := cell_got BA.out 4; have g5 := cell_got BA.out 5
              have f0 := frozen_got BA.out 0; have f1 := frozen_got BA.out 1; have f2 := frozen_got BA.out 2; have f3 := frozen_got BA.out 3; have f4 := frozen_got BA.out 4; have f5 := frozen_got BA.out 5
              have l0 := got_lt BA.out
              go_wp2
              refine bodyPost_ret (v := lineV none) (by simp [results, Tryd.results29, go_sem, lineV, enV, en0, g0, g1, g2, g3, g4, g5]) rfl ⟨by rw [HRS.out], ?_⟩
              with_reducible repeat (first | exact OA.out | refine Only.setCell ?_ (.inr (Nat.le_refl _)) _ | refine Only.alloc ?_ _)
            | some v =>
              have HNN : Hid (numsO (r.take (i + 1)) = some (ns ++ [v])) := Lib.hid (by rw [HTK.out, numsO_snoc x _ ns HNS.out, hq]; rfl)
              simp only [Option.getD_some, Option.isSome_some]
              have hcu : ∃ u, w7.cell? ⟨w5.heap.size, i + 1, none⟩ = some u := by
                rw [cell_got HB7.out]
                refine ⟨_, Array.getElem?_eq_getElem ?_⟩
                simp only [arrE_size hnl]; omega
              obtain ⟨u, hcu⟩ := hcu
              have hfz := frozen_got HB7.out (i + 1)
              have hl7 := got_lt HB7.out
              have HB8 : Hid ((w7.setCell ⟨w5.heap.size, i + 1, none⟩ (.int .i64 v)).heap[w5.heap.size]? = some (.cells (arrE (ns ++ [v])) 76 (0, 0))) := Lib.hid (by
                rw [setCell_got _ HB7.out, arrE_set hnl (by omega)])
              have O8 := Lib.hid (O7.out.setCell (p := ⟨w5.heap.size, i + 1, none⟩) (.inr (Nat.le_refl _)) (.int .i64 v))
              clear hq hnl
              go_wp2
              go_roundw
              case rel => exact ⟨i + 1, ns ++ [v], by omega, by go_num, HNN.out, HB8.out, O8.out⟩
              case measure => simp [intOf]; omega
          · obtain rfl : i = r.length := by omega
            have hh := HNS.out
            rw [List.take_of_length_le (Nat.le_refl _)] at hh
            have hnl2 : ns.length = 4 := by rw [hnl]; exact hrl2.out
            obtain ⟨za, zb, zc, zd, rfl⟩ : ∃ za zb zc zd, ns = [za, zb, zc, zd] := by
              match ns, hnl2 with
              | [za, zb, zc, zd], _ => exact ⟨za, zb, zc, zd, rfl⟩
            have HRS : Hid (res = some ⟨2, za, zb, zc, zd, 0⟩) := Lib.hid (by rw [HR.out, entW, hh]; exact mkE_recv HDK.out)
            have m1 := cell_got HB.out 1; have m2 := cell_got HB.out 2; have m3 := cell_got HB.out 3; have m4 := cell_got HB.out 4
            simp only [arrE, List.length_cons, List.length_nil, Nat.zero_add, Nat.reduceAdd, Nat.reduceSub, List.replicate, List.cons_append, List.nil_append, List.map_cons, List.map_nil, List.getElem?_toArray, List.getElem?_cons_succ, List.getElem?_cons_zero] at m1 m2 m3 m4
            have l5 := got_lt HB.out
            have BA := Lib.hid (O6.out.got B5.out (by simp)); have OA := Lib.hid (O5.out.nil_trans O6.out)
            have g0 := cell_got BA.out 0; have g1 := cell_got BA.out 1; have g2 := cell_got BA.out 2; have g3 := cell_got BA.out 3; have g4 := cell_got BA.out 4; have g5 := cell_got BA.out 5
            have f0 := frozen_got BA.out 0; have f1 := frozen_got BA.out 1; have f2 := frozen_got BA.out 2; have f3 := frozen_got BA.out 3; have f4 := frozen_got BA.out 4; have f5 := frozen_got BA.out 5
            have l0 := got_lt BA.out
            clear hh hnl hnl2
            go_wp2
            refine bodyPost_ret (v := lineV (some ⟨2, za, zb, zc, zd, 0⟩)) (by simp [results, Tryd.results29, go_sem, lineV, enV, en0, g0, g1, g2, g3, g4, g5]) rfl ⟨by rw [HRS.out], ?_⟩
            with_reducible repeat (first | exact OA.out | refine Only.setCell ?_ (.inr (Nat.le_refl _)) _ | refine Only.alloc ?_ _)
      · have b1 : ((r.length : Int) + 1 != 5) = true := by simp; omega
        have b2 : (((r.length : Int) + 1) == 5) = false := by simp; omega
        have HRS : Hid (res = none) := Lib.hid (by
          rw [HR.out]
          refine entW_none fun ns h' => ?_
          have hl := numsO_len h'
          refine mkE_none ?_ ?_ ?_ ?_ <;> (rintro ⟨q1, q2⟩; first | omega | (rw [hdk] at q1; revert q1; decide)))
        clear hdk hw
        have g0 := cell_got B5.out 0; have g1 := cell_got B5.out 1; have g2 := cell_got B5.out 2; have g3 := cell_got B5.out 3; have g4 := cell_got B5.out 4; have g5 := cell_got B5.out 5
        have f0 := frozen_got B5.out 0; have f1 := frozen_got B5.out 1; have f2 := frozen_got B5.out 2; have f3 := frozen_got B5.out 3; have f4 := frozen_got B5.out 4; have f5 := frozen_got B5.out 5
        have l0 := got_lt B5.out
        go_wp2
        refine bodyPost_ret (v := lineV none) (by simp [results, Tryd.results29, go_sem, lineV, enV, en0, g0, g1, g2, g3, g4, g5]) rfl ⟨by rw [HRS.out], ?_⟩
        with_reducible repeat (first | exact O5.out | refine Only.setCell ?_ (.inr (Nat.le_refl _)) _ | refine Only.alloc ?_ _)

set_option maxRecDepth 100000 in
set_option maxHeartbeats 2000000 in
theorem rentry3 (s : ByteArray) (hd : List UInt8) (r : List (List UInt8)) (res : Option En) (hrl : r.length ≤ 100000) (hw : hd = nameW 3)
    (HSP : Hid (∀ w, Calls Tryd.prog 41 #[.string s] w fun e w' => (∃ p cap, e = .returned (.slice p (hd :: r).length cap) ∧ VRow strC 1 w' p (hd :: r).length cap (hd :: r)) ∧ Only [] w w'))
    (HWL : Hid (∀ x ∈ hd :: r, x.length ≤ 1000000)) (HR : Hid (res = entW (hd :: r))) (w : World) :
    Calls Tryd.prog 29 #[.string s] w fun e w' => e = .returned (lineV res) ∧ Only [] w w' := by
  have HW := Lib.hid hw
  clear hw
  go_enter Tryd.func29, Tryd.ntmps29
  go_wp2_with fail
  refine alloc_abs (G := fun w0 => Calls _ _ _ w0 _) ?_
  intro w1 hb1 ho1 hs1
  have B1 := Lib.hid hb1; have O1 := Lib.hid ho1
  clear hb1 hs1 ho1
  refine (HSP.out w1).mono ?_
  rintro e w2 ⟨⟨wp, wcap, rfl, hv2⟩, ho2⟩
  have B2 := Lib.hid (ho2.got B1.out (by simp)); have O2 := Lib.hid (O1.out.nil_trans ho2)
  obtain ⟨wb, woff, hwp, hwb, hc0⟩ := hv2.cell 0 hd rfl
  subst hwp
  have V2 := Lib.hid hv2
  have k0 : w2.cell? ⟨wb, woff, none⟩ = some (.string (bstr hd)) := by simpa using hc0 0 _ rfl
  have K0 := Lib.hid k0; have HWB := Lib.hid hwb
  clear B1 O1 ho2 hv2 HSP hc0 k0 hwb
  simp only [List.length_cons]
  go_wp2
  go_loopw [5, 6] (fun v5 v6 wr => KindR hd w2 v5 v6 wr) (fun _ v6 _ => 5 - (intOf v6).toNat)
  case atStart => exact ⟨0, 1, rfl, rfl, by omega, by omega, Only.refl _ _, .inl ⟨rfl, fun j h1 h2 => by omega⟩⟩
  case round =>
    obtain ⟨kd, k, rfl, rfl, hk1, hk5, ho, hkd⟩ := hrel
    have O3 := Lib.hid ho; have HKD := Lib.hid hkd
    clear ho hkd
    by_cases hk : k ≤ 4
    · have c0 : wr.cell? ⟨wb, woff, none⟩ = some (.string (bstr hd)) := by rw [O3.out.cell HWB.out (by simp)]; exact K0.out
      have hbw : wb < wr.heap.size := Nat.lt_of_lt_of_le HWB.out O3.out.size
      have hname := fun w' => rname k hk w'
      obtain ⟨b, hb⟩ : ∃ b, ((bstr hd).toList == (bstr (nameW k)).toList) = b := ⟨_, rfl⟩
      have hbq : b = true ↔ hd = nameW k := by
        rw [← hb, Lib.toList_data, Lib.toList_data, beq_iff_eq]; rfl
      obtain ⟨Hd, hHd⟩ : ∃ Hd, Hd = bstr hd := ⟨_, rfl⟩
      obtain ⟨Nk, hNk⟩ : ∃ Nk, Nk = bstr (nameW k) := ⟨_, rfl⟩
      rw [← hHd] at c0 hb
      rw [← hNk] at hname hb
      have HNM := Lib.hid hname; have HBQ := Lib.hid hbq
      clear hname hHd hNk hbq
      have hpos : (0 : Int) < (r.length : Int) + 1 := by omega
      go_wp2_with fail
      refine wp_region_grown [0, 1, 2, 3, 4, 5] [] (by kernel_rfl) (by kernel_rfl) ?_
      simp only [pick, List.map_cons, List.map_nil, List.getD_cons_succ, List.getD_cons_zero]
      iterate 4 (refine wpQuiet_step (fun K hK => ?_); go_simp; refine hK _ ?_; clear hK K)
      refine wpQuiet_enter rfl 42 #[.int .i64 k] (fun _ => by kernel_rfl) (.string Nk) (grown_only' fun w' _ => HNM.out w') ?_
      iterate 1 (refine wpQuiet_step (fun K hK => ?_); go_simp; refine hK _ ?_; clear hK K)
      refine wpQuiet_nil ?_
      intro w4 hw4
      have O4 := Lib.hid (O3.out.nil_trans (only_of_plus hw4))
      clear hw4 c0 hbw HNM
      cases b
      · have HX : Hid (hd ≠ nameW k) := Lib.hid (fun q => by have := HBQ.out.2 q; cases this)
        clear HBQ
        go_wp2
        go_roundw
        case rel =>
          refine ⟨kd, k + 1, rfl, by go_num, by omega, by omega, O4.out, ?_⟩
          rcases HKD.out with ⟨h1, h2⟩ | ⟨h1, h2, h3⟩
          · exact .inl ⟨h1, fun j j1 j2 => by
              rcases Nat.lt_or_ge j k with h | h
              · exact h2 j j1 h
              · obtain rfl : j = k := by omega
                exact HX.out⟩
          · exact .inr ⟨h1, by omega, h3⟩
        case measure => simp [intOf]; omega
      · have HX : Hid (hd = nameW k) := Lib.hid (HBQ.out.1 rfl)
        clear HBQ
        go_wp2
        go_roundw
        case rel => exact ⟨k, k + 1, rfl, by go_num, by omega, by omega, O4.out, .inr ⟨by omega, by omega, HX.out⟩⟩
        case measure => simp [intOf]; omega
    · obtain rfl : k = 5 := by omega
      have OO := Lib.hid (O2.out.nil_trans O3.out); have BB := Lib.hid (O3.out.got B2.out (by simp)); have VV := Lib.hid (V2.out.kept O3.out)
      clear O3 B2 O2 V2 K0 HWB hk hk1 hk5
      have hkk : kd = 3 := by
        have hw := HW.out
        have hds : nameW 1 ≠ nameW 2 ∧ nameW 1 ≠ nameW 3 ∧ nameW 1 ≠ nameW 4 ∧ nameW 2 ≠ nameW 3 ∧ nameW 2 ≠ nameW 4 ∧ nameW 3 ≠ nameW 4 := by decide
        rcases HKD.out with ⟨h1, h2⟩ | ⟨h1, h2, h3⟩
        · first
            | exact h1
            | exact absurd hw (h2 _ (by decide) (by decide))
        · rcases (show kd = 1 ∨ kd = 2 ∨ kd = 3 ∨ kd = 4 by omega) with rfl | rfl | rfl | rfl
          all_goals first
            | rfl
            | (exfalso; first | exact hw _ (by decide) (by decide) h3 | (rw [hw] at h3; simp_all))
      subst hkk
      have hw := HW.out
      clear HKD HW
      go_upto_region 9 with (fail)
      refine alloc_abs (G := fun w0 => Code.wp _ _ _ _ w0) ?_
      intro w5 hb5 ho5 hs5
      have O5 := Lib.hid (OO.out.nil_trans ho5); have B5 := Lib.hid (ho5.got BB.out (by simp)); have V5 := Lib.hid (VV.out.kept ho5)
      clear hb5 ho5 hs5 OO BB VV
      have hdk : hd = wStep := hw
      by_cases hr : r.length = 3
      · have hrl2 := Lib.hid hr
        have b1 : ((r.length : Int) + 1 != 4) = false := by simp; omega
        have b2 : (((r.length : Int) + 1) == 4) = true := by simp; omega
        have hr4 : r.length ≤ 4 := by omega
        have hr0 : 1 ≤ r.length := by omega
        have HDK := Lib.hid hdk
        clear hdk hw hr
        go_wp2
        go_loopw [9] (fun v9 wr => EntL r w5 v9 wr) (fun v9 _ => r.length + 1 - (intOf v9).toNat)
        case atStart => exact ⟨0, [], Nat.zero_le _, rfl, rfl, alloc_new _ _, (Only.refl [] w5).alloc _⟩
        case round =>
          obtain ⟨i, ns, hi, rfl, hns, hblk, ho⟩ := hrel
          have HNS := Lib.hid hns; have HB := Lib.hid hblk; have O6 := Lib.hid ho
          have hnl : ns.length = i := by have := numsO_len hns; rw [List.length_take] at this; omega
          clear hns hblk ho
          by_cases hlt : i < r.length
          · obtain ⟨bb, off, hpp, hb, hcl⟩ := V5.out.cell (i + 1) r[i] (by simp [List.getElem?_eq_getElem hlt])
            cases hpp
            have c1 : wr.cell? ⟨wb, woff + (i + 1), none⟩ = some (.string (bstr r[i])) := by rw [O6.out.cell hb (by simp)]; simpa using hcl 0 _ rfl
            have hbw : wb < wr.heap.size := Nat.lt_of_lt_of_le hb O6.out.size
            have hxl := HWL.out r[i] (by simp)
            have htk : r.take (i + 1) = r.take i ++ [r[i]] := List.take_succ_eq_append_getElem hlt
            have hmem : r[i] ∈ r := List.getElem_mem hlt
            generalize r[i] = x at c1 hxl htk hmem hcl
            have hnum := rnumber (bstr x) (by rw [bstr_size]; omega) wr
            rw [bstr_data] at hnum
            have HNU := Lib.hid hnum; have HTK := Lib.hid htk; have HMM := Lib.hid hmem
            clear hcl hnum htk hmem hb
            have hi1 : ((i : Int) + 1) < (r.length : Int) + 1 := by omega
            generalize bstr x = X at c1 HNU
            go_wp2_with fail
            with_reducible refine HNU.out.mono ?_
            rintro e w7 ⟨⟨z, rfl⟩, ho7⟩
            have O7 := Lib.hid (O6.out.nil_trans ho7); have HB7 := Lib.hid (ho7.got HB.out (by simp))
            clear ho7 c1 O6 HB HNU
            cases hq : numO x with
            | none =>
              have HRS : Hid (res = none) := Lib.hid (by rw [HR.out]; exact entW_none fun ns' h' => by rw [numsO_none hq HMM.out] at h'; cases h')
              simp only [Option.getD_none, Option.isSome_none]
              have BA := Lib.hid (O7.out.got B5.out (by simp)); have OA := Lib.hid (O5.out.nil_trans O7.out)
              have g0 := cell_got BA.out 0; have g1 := cell_got BA.out 1; have g2 := cell_got BA.out 2; have g3 := cell_got BA.out 3; have g4 := cell_got BA.out 4; have g5 := cell_got BA.out 5
              have f0 := frozen_got BA.out 0; have f1 := frozen_got BA.out 1; have f2 := frozen_got BA.out 2; have f3 := frozen_got BA.out 3; have f4 := frozen_got BA.out 4; have f5 := frozen_got BA.out 5
              have l0 := got_lt BA.out
              go_wp2
              refine bodyPost_ret (v := lineV none) (by simp [results, Tryd.results29, go_sem, lineV, enV, en0, g0, g1, g2, g3, g4, g5]) rfl ⟨by rw [HRS.out], ?_⟩
              with_reducible repeat (first | exact OA.out | refine Only.setCell ?_ (.inr (Nat.le_refl _)) _ | refine Only.alloc ?_ _)
            | some v =>
              have HNN : Hid (numsO (r.take (i + 1)) = some (ns ++ [v])) := Lib.hid (by rw [HTK.out, numsO_snoc x _ ns HNS.out, hq]; rfl)
              simp only [Option.getD_some, Option.isSome_some]
              have hcu : ∃ u, w7.cell? ⟨w5.heap.size, i + 1, none⟩ = some u := by
                rw [cell_got HB7.out]
                refine ⟨_, Array.getElem?_eq_getElem ?_⟩
                simp only [arrE_size hnl]; omega
              obtain ⟨u, hcu⟩ := hcu
              have hfz := frozen_got HB7.out (i + 1)
              have hl7 := got_lt HB7.out
              have HB8 : Hid ((w7.setCell ⟨w5.heap.size, i + 1, none⟩ (.int .i64 v)).heap[w5.heap.size]? = some (.cells (arrE (ns ++ [v])) 76 (0, 0))) := Lib.hid (by
                rw [setCell_got _ HB7.out, arrE_set hnl (by omega)])
              have O8 := Lib.hid (O7.out.setCell (p := ⟨w5.heap.size, i + 1, none⟩) (.inr (Nat.le_refl _)) (.int .i64 v))
              clear hq hnl
              go_wp2
              go_roundw
              case rel => exact ⟨i + 1, ns ++ [v], by omega, by go_num, HNN.out, HB8.out, O8.out⟩
              case measure => simp [intOf]; omega
          · obtain rfl : i = r.length := by omega
            have hh := HNS.out
            rw [List.take_of_length_le (Nat.le_refl _)] at hh
            have hnl2 : ns.length = 3 := by rw [hnl]; exact hrl2.out
            obtain ⟨za, zb, zc, rfl⟩ : ∃ za zb zc, ns = [za, zb, zc] := by
              match ns, hnl2 with
              | [za, zb, zc], _ => exact ⟨za, zb, zc, rfl⟩
            have HRS : Hid (res = some ⟨3, za, 0, 0, zb, zc⟩) := Lib.hid (by rw [HR.out, entW, hh]; exact mkE_step HDK.out)
            have m1 := cell_got HB.out 1; have m2 := cell_got HB.out 2; have m3 := cell_got HB.out 3; have m4 := cell_got HB.out 4
            simp only [arrE, List.length_cons, List.length_nil, Nat.zero_add, Nat.reduceAdd, Nat.reduceSub, List.replicate, List.cons_append, List.nil_append, List.map_cons, List.map_nil, List.getElem?_toArray, List.getElem?_cons_succ, List.getElem?_cons_zero] at m1 m2 m3 m4
            have l5 := got_lt HB.out
            have BA := Lib.hid (O6.out.got B5.out (by simp)); have OA := Lib.hid (O5.out.nil_trans O6.out)
            have g0 := cell_got BA.out 0; have g1 := cell_got BA.out 1; have g2 := cell_got BA.out 2; have g3 := cell_got BA.out 3; have g4 := cell_got BA.out 4; have g5 := cell_got BA.out 5
            have f0 := frozen_got BA.out 0; have f1 := frozen_got BA.out 1; have f2 := frozen_got BA.out 2; have f3 := frozen_got BA.out 3; have f4 := frozen_got BA.out 4; have f5 := frozen_got BA.out 5
            have l0 := got_lt BA.out
            clear hh hnl hnl2
            go_wp2
            refine bodyPost_ret (v := lineV (some ⟨3, za, 0, 0, zb, zc⟩)) (by simp [results, Tryd.results29, go_sem, lineV, enV, en0, g0, g1, g2, g3, g4, g5]) rfl ⟨by rw [HRS.out], ?_⟩
            with_reducible repeat (first | exact OA.out | refine Only.setCell ?_ (.inr (Nat.le_refl _)) _ | refine Only.alloc ?_ _)
      · have b1 : ((r.length : Int) + 1 != 4) = true := by simp; omega
        have b2 : (((r.length : Int) + 1) == 4) = false := by simp; omega
        have HRS : Hid (res = none) := Lib.hid (by
          rw [HR.out]
          refine entW_none fun ns h' => ?_
          have hl := numsO_len h'
          refine mkE_none ?_ ?_ ?_ ?_ <;> (rintro ⟨q1, q2⟩; first | omega | (rw [hdk] at q1; revert q1; decide)))
        clear hdk hw
        have g0 := cell_got B5.out 0; have g1 := cell_got B5.out 1; have g2 := cell_got B5.out 2; have g3 := cell_got B5.out 3; have g4 := cell_got B5.out 4; have g5 := cell_got B5.out 5
        have f0 := frozen_got B5.out 0; have f1 := frozen_got B5.out 1; have f2 := frozen_got B5.out 2; have f3 := frozen_got B5.out 3; have f4 := frozen_got B5.out 4; have f5 := frozen_got B5.out 5
        have l0 := got_lt B5.out
        go_wp2
        refine bodyPost_ret (v := lineV none) (by simp [results, Tryd.results29, go_sem, lineV, enV, en0, g0, g1, g2, g3, g4, g5]) rfl ⟨by rw [HRS.out], ?_⟩
        with_reducible repeat (first | exact O5.out | refine Only.setCell ?_ (.inr (Nat.le_refl _)) _ | refine Only.alloc ?_ _)

set_option maxRecDepth 100000 in
set_option maxHeartbeats 2000000 in
theorem rentry4 (s : ByteArray) (hd : List UInt8) (r : List (List UInt8)) (res : Option En) (hrl : r.length ≤ 100000) (hw : hd = nameW 4)
    (HSP : Hid (∀ w, Calls Tryd.prog 41 #[.string s] w fun e w' => (∃ p cap, e = .returned (.slice p (hd :: r).length cap) ∧ VRow strC 1 w' p (hd :: r).length cap (hd :: r)) ∧ Only [] w w'))
    (HWL : Hid (∀ x ∈ hd :: r, x.length ≤ 1000000)) (HR : Hid (res = entW (hd :: r))) (w : World) :
    Calls Tryd.prog 29 #[.string s] w fun e w' => e = .returned (lineV res) ∧ Only [] w w' := by
  have HW := Lib.hid hw
  clear hw
  go_enter Tryd.func29, Tryd.ntmps29
  go_wp2_with fail
  refine alloc_abs (G := fun w0 => Calls _ _ _ w0 _) ?_
  intro w1 hb1 ho1 hs1
  have B1 := Lib.hid hb1; have O1 := Lib.hid ho1
  clear hb1 hs1 ho1
  refine (HSP.out w1).mono ?_
  rintro e w2 ⟨⟨wp, wcap, rfl, hv2⟩, ho2⟩
  have B2 := Lib.hid (ho2.got B1.out (by simp)); have O2 := Lib.hid (O1.out.nil_trans ho2)
  obtain ⟨wb, woff, hwp, hwb, hc0⟩ := hv2.cell 0 hd rfl
  subst hwp
  have V2 := Lib.hid hv2
  have k0 : w2.cell? ⟨wb, woff, none⟩ = some (.string (bstr hd)) := by simpa using hc0 0 _ rfl
  have K0 := Lib.hid k0; have HWB := Lib.hid hwb
  clear B1 O1 ho2 hv2 HSP hc0 k0 hwb
  simp only [List.length_cons]
  go_wp2
  go_loopw [5, 6] (fun v5 v6 wr => KindR hd w2 v5 v6 wr) (fun _ v6 _ => 5 - (intOf v6).toNat)
  case atStart => exact ⟨0, 1, rfl, rfl, by omega, by omega, Only.refl _ _, .inl ⟨rfl, fun j h1 h2 => by omega⟩⟩
  case round =>
    obtain ⟨kd, k, rfl, rfl, hk1, hk5, ho, hkd⟩ := hrel
    have O3 := Lib.hid ho; have HKD := Lib.hid hkd
    clear ho hkd
    by_cases hk : k ≤ 4
    · have c0 : wr.cell? ⟨wb, woff, none⟩ = some (.string (bstr hd)) := by rw [O3.out.cell HWB.out (by simp)]; exact K0.out
      have hbw : wb < wr.heap.size := Nat.lt_of_lt_of_le HWB.out O3.out.size
      have hname := fun w' => rname k hk w'
      obtain ⟨b, hb⟩ : ∃ b, ((bstr hd).toList == (bstr (nameW k)).toList) = b := ⟨_, rfl⟩
      have hbq : b = true ↔ hd = nameW k := by
        rw [← hb, Lib.toList_data, Lib.toList_data, beq_iff_eq]; rfl
      obtain ⟨Hd, hHd⟩ : ∃ Hd, Hd = bstr hd := ⟨_, rfl⟩
      obtain ⟨Nk, hNk⟩ : ∃ Nk, Nk = bstr (nameW k) := ⟨_, rfl⟩
      rw [← hHd] at c0 hb
      rw [← hNk] at hname hb
      have HNM := Lib.hid hname; have HBQ := Lib.hid hbq
      clear hname hHd hNk hbq
      have hpos : (0 : Int) < (r.length : Int) + 1 := by omega
      go_wp2_with fail
      refine wp_region_grown [0, 1, 2, 3, 4, 5] [] (by kernel_rfl) (by kernel_rfl) ?_
      simp only [pick, List.map_cons, List.map_nil, List.getD_cons_succ, List.getD_cons_zero]
      iterate 4 (refine wpQuiet_step (fun K hK => ?_); go_simp; refine hK _ ?_; clear hK K)
      refine wpQuiet_enter rfl 42 #[.int .i64 k] (fun _ => by kernel_rfl) (.string Nk) (grown_only' fun w' _ => HNM.out w') ?_
      iterate 1 (refine wpQuiet_step (fun K hK => ?_); go_simp; refine hK _ ?_; clear hK K)
      refine wpQuiet_nil ?_
      intro w4 hw4
      have O4 := Lib.hid (O3.out.nil_trans (only_of_plus hw4))
      clear hw4 c0 hbw HNM
      cases b
      · have HX : Hid (hd ≠ nameW k) := Lib.hid (fun q => by have := HBQ.out.2 q; cases this)
        clear HBQ
        go_wp2
        go_roundw
        case rel =>
          refine ⟨kd, k + 1, rfl, by go_num, by omega, by omega, O4.out, ?_⟩
          rcases HKD.out with ⟨h1, h2⟩ | ⟨h1, h2, h3⟩
          · exact .inl ⟨h1, fun j j1 j2 => by
              rcases Nat.lt_or_ge j k with h | h
              · exact h2 j j1 h
              · obtain rfl : j = k := by omega
                exact HX.out⟩
          · exact .inr ⟨h1, by omega, h3⟩
        case measure => simp [intOf]; omega
      · have HX : Hid (hd = nameW k) := Lib.hid (HBQ.out.1 rfl)
        clear HBQ
        go_wp2
        go_roundw
        case rel => exact ⟨k, k + 1, rfl, by go_num, by omega, by omega, O4.out, .inr ⟨by omega, by omega, HX.out⟩⟩
        case measure => simp [intOf]; omega
    · obtain rfl : k = 5 := by omega
      have OO := Lib.hid (O2.out.nil_trans O3.out); have BB := Lib.hid (O3.out.got B2.out (by simp)); have VV := Lib.hid (V2.out.kept O3.out)
      clear O3 B2 O2 V2 K0 HWB hk hk1 hk5
      have hkk : kd = 4 := by
        have hw := HW.out
        have hds : nameW 1 ≠ nameW 2 ∧ nameW 1 ≠ nameW 3 ∧ nameW 1 ≠ nameW 4 ∧ nameW 2 ≠ nameW 3 ∧ nameW 2 ≠ nameW 4 ∧ nameW 3 ≠ nameW 4 := by decide
        rcases HKD.out with ⟨h1, h2⟩ | ⟨h1, h2, h3⟩
        · first
            | exact h1
            | exact absurd hw (h2 _ (by decide) (by decide))
        · rcases (show kd = 1 ∨ kd = 2 ∨ kd = 3 ∨ kd = 4 by omega) with rfl | rfl | rfl | rfl
          all_goals first
            | rfl
            | (exfalso; first | exact hw _ (by decide) (by decide) h3 | (rw [hw] at h3; simp_all))
      subst hkk
      have hw := HW.out
      clear HKD HW
      go_upto_region 9 with (fail)
      refine alloc_abs (G := fun w0 => Code.wp _ _ _ _ w0) ?_
      intro w5 hb5 ho5 hs5
      have O5 := Lib.hid (OO.out.nil_trans ho5); have B5 := Lib.hid (ho5.got BB.out (by simp)); have V5 := Lib.hid (VV.out.kept ho5)
      clear hb5 ho5 hs5 OO BB VV
      have hdk : hd = wMark := hw
      by_cases hr : r.length = 2
      · have hrl2 := Lib.hid hr
        have b1 : ((r.length : Int) + 1 != 3) = false := by simp; omega
        have b2 : (((r.length : Int) + 1) == 3) = true := by simp; omega
        have hr4 : r.length ≤ 4 := by omega
        have hr0 : 1 ≤ r.length := by omega
        have HDK := Lib.hid hdk
        clear hdk hw hr
        go_wp2
        go_loopw [9] (fun v9 wr => EntL r w5 v9 wr) (fun v9 _ => r.length + 1 - (intOf v9).toNat)
        case atStart => exact ⟨0, [], Nat.zero_le _, rfl, rfl, alloc_new _ _, (Only.refl [] w5).alloc _⟩
        case round =>
          obtain ⟨i, ns, hi, rfl, hns, hblk, ho⟩ := hrel
          have HNS := Lib.hid hns; have HB := Lib.hid hblk; have O6 := Lib.hid ho
          have hnl : ns.length = i := by have := numsO_len hns; rw [List.length_take] at this; omega
          clear hns hblk ho
          by_cases hlt : i < r.length
          · obtain ⟨bb, off, hpp, hb, hcl⟩ := V5.out.cell (i + 1) r[i] (by simp [List.getElem?_eq_getElem hlt])
            cases hpp
            have c1 : wr.cell? ⟨wb, woff + (i + 1), none⟩ = some (.string (bstr r[i])) := by rw [O6.out.cell hb (by simp)]; simpa using hcl 0 _ rfl
            have hbw : wb < wr.heap.size := Nat.lt_of_lt_of_le hb O6.out.size
            have hxl := HWL.out r[i] (by simp)
            have htk : r.take (i + 1) = r.take i ++ [r[i]] := List.take_succ_eq_append_getElem hlt
            have hmem : r[i] ∈ r := List.getElem_mem hlt
            generalize r[i] = x at c1 hxl htk hmem hcl
            have hnum := rnumber (bstr x) (by rw [bstr_size]; omega) wr
            rw [bstr_data] at hnum
            have HNU := Lib.hid hnum; have HTK := Lib.hid htk; have HMM := Lib.hid hmem
            clear hcl hnum htk hmem hb
            have hi1 : ((i : Int) + 1) < (r.length : Int) + 1 := by omega
            generalize bstr x = X at c1 HNU
            go_wp2_with fail
            with_reducible refine HNU.out.mono ?_
            rintro e w7 ⟨⟨z, rfl⟩, ho7⟩
            have O7 := Lib.hid (O6.out.nil_trans ho7); have HB7 := Lib.hid (ho7.got HB.out (by simp))
            clear ho7 c1 O6 HB HNU
            cases hq : numO x with
            | none =>
              have HRS : Hid (res = none) := Lib.hid (by rw [HR.out]; exact entW_none fun ns' h' => by rw [numsO_none hq HMM.out] at h'; cases h')
              simp only [Option.getD_none, Option.isSome_none]
              have BA := Lib.hid (O7.out.got B5.out (by simp)); have OA := Lib.hid (O5.out.nil_trans O7.out)
              have g0 := cell_got BA.out 0; have g1 := cell_got BA.out 1; have g2 := cell_got BA.out 2; have g3 := cell_got BA.out 3; have g4 := cell_got BA.out 4; have g5 := cell_got BA.out 5
              have f0 := frozen_got BA.out 0; have f1 := frozen_got BA.out 1; have f2 := frozen_got BA.out 2; have f3 := frozen_got BA.out 3; have f4 := frozen_got BA.out 4; have f5 := frozen_got BA.out 5
              have l0 := got_lt BA.out
              go_wp2
              refine bodyPost_ret (v := lineV none) (by simp [results, Tryd.results29, go_sem, lineV, enV, en0, g0, g1, g2, g3, g4, g5]) rfl ⟨by rw [HRS.out], ?_⟩
              with_reducible repeat (first | exact OA.out | refine Only.setCell ?_ (.inr (Nat.le_refl _)) _ | refine Only.alloc ?_ _)
            | some v =>
              have HNN : Hid (numsO (r.take (i + 1)) = some (ns ++ [v])) := Lib.hid (by rw [HTK.out, numsO_snoc x _ ns HNS.out, hq]; rfl)
              simp only [Option.getD_some, Option.isSome_some]
              have hcu : ∃ u, w7.cell? ⟨w5.heap.size, i + 1, none⟩ = some u := by
                rw [cell_got HB7.out]
                refine ⟨_, Array.getElem?_eq_getElem ?_⟩
                simp only [arrE_size hnl]; omega
              obtain ⟨u, hcu⟩ := hcu
              have hfz := frozen_got HB7.out (i + 1)
              have hl7 := got_lt HB7.out
              have HB8 : Hid ((w7.setCell ⟨w5.heap.size, i + 1, none⟩ (.int .i64 v)).heap[w5.heap.size]? = some (.cells (arrE (ns ++ [v])) 76 (0, 0))) := Lib.hid (by
                rw [setCell_got _ HB7.out, arrE_set hnl (by omega)])
              have O8 := Lib.hid (O7.out.setCell (p := ⟨w5.heap.size, i + 1, none⟩) (.inr (Nat.le_refl _)) (.int .i64 v))
              clear hq hnl
              go_wp2
              go_roundw
              case rel => exact ⟨i + 1, ns ++ [v], by omega, by go_num, HNN.out, HB8.out, O8.out⟩
              case measure => simp [intOf]; omega
          · obtain rfl : i = r.length := by omega
            have hh := HNS.out
            rw [List.take_of_length_le (Nat.le_refl _)] at hh
            have hnl2 : ns.length = 2 := by rw [hnl]; exact hrl2.out
            obtain ⟨za, zb, rfl⟩ : ∃ za zb, ns = [za, zb] := by
              match ns, hnl2 with
              | [za, zb], _ => exact ⟨za, zb, rfl⟩
            have HRS : Hid (res = some ⟨4, za, 0, 0, zb, 0⟩) := Lib.hid (by rw [HR.out, entW, hh]; exact mkE_mark HDK.out)
            have m1 := cell_got HB.out 1; have m2 := cell_got HB.out 2; have m3 := cell_got HB.out 3; have m4 := cell_got HB.out 4
            simp only [arrE, List.length_cons, List.length_nil, Nat.zero_add, Nat.reduceAdd, Nat.reduceSub, List.replicate, List.cons_append, List.nil_append, List.map_cons, List.map_nil, List.getElem?_toArray, List.getElem?_cons_succ, List.getElem?_cons_zero] at m1 m2 m3 m4
            have l5 := got_lt HB.out
            have BA := Lib.hid (O6.out.got B5.out (by simp)); have OA := Lib.hid (O5.out.nil_trans O6.out)
            have g0 := cell_got BA.out 0; have g1 := cell_got BA.out 1; have g2 := cell_got BA.out 2; have g3 := cell_got BA.out 3; have g4 := cell_got BA.out 4; have g5 := cell_got BA.out 5
            have f0 := frozen_got BA.out 0; have f1 := frozen_got BA.out 1; have f2 := frozen_got BA.out 2; have f3 := frozen_got BA.out 3; have f4 := frozen_got BA.out 4; have f5 := frozen_got BA.out 5
            have l0 := got_lt BA.out
            clear hh hnl hnl2
            go_wp2
            refine bodyPost_ret (v := lineV (some ⟨4, za, 0, 0, zb, 0⟩)) (by simp [results, Tryd.results29, go_sem, lineV, enV, en0, g0, g1, g2, g3, g4, g5]) rfl ⟨by rw [HRS.out], ?_⟩
            with_reducible repeat (first | exact OA.out | refine Only.setCell ?_ (.inr (Nat.le_refl _)) _ | refine Only.alloc ?_ _)
      · have b1 : ((r.length : Int) + 1 != 3) = true := by simp; omega
        have b2 : (((r.length : Int) + 1) == 3) = false := by simp; omega
        have HRS : Hid (res = none) := Lib.hid (by
          rw [HR.out]
          refine entW_none fun ns h' => ?_
          have hl := numsO_len h'
          refine mkE_none ?_ ?_ ?_ ?_ <;> (rintro ⟨q1, q2⟩; first | omega | (rw [hdk] at q1; revert q1; decide)))
        clear hdk hw
        have g0 := cell_got B5.out 0; have g1 := cell_got B5.out 1; have g2 := cell_got B5.out 2; have g3 := cell_got B5.out 3; have g4 := cell_got B5.out 4; have g5 := cell_got B5.out 5
        have f0 := frozen_got B5.out 0; have f1 := frozen_got B5.out 1; have f2 := frozen_got B5.out 2; have f3 := frozen_got B5.out 3; have f4 := frozen_got B5.out 4; have f5 := frozen_got B5.out 5
        have l0 := got_lt B5.out
        go_wp2
        refine bodyPost_ret (v := lineV none) (by simp [results, Tryd.results29, go_sem, lineV, enV, en0, g0, g1, g2, g3, g4, g5]) rfl ⟨by rw [HRS.out], ?_⟩
        with_reducible repeat (first | exact O5.out | refine Only.setCell ?_ (.inr (Nat.le_refl _)) _ | refine Only.alloc ?_ _)

set_option maxRecDepth 100000 in
theorem rentry (s : ByteArray) (hs : s.size ≤ 100000) (w : World) :
    Calls Tryd.prog 29 #[.string s] w fun e w' => e = .returned (lineV (lineE s.data.toList)) ∧ Only [] w w' := by
  have hsl : s.data.toList.length = s.size := by rw [Array.length_toList]; rfl
  have hpl := pcs_length_le 32 s.data.toList
  have hspl := fun w => rwords s (by omega) w
  have hwl : ∀ x ∈ pcs 32 s.data.toList, x.length ≤ 1000000 := by
    intro x hx
    have : ∀ (ps : List (List UInt8)), x ∈ ps → x.length ≤ (joinC 32 ps).length := by
      intro ps
      induction ps with
      | nil => intro h; cases h
      | cons p r ih =>
        intro h
        by_cases hr : r = []
        · subst hr; simp at h; subst h; simp [joinC]
        · rw [joinC_cons 32 p hr]
          rcases List.mem_cons.1 h with rfl | h
          · simp
          · have := ih h; simp; omega
    have := this _ hx
    rw [join_pcs] at this
    omega
  have hle : lineE s.data.toList = entW (pcs 32 s.data.toList) := rfl
  generalize lineE s.data.toList = res at hle ⊢
  obtain ⟨ws, hws⟩ : ∃ ws, ws = pcs 32 s.data.toList := ⟨_, rfl⟩
  have hne := pcs_ne 32 s.data.toList
  rw [← hws] at hle hspl hwl hpl hne
  clear hws
  cases ws with
  | nil => exact absurd rfl hne
  | cons hd r =>
    have HSP := Lib.hid hspl; have HWL := Lib.hid hwl; have HR := Lib.hid hle
    have hrl : r.length ≤ 100000 := by simp only [List.length_cons] at hpl; omega
    by_cases h1 : hd = nameW 1
    · exact rentry1 s hd r res hrl h1 HSP HWL HR w
    · by_cases h2 : hd = nameW 2
      · exact rentry2 s hd r res hrl h2 HSP HWL HR w
      · by_cases h3 : hd = nameW 3
        · exact rentry3 s hd r res hrl h3 HSP HWL HR w
        · by_cases h4 : hd = nameW 4
          · exact rentry4 s hd r res hrl h4 HSP HWL HR w
          · refine rentry0 s hd r res hrl (fun j j1 j2 => ?_) HSP HWL HR w
            rcases (show j = 1 ∨ j = 2 ∨ j = 3 ∨ j = 4 by omega) with rfl | rfl | rfl | rfl
            · exact h1
            · exact h2
            · exact h3
            · exact h4
end Go.Proofs.YtdpfbedcejahjaaDoor
