/- Lines of numbers of the reference's reader, and line as a whole. Condition: the lengths. -/
import Derived.Test.YtnfejojakikeeaaGreatDoorQf
import Derived.Test.YtnfejojakikeeaaGreatDoorCalm
namespace Go.Proofs.YtnfejojakikeeaaGreatDoor
open Go.RowKit

set_option maxRecDepth 100000 in
set_option maxHeartbeats 4000000 in
theorem rln_short (X : ByteArray) (L : List UInt8) (w : World) {w00 : World} (pb : Nat) (st : PSt) (HP : Hid (Ps2 w00 w pb st)) (hpb : w00.heap.size ≤ pb) (hn : st.es.length ≤ 100000) (CX : ByteArray) (CH : List UInt8) (HBF : Hid (Calls Tryz.prog 51 #[.string X] w fun e w' => e = .returned (.string CX) ∧ w = w')) (HFI : Hid (Calls Tryz.prog 50 #[.string CX] w fun e w' => ∃ v, e = .returned v ∧ Own strC 9 1 w.heap.size w' v (wds [] CH) ∧ Only [] w w')) (HWL : Hid ((wds [] CH).length ≤ 100001)) (HML : Hid (∀ x ∈ wds [] CH, x.length ≤ 1000000)) (HRD : Hid (rdO st L = entR st (numsO (wds [] CH)))) (h3 : X.size ≤ 2) :
    Calls Tryz.prog 35 #[.pointer (some ⟨pb, 0, none⟩), .string X] w fun e w' => RdV2 w00 w pb (rdO st L) e w' := by
  have z3 : decide ((X.size : Int) > 2) = false := by simp; omega
  have z5 : decide (2 < (X.size : Int)) = false := by simp; omega
  go_enter Tryz.func35, Tryz.ntmps35
  go_wp2_with fail
  refine HBF.out.mono ?_
  rintro e w' ⟨rfl, rfl⟩
  go_wp2_with fail
  refine HFI.out.mono ?_
  rintro e w2 ⟨v2, rfl, hown2, ho2⟩
  obtain ⟨p2, cap2, rfl, hv2⟩ := hown2.vrow strC_len
  have O2 := Lib.hid ho2; have V2 := Lib.hid hv2
  clear hown2 ho2 hv2
  by_cases hw0 : (wds [] CH).length = 0
  · have q7 : (((wds [] CH).length : Int) == 0) = true := by rw [hw0]; rfl
    have hX : rdO st L = some st := by rw [HRD.out, List.length_eq_zero_iff.1 hw0]; rfl
    have HX := Lib.hid hX
    clear hX
    obtain ⟨v, hb, how, hon⟩ := HP.out
    have hP2 : Ps2 w00 w2 pb st := ⟨v, O2.out.got hb (by simp), how.kept O2.out, hon.nil_trans O2.out⟩
    have HP2 := Lib.hid hP2
    clear hb how hon hP2
    go_wp2
    go_ret
    rw [HX.out]
    exact ⟨⟨rfl, HP2.out⟩, Fr.nil O2.out⟩
  · have q7 : (((wds [] CH).length : Int) == 0) = false := by rw [beq_eq_false_iff_ne]; omega
    have hnu := rnumbers V2.out (by have := HWL.out; omega) HML.out
    have HNU := Lib.hid hnu
    clear hnu
    go_wp2_with fail
    refine HNU.out.mono ?_
    rintro e w3 ⟨hv3, ho3⟩
    have O3 := Lib.hid (O2.out.nil_trans ho3)
    clear ho3 HNU
    cases hq : numsO (wds [] CH) with
    | none =>
      rw [hq] at hv3
      obtain rfl : e = _ := hv3
      have HX : Hid (rdO st L = none) := Lib.hid (by rw [HRD.out, hq]; rfl)
      have ON := Lib.hid (by obtain ⟨_, _, _, h⟩ := HP.out; exact h : Only [] w00 w)
      clear hq
      go_wp2
      go_ret
      rw [HX.out]
      exact ⟨⟨rfl, ON.out.nil_trans O3.out⟩, Fr.nil O3.out⟩
    | some ns =>
      rw [hq] at hv3
      obtain ⟨vv, rfl, hrow⟩ := hv3
      have hnl := numsO_len hq
      have hRD : rdO st L = entR st (some ns) := by rw [HRD.out, hq]
      have HRE := Lib.hid hRD
      clear hRD hq
      by_cases h2 : ns.length = 2
      · obtain ⟨za, zo, rfl⟩ : ∃ a o, ns = [a, o] := by
          rcases ns with _ | ⟨a, _ | ⟨b, _ | ⟨c, r⟩⟩⟩
          · cases h2
          · cases h2
          · exact ⟨a, b, rfl⟩
          · simp at h2
        have HX : Hid (rdO st L = some { st with es := st.es ++ [⟨za, zo⟩] }) := HRE
        clear HRE h2 hnl
        obtain ⟨bn, capn, rfl, hbn, hra⟩ : ∃ g cap, vv = .slice (some ⟨g, 0, none⟩) 2 cap ∧ w2.heap.size ≤ g ∧ RowAt (fun z : Int => [Value.int .i64 z]) 3 1 w3 g cap [za, zo] := by
          rcases hrow with ⟨_, h⟩ | ⟨g, cap, h1, h2, h3⟩
          · cases h
          · exact ⟨g, cap, h1, h2, h3⟩
        have c0 : w3.cell? ⟨bn, 0, none⟩ = some (.int .i64 za) := by
          have := RowAt.cell (enc := fun z : Int => [Value.int .i64 z]) (s := 1) (l := [za, zo]) (x := za) (i := 0) (j := 0) (fun _ => rfl) hra rfl (by decide)
          simpa using this
        have c1 : w3.cell? ⟨bn, 1, none⟩ = some (.int .i64 zo) := by
          have := RowAt.cell (enc := fun z : Int => [Value.int .i64 z]) (s := 1) (l := [za, zo]) (x := zo) (i := 1) (j := 0) (fun _ => rfl) hra rfl (by decide)
          simpa using this
        have lbn := hra.lt
        clear hrow hra
        obtain ⟨v, hbk, hown, hon⟩ := HP.out
        have HBK := Lib.hid hbk; have HOW := Lib.hid hown; have HON := Lib.hid hon
        have lw := got_lt hbk
        clear hbk hown hon
        have BP := Lib.hid (O3.out.got HBK.out (by simp))
        have lp3 := got_lt BP.out
        have p2' := cell_got BP.out 2
        have fp2 := frozen_got BP.out 2
        obtain ⟨S, hS⟩ : ∃ S, S = v.ownBlock.toList := ⟨_, rfl⟩
        have hSg : ∀ k ∈ S, w00.heap.size ≤ k ∧ k < w.heap.size ∧ ∃ c, w.heap[k]? = some (.cells c 42 (0, 0)) := by
          intro k hk
          rw [hS] at hk
          rcases HOW.out with ⟨rfl, _⟩ | ⟨g', cap', rfl, h2, h3⟩
          · simp [Value.ownBlock] at hk
          · obtain rfl : k = g' := by simpa [Value.ownBlock] using hk
            obtain ⟨cur, hc, _⟩ := h3
            exact ⟨h2, got_lt hc, cur, hc⟩
        have np : pb ∉ S := fun hm => by
          obtain ⟨_, _, c, hc⟩ := hSg pb hm
          rw [HBK.out] at hc; cases hc
        have nn : bn ∉ S := fun hm => by
          have := (hSg bn hm).2.1
          have h2 := O2.out.size
          omega
        have HSG := Lib.hid hSg; have HS' := Lib.hid hS
        clear hSg hS lw hbn
        obtain ⟨pv, capv, hvv, _⟩ := HOW.out.vrow leC_len
        have HVV := Lib.hid hvv
        clear hvv
        go_wp2_with fail
        refine wp_region_calm2 [0, 1, 2, 3, 4, 5, 6, 7, 8, 9, 10, 11, 12] [15, 16, 17, 18] (OnlyC S w3) (by kernel_rfl) (by kernel_rfl) ?_
        simp only [pick, List.map_cons, List.map_nil, List.getD_cons_succ, List.getD_cons_zero]
        iterate 13 (refine wpCalm_step (fun K hK => ?_); go_simp; refine hK _ ?_; clear hK K)
        refine wpCalm_nil ?_
        refine Rest.by (X := Nat × Value) (fun y a => ((((a.put (some 69) (.slice (some ⟨y.1, 0, none⟩) 1 1)).put (some 70) y.2).put (some 71) (.pointer (some ⟨pb, 0, none⟩))).put (some 72) (.pointer (some ⟨pb, 0, none⟩))).put (some 73) (.pointer (some ⟨pb, 2, none⟩)))
          (fun y w' => Ps2 w00 w' pb { st with es := st.es ++ [⟨za, zo⟩] } ∧ Fr pb w w') ?_ ?_
        · rintro ⟨y1, y2⟩ w4 ⟨hp4, hf4⟩
          simp only [Act.put, List.setIfInBounds_toArray, List.set_cons_succ, List.set_cons_zero]
          have HP4 := Lib.hid hp4; have HF4 := Lib.hid hf4
          clear hp4 hf4
          go_wp2
          go_ret
          rw [HX.out]
          exact ⟨⟨rfl, HP4.out⟩, HF4.out⟩
        · clear p2' c0 c1
          refine wpAnyC_next [13] (by kernel_rfl) (by simp) (.inr (onlyC (Only.refl S w3).drew)) ?_
          simp only [List.mem_cons, List.not_mem_nil, or_false, forall_eq]
          refine wpOp_one rfl ?_
          go_wp2
          simp only [nrm]
          refine allocd_abs (G := wpAnyC _ _ _ _ _ _ _ _ _) ?_
          intro w5 hn5 ho5 hs5
          have M5 := Lib.hid hn5; have o35 := Lib.hid ho5; have oA5 := Lib.hid (O3.out.nil_trans ho5)
          clear hn5 hs5 ho5
          refine wpAnyC_next [14] (by kernel_rfl) (by simp) (.inr (onlyC (o35.out.mono (by simp)))) ?_
          simp only [List.mem_cons, List.not_mem_nil, or_false, forall_eq]
          refine wpOp_one rfl ?_
          refine wpList_append_one (w0 := w00) rfl _ _ 22 rfl 42 (.agg #[.int .i64 0, .int .i64 0]) 2 16 Tryz.underlying22 (by kernel_rfl) rfl (by decide) leC leC_len leC_one st.es v rfl (HOW.out.kept oA5.out) w3.heap.size ⟨za, zo⟩ rfl (fun j u hj => ?_) (by simp [maxLen]; omega) (by omega) (HON.out.nil_trans oA5.out) ?_
          · rw [cell_got M5.out]
            rw [← hj]; simp [leC]
          · intro v' w6 hown6 ho06 ho56
            rw [← HS'.out] at ho56
            obtain ⟨p6, cap6, hv6, _⟩ := hown6.vrow leC_len
            generalize hn6 : (st.es ++ [(⟨za, zo⟩ : Le)]).length = n6 at hv6
            clear hn6
            subst hv6
            have W6 := Lib.hid hown6; have O06 := Lib.hid ho06; have o36 := Lib.hid ((o35.out.mono (S' := S) (by simp)).trans ho56 (fun x h => .inl h))
            clear hown6 ho06 ho56
            simp only [wpList, nrm]
            refine wpAnyC_next [15] (by kernel_rfl) (by simp) (.inr (onlyC o36.out)) ?_
            simp only [List.mem_cons, List.not_mem_nil, or_false, forall_eq]
            refine wpOp_one rfl ?_
            go_wp2
            simp only [nrm]
            refine wpAnyC_next [16] (by kernel_rfl) (by simp) (.inr (onlyC o36.out)) ?_
            simp only [List.mem_cons, List.not_mem_nil, or_false, forall_eq]
            refine wpOp_one rfl ?_
            go_wp2
            simp only [nrm]
            refine wpAnyC_next [17] (by kernel_rfl) (by simp) (.inr (onlyC o36.out)) ?_
            simp only [List.mem_cons, List.not_mem_nil, or_false, forall_eq]
            refine wpOp_one rfl ?_
            go_wp2
            simp only [nrm]
            refine wpAnyC_next [18] (by kernel_rfl) (by simp) (.inr (onlyC o36.out)) ?_
            simp only [List.mem_cons, List.not_mem_nil, or_false, forall_eq]
            refine wpOp_one rfl ?_
            have BP6 := Lib.hid (o36.out.got BP.out np)
            have lp6 := got_lt BP6.out
            have qq2 := cell_got BP6.out 2; have fq2 := frozen_got BP6.out 2
            go_wp2
            simp only [nrm]
            refine wpAnyC_done (by kernel_rfl) (.inl (late_of (by kernel_rfl))) ⟨(w3.heap.size, .slice p6 n6 cap6), rfl, ⟨.slice p6 n6 cap6, ?_, ?_, ?_⟩, ?_⟩
            · exact setCell_got _ BP6.out
            · rcases W6.out with h | ⟨g', cap', h1, h2, h3⟩
              · exact .inl h
              · refine .inr ⟨g', cap', h1, h2, h3.kept ((Only.refl [pb] w6).setCell (.inl (by simp)) _) ?_⟩
                intro hm
                obtain rfl : g' = pb := by simpa using hm
                obtain ⟨cur, hg, _⟩ := h3
                rw [BP6.out] at hg
                cases hg
            · exact O06.out.setCell (.inr hpb) _
            · refine ⟨pb :: S, ?_, ?_⟩
              · exact ((O3.out.mono (S' := pb :: S) (by simp)).trans o36.out (fun x h => .inl (by simp [h]))).setCell (.inl (by simp)) _
              · intro k hk
                rcases List.mem_cons.1 hk with h | h
                · exact .inl h
                · exact .inr (HSG.out k h).2.2
      · have q8 : ((ns.length : Int) != 2) = true := by simp; omega
        have q9 : ((ns.length : Int) == 2) = false := by simp; omega
        have HX : Hid (rdO st L = none) := Lib.hid (by
          rw [HRE.out]
          rcases ns with _ | ⟨a, _ | ⟨b, _ | ⟨c, r⟩⟩⟩
          · simp at hnl; omega
          · rfl
          · exact absurd rfl h2
          · rfl)
        have ON := Lib.hid (by obtain ⟨_, _, _, h⟩ := HP.out; exact h : Only [] w00 w)
        obtain ⟨pn, capn, rfl, _⟩ := Own.vrow (enc := fun z : Int => [Value.int .i64 z]) (s := 1) (fun _ => rfl) hrow
        clear h2 hrow hnl HRE
        go_wp2
        go_ret
        rw [HX.out]
        exact ⟨⟨rfl, ON.out.nil_trans O3.out⟩, Fr.nil O3.out⟩
set_option maxRecDepth 100000 in
set_option maxHeartbeats 4000000 in
theorem rln_a (X : ByteArray) (L : List UInt8) (w : World) {w00 : World} (pb : Nat) (st : PSt) (HP : Hid (Ps2 w00 w pb st)) (hpb : w00.heap.size ≤ pb) (hn : st.es.length ≤ 100000) (CX : ByteArray) (CH : List UInt8) (HBF : Hid (Calls Tryz.prog 51 #[.string X] w fun e w' => e = .returned (.string CX) ∧ w = w')) (HFI : Hid (Calls Tryz.prog 50 #[.string CX] w fun e w' => ∃ v, e = .returned v ∧ Own strC 9 1 w.heap.size w' v (wds [] CH) ∧ Only [] w w')) (HWL : Hid ((wds [] CH).length ≤ 100001)) (HML : Hid (∀ x ∈ wds [] CH, x.length ≤ 1000000)) (HRD : Hid (rdO st L = entR st (numsO (wds [] CH)))) (n2 : 2 < X.size) (b0 : (((X[0]'(by omega)).toNat : Int) == 35) = false) :
    Calls Tryz.prog 35 #[.pointer (some ⟨pb, 0, none⟩), .string X] w fun e w' => RdV2 w00 w pb (rdO st L) e w' := by
  have z0 : (0 : Int) < (X.size : Int) := by omega
  have z1 : (1 : Int) < (X.size : Int) := by omega
  have z2 : (2 : Int) < (X.size : Int) := by omega
  have z3 : decide ((X.size : Int) > 2) = true := by simp; omega
  have z5 : decide (2 < (X.size : Int)) = true := by simp; omega
  go_enter Tryz.func35, Tryz.ntmps35
  go_wp2_with fail
  refine HBF.out.mono ?_
  rintro e w' ⟨rfl, rfl⟩
  go_wp2_with fail
  refine HFI.out.mono ?_
  rintro e w2 ⟨v2, rfl, hown2, ho2⟩
  obtain ⟨p2, cap2, rfl, hv2⟩ := hown2.vrow strC_len
  have O2 := Lib.hid ho2; have V2 := Lib.hid hv2
  clear hown2 ho2 hv2
  by_cases hw0 : (wds [] CH).length = 0
  · have q7 : (((wds [] CH).length : Int) == 0) = true := by rw [hw0]; rfl
    have hX : rdO st L = some st := by rw [HRD.out, List.length_eq_zero_iff.1 hw0]; rfl
    have HX := Lib.hid hX
    clear hX
    obtain ⟨v, hb, how, hon⟩ := HP.out
    have hP2 : Ps2 w00 w2 pb st := ⟨v, O2.out.got hb (by simp), how.kept O2.out, hon.nil_trans O2.out⟩
    have HP2 := Lib.hid hP2
    clear hb how hon hP2
    go_wp2
    go_ret
    rw [HX.out]
    exact ⟨⟨rfl, HP2.out⟩, Fr.nil O2.out⟩
  · have q7 : (((wds [] CH).length : Int) == 0) = false := by rw [beq_eq_false_iff_ne]; omega
    have hnu := rnumbers V2.out (by have := HWL.out; omega) HML.out
    have HNU := Lib.hid hnu
    clear hnu
    go_wp2_with fail
    refine HNU.out.mono ?_
    rintro e w3 ⟨hv3, ho3⟩
    have O3 := Lib.hid (O2.out.nil_trans ho3)
    clear ho3 HNU
    cases hq : numsO (wds [] CH) with
    | none =>
      rw [hq] at hv3
      obtain rfl : e = _ := hv3
      have HX : Hid (rdO st L = none) := Lib.hid (by rw [HRD.out, hq]; rfl)
      have ON := Lib.hid (by obtain ⟨_, _, _, h⟩ := HP.out; exact h : Only [] w00 w)
      clear hq
      go_wp2
      go_ret
      rw [HX.out]
      exact ⟨⟨rfl, ON.out.nil_trans O3.out⟩, Fr.nil O3.out⟩
    | some ns =>
      rw [hq] at hv3
      obtain ⟨vv, rfl, hrow⟩ := hv3
      have hnl := numsO_len hq
      have hRD : rdO st L = entR st (some ns) := by rw [HRD.out, hq]
      have HRE := Lib.hid hRD
      clear hRD hq
      by_cases h2 : ns.length = 2
      · obtain ⟨za, zo, rfl⟩ : ∃ a o, ns = [a, o] := by
          rcases ns with _ | ⟨a, _ | ⟨b, _ | ⟨c, r⟩⟩⟩
          · cases h2
          · cases h2
          · exact ⟨a, b, rfl⟩
          · simp at h2
        have HX : Hid (rdO st L = some { st with es := st.es ++ [⟨za, zo⟩] }) := HRE
        clear HRE h2 hnl
        obtain ⟨bn, capn, rfl, hbn, hra⟩ : ∃ g cap, vv = .slice (some ⟨g, 0, none⟩) 2 cap ∧ w2.heap.size ≤ g ∧ RowAt (fun z : Int => [Value.int .i64 z]) 3 1 w3 g cap [za, zo] := by
          rcases hrow with ⟨_, h⟩ | ⟨g, cap, h1, h2, h3⟩
          · cases h
          · exact ⟨g, cap, h1, h2, h3⟩
        have c0 : w3.cell? ⟨bn, 0, none⟩ = some (.int .i64 za) := by
          have := RowAt.cell (enc := fun z : Int => [Value.int .i64 z]) (s := 1) (l := [za, zo]) (x := za) (i := 0) (j := 0) (fun _ => rfl) hra rfl (by decide)
          simpa using this
        have c1 : w3.cell? ⟨bn, 1, none⟩ = some (.int .i64 zo) := by
          have := RowAt.cell (enc := fun z : Int => [Value.int .i64 z]) (s := 1) (l := [za, zo]) (x := zo) (i := 1) (j := 0) (fun _ => rfl) hra rfl (by decide)
          simpa using this
        have lbn := hra.lt
        clear hrow hra
        obtain ⟨v, hbk, hown, hon⟩ := HP.out
        have HBK := Lib.hid hbk; have HOW := Lib.hid hown; have HON := Lib.hid hon
        have lw := got_lt hbk
        clear hbk hown hon
        have BP := Lib.hid (O3.out.got HBK.out (by simp))
        have lp3 := got_lt BP.out
        have p2' := cell_got BP.out 2
        have fp2 := frozen_got BP.out 2
        obtain ⟨S, hS⟩ : ∃ S, S = v.ownBlock.toList := ⟨_, rfl⟩
        have hSg : ∀ k ∈ S, w00.heap.size ≤ k ∧ k < w.heap.size ∧ ∃ c, w.heap[k]? = some (.cells c 42 (0, 0)) := by
          intro k hk
          rw [hS] at hk
          rcases HOW.out with ⟨rfl, _⟩ | ⟨g', cap', rfl, h2, h3⟩
          · simp [Value.ownBlock] at hk
          · obtain rfl : k = g' := by simpa [Value.ownBlock] using hk
            obtain ⟨cur, hc, _⟩ := h3
            exact ⟨h2, got_lt hc, cur, hc⟩
        have np : pb ∉ S := fun hm => by
          obtain ⟨_, _, c, hc⟩ := hSg pb hm
          rw [HBK.out] at hc; cases hc
        have nn : bn ∉ S := fun hm => by
          have := (hSg bn hm).2.1
          have h2 := O2.out.size
          omega
        have HSG := Lib.hid hSg; have HS' := Lib.hid hS
        clear hSg hS lw hbn
        obtain ⟨pv, capv, hvv, _⟩ := HOW.out.vrow leC_len
        have HVV := Lib.hid hvv
        clear hvv
        go_wp2_with fail
        refine wp_region_calm2 [0, 1, 2, 3, 4, 5, 6, 7, 8, 9, 10, 11, 12] [15, 16, 17, 18] (OnlyC S w3) (by kernel_rfl) (by kernel_rfl) ?_
        simp only [pick, List.map_cons, List.map_nil, List.getD_cons_succ, List.getD_cons_zero]
        iterate 13 (refine wpCalm_step (fun K hK => ?_); go_simp; refine hK _ ?_; clear hK K)
        refine wpCalm_nil ?_
        refine Rest.by (X := Nat × Value) (fun y a => ((((a.put (some 69) (.slice (some ⟨y.1, 0, none⟩) 1 1)).put (some 70) y.2).put (some 71) (.pointer (some ⟨pb, 0, none⟩))).put (some 72) (.pointer (some ⟨pb, 0, none⟩))).put (some 73) (.pointer (some ⟨pb, 2, none⟩)))
          (fun y w' => Ps2 w00 w' pb { st with es := st.es ++ [⟨za, zo⟩] } ∧ Fr pb w w') ?_ ?_
        · rintro ⟨y1, y2⟩ w4 ⟨hp4, hf4⟩
          simp only [Act.put, List.setIfInBounds_toArray, List.set_cons_succ, List.set_cons_zero]
          have HP4 := Lib.hid hp4; have HF4 := Lib.hid hf4
          clear hp4 hf4
          go_wp2
          go_ret
          rw [HX.out]
          exact ⟨⟨rfl, HP4.out⟩, HF4.out⟩
        · clear p2' c0 c1
          refine wpAnyC_next [13] (by kernel_rfl) (by simp) (.inr (onlyC (Only.refl S w3).drew)) ?_
          simp only [List.mem_cons, List.not_mem_nil, or_false, forall_eq]
          refine wpOp_one rfl ?_
          go_wp2
          simp only [nrm]
          refine allocd_abs (G := wpAnyC _ _ _ _ _ _ _ _ _) ?_
          intro w5 hn5 ho5 hs5
          have M5 := Lib.hid hn5; have o35 := Lib.hid ho5; have oA5 := Lib.hid (O3.out.nil_trans ho5)
          clear hn5 hs5 ho5
          refine wpAnyC_next [14] (by kernel_rfl) (by simp) (.inr (onlyC (o35.out.mono (by simp)))) ?_
          simp only [List.mem_cons, List.not_mem_nil, or_false, forall_eq]
          refine wpOp_one rfl ?_
          refine wpList_append_one (w0 := w00) rfl _ _ 22 rfl 42 (.agg #[.int .i64 0, .int .i64 0]) 2 16 Tryz.underlying22 (by kernel_rfl) rfl (by decide) leC leC_len leC_one st.es v rfl (HOW.out.kept oA5.out) w3.heap.size ⟨za, zo⟩ rfl (fun j u hj => ?_) (by simp [maxLen]; omega) (by omega) (HON.out.nil_trans oA5.out) ?_
          · rw [cell_got M5.out]
            rw [← hj]; simp [leC]
          · intro v' w6 hown6 ho06 ho56
            rw [← HS'.out] at ho56
            obtain ⟨p6, cap6, hv6, _⟩ := hown6.vrow leC_len
            generalize hn6 : (st.es ++ [(⟨za, zo⟩ : Le)]).length = n6 at hv6
            clear hn6
            subst hv6
            have W6 := Lib.hid hown6; have O06 := Lib.hid ho06; have o36 := Lib.hid ((o35.out.mono (S' := S) (by simp)).trans ho56 (fun x h => .inl h))
            clear hown6 ho06 ho56
            simp only [wpList, nrm]
            refine wpAnyC_next [15] (by kernel_rfl) (by simp) (.inr (onlyC o36.out)) ?_
            simp only [List.mem_cons, List.not_mem_nil, or_false, forall_eq]
            refine wpOp_one rfl ?_
            go_wp2
            simp only [nrm]
            refine wpAnyC_next [16] (by kernel_rfl) (by simp) (.inr (onlyC o36.out)) ?_
            simp only [List.mem_cons, List.not_mem_nil, or_false, forall_eq]
            refine wpOp_one rfl ?_
            go_wp2
            simp only [nrm]
            refine wpAnyC_next [17] (by kernel_rfl) (by simp) (.inr (onlyC o36.out)) ?_
            simp only [List.mem_cons, List.not_mem_nil, or_false, forall_eq]
            refine wpOp_one rfl ?_
            go_wp2
            simp only [nrm]
            refine wpAnyC_next [18] (by kernel_rfl) (by simp) (.inr (onlyC o36.out)) ?_
            simp only [List.mem_cons, List.not_mem_nil, or_false, forall_eq]
            refine wpOp_one rfl ?_
            have BP6 := Lib.hid (o36.out.got BP.out np)
            have lp6 := got_lt BP6.out
            have qq2 := cell_got BP6.out 2; have fq2 := frozen_got BP6.out 2
            go_wp2
            simp only [nrm]
            refine wpAnyC_done (by kernel_rfl) (.inl (late_of (by kernel_rfl))) ⟨(w3.heap.size, .slice p6 n6 cap6), rfl, ⟨.slice p6 n6 cap6, ?_, ?_, ?_⟩, ?_⟩
            · exact setCell_got _ BP6.out
            · rcases W6.out with h | ⟨g', cap', h1, h2, h3⟩
              · exact .inl h
              · refine .inr ⟨g', cap', h1, h2, h3.kept ((Only.refl [pb] w6).setCell (.inl (by simp)) _) ?_⟩
                intro hm
                obtain rfl : g' = pb := by simpa using hm
                obtain ⟨cur, hg, _⟩ := h3
                rw [BP6.out] at hg
                cases hg
            · exact O06.out.setCell (.inr hpb) _
            · refine ⟨pb :: S, ?_, ?_⟩
              · exact ((O3.out.mono (S' := pb :: S) (by simp)).trans o36.out (fun x h => .inl (by simp [h]))).setCell (.inl (by simp)) _
              · intro k hk
                rcases List.mem_cons.1 hk with h | h
                · exact .inl h
                · exact .inr (HSG.out k h).2.2
      · have q8 : ((ns.length : Int) != 2) = true := by simp; omega
        have q9 : ((ns.length : Int) == 2) = false := by simp; omega
        have HX : Hid (rdO st L = none) := Lib.hid (by
          rw [HRE.out]
          rcases ns with _ | ⟨a, _ | ⟨b, _ | ⟨c, r⟩⟩⟩
          · simp at hnl; omega
          · rfl
          · exact absurd rfl h2
          · rfl)
        have ON := Lib.hid (by obtain ⟨_, _, _, h⟩ := HP.out; exact h : Only [] w00 w)
        obtain ⟨pn, capn, rfl, _⟩ := Own.vrow (enc := fun z : Int => [Value.int .i64 z]) (s := 1) (fun _ => rfl) hrow
        clear h2 hrow hnl HRE
        go_wp2
        go_ret
        rw [HX.out]
        exact ⟨⟨rfl, ON.out.nil_trans O3.out⟩, Fr.nil O3.out⟩
set_option maxRecDepth 100000 in
set_option maxHeartbeats 4000000 in
theorem rln_b (X : ByteArray) (L : List UInt8) (w : World) {w00 : World} (pb : Nat) (st : PSt) (HP : Hid (Ps2 w00 w pb st)) (hpb : w00.heap.size ≤ pb) (hn : st.es.length ≤ 100000) (CX : ByteArray) (CH : List UInt8) (HBF : Hid (Calls Tryz.prog 51 #[.string X] w fun e w' => e = .returned (.string CX) ∧ w = w')) (HFI : Hid (Calls Tryz.prog 50 #[.string CX] w fun e w' => ∃ v, e = .returned v ∧ Own strC 9 1 w.heap.size w' v (wds [] CH) ∧ Only [] w w')) (HWL : Hid ((wds [] CH).length ≤ 100001)) (HML : Hid (∀ x ∈ wds [] CH, x.length ≤ 1000000)) (HRD : Hid (rdO st L = entR st (numsO (wds [] CH)))) (n2 : 2 < X.size) (b0 : (((X[0]'(by omega)).toNat : Int) == 35) = true) (b1 : (((X[1]'(by omega)).toNat : Int) == 64) = false) (b2 : (((X[1]'(by omega)).toNat : Int) == 61) = false) :
    Calls Tryz.prog 35 #[.pointer (some ⟨pb, 0, none⟩), .string X] w fun e w' => RdV2 w00 w pb (rdO st L) e w' := by
  have z0 : (0 : Int) < (X.size : Int) := by omega
  have z1 : (1 : Int) < (X.size : Int) := by omega
  have z2 : (2 : Int) < (X.size : Int) := by omega
  have z3 : decide ((X.size : Int) > 2) = true := by simp; omega
  have z5 : decide (2 < (X.size : Int)) = true := by simp; omega
  go_enter Tryz.func35, Tryz.ntmps35
  go_wp2_with fail
  refine HBF.out.mono ?_
  rintro e w' ⟨rfl, rfl⟩
  go_wp2_with fail
  refine HFI.out.mono ?_
  rintro e w2 ⟨v2, rfl, hown2, ho2⟩
  obtain ⟨p2, cap2, rfl, hv2⟩ := hown2.vrow strC_len
  have O2 := Lib.hid ho2; have V2 := Lib.hid hv2
  clear hown2 ho2 hv2
  by_cases hw0 : (wds [] CH).length = 0
  · have q7 : (((wds [] CH).length : Int) == 0) = true := by rw [hw0]; rfl
    have hX : rdO st L = some st := by rw [HRD.out, List.length_eq_zero_iff.1 hw0]; rfl
    have HX := Lib.hid hX
    clear hX
    obtain ⟨v, hb, how, hon⟩ := HP.out
    have hP2 : Ps2 w00 w2 pb st := ⟨v, O2.out.got hb (by simp), how.kept O2.out, hon.nil_trans O2.out⟩
    have HP2 := Lib.hid hP2
    clear hb how hon hP2
    go_wp2
    go_ret
    rw [HX.out]
    exact ⟨⟨rfl, HP2.out⟩, Fr.nil O2.out⟩
  · have q7 : (((wds [] CH).length : Int) == 0) = false := by rw [beq_eq_false_iff_ne]; omega
    have hnu := rnumbers V2.out (by have := HWL.out; omega) HML.out
    have HNU := Lib.hid hnu
    clear hnu
    go_wp2_with fail
    refine HNU.out.mono ?_
    rintro e w3 ⟨hv3, ho3⟩
    have O3 := Lib.hid (O2.out.nil_trans ho3)
    clear ho3 HNU
    cases hq : numsO (wds [] CH) with
    | none =>
      rw [hq] at hv3
      obtain rfl : e = _ := hv3
      have HX : Hid (rdO st L = none) := Lib.hid (by rw [HRD.out, hq]; rfl)
      have ON := Lib.hid (by obtain ⟨_, _, _, h⟩ := HP.out; exact h : Only [] w00 w)
      clear hq
      go_wp2
      go_ret
      rw [HX.out]
      exact ⟨⟨rfl, ON.out.nil_trans O3.out⟩, Fr.nil O3.out⟩
    | some ns =>
      rw [hq] at hv3
      obtain ⟨vv, rfl, hrow⟩ := hv3
      have hnl := numsO_len hq
      have hRD : rdO st L = entR st (some ns) := by rw [HRD.out, hq]
      have HRE := Lib.hid hRD
      clear hRD hq
      by_cases h2 : ns.length = 2
      · obtain ⟨za, zo, rfl⟩ : ∃ a o, ns = [a, o] := by
          rcases ns with _ | ⟨a, _ | ⟨b, _ | ⟨c, r⟩⟩⟩
          · cases h2
          · cases h2
          · exact ⟨a, b, rfl⟩
          · simp at h2
        have HX : Hid (rdO st L = some { st with es := st.es ++ [⟨za, zo⟩] }) := HRE
        clear HRE h2 hnl
        obtain ⟨bn, capn, rfl, hbn, hra⟩ : ∃ g cap, vv = .slice (some ⟨g, 0, none⟩) 2 cap ∧ w2.heap.size ≤ g ∧ RowAt (fun z : Int => [Value.int .i64 z]) 3 1 w3 g cap [za, zo] := by
          rcases hrow with ⟨_, h⟩ | ⟨g, cap, h1, h2, h3⟩
          · cases h
          · exact ⟨g, cap, h1, h2, h3⟩
        have c0 : w3.cell? ⟨bn, 0, none⟩ = some (.int .i64 za) := by
          have := RowAt.cell (enc := fun z : Int => [Value.int .i64 z]) (s := 1) (l := [za, zo]) (x := za) (i := 0) (j := 0) (fun _ => rfl) hra rfl (by decide)
          simpa using this
        have c1 : w3.cell? ⟨bn, 1, none⟩ = some (.int .i64 zo) := by
          have := RowAt.cell (enc := fun z : Int => [Value.int .i64 z]) (s := 1) (l := [za, zo]) (x := zo) (i := 1) (j := 0) (fun _ => rfl) hra rfl (by decide)
          simpa using this
        have lbn := hra.lt
        clear hrow hra
        obtain ⟨v, hbk, hown, hon⟩ := HP.out
        have HBK := Lib.hid hbk; have HOW := Lib.hid hown; have HON := Lib.hid hon
        have lw := got_lt hbk
        clear hbk hown hon
        have BP := Lib.hid (O3.out.got HBK.out (by simp))
        have lp3 := got_lt BP.out
        have p2' := cell_got BP.out 2
        have fp2 := frozen_got BP.out 2
        obtain ⟨S, hS⟩ : ∃ S, S = v.ownBlock.toList := ⟨_, rfl⟩
        have hSg : ∀ k ∈ S, w00.heap.size ≤ k ∧ k < w.heap.size ∧ ∃ c, w.heap[k]? = some (.cells c 42 (0, 0)) := by
          intro k hk
          rw [hS] at hk
          rcases HOW.out with ⟨rfl, _⟩ | ⟨g', cap', rfl, h2, h3⟩
          · simp [Value.ownBlock] at hk
          · obtain rfl : k = g' := by simpa [Value.ownBlock] using hk
            obtain ⟨cur, hc, _⟩ := h3
            exact ⟨h2, got_lt hc, cur, hc⟩
        have np : pb ∉ S := fun hm => by
          obtain ⟨_, _, c, hc⟩ := hSg pb hm
          rw [HBK.out] at hc; cases hc
        have nn : bn ∉ S := fun hm => by
          have := (hSg bn hm).2.1
          have h2 := O2.out.size
          omega
        have HSG := Lib.hid hSg; have HS' := Lib.hid hS
        clear hSg hS lw hbn
        obtain ⟨pv, capv, hvv, _⟩ := HOW.out.vrow leC_len
        have HVV := Lib.hid hvv
        clear hvv
        go_wp2_with fail
        refine wp_region_calm2 [0, 1, 2, 3, 4, 5, 6, 7, 8, 9, 10, 11, 12] [15, 16, 17, 18] (OnlyC S w3) (by kernel_rfl) (by kernel_rfl) ?_
        simp only [pick, List.map_cons, List.map_nil, List.getD_cons_succ, List.getD_cons_zero]
        iterate 13 (refine wpCalm_step (fun K hK => ?_); go_simp; refine hK _ ?_; clear hK K)
        refine wpCalm_nil ?_
        refine Rest.by (X := Nat × Value) (fun y a => ((((a.put (some 69) (.slice (some ⟨y.1, 0, none⟩) 1 1)).put (some 70) y.2).put (some 71) (.pointer (some ⟨pb, 0, none⟩))).put (some 72) (.pointer (some ⟨pb, 0, none⟩))).put (some 73) (.pointer (some ⟨pb, 2, none⟩)))
          (fun y w' => Ps2 w00 w' pb { st with es := st.es ++ [⟨za, zo⟩] } ∧ Fr pb w w') ?_ ?_
        · rintro ⟨y1, y2⟩ w4 ⟨hp4, hf4⟩
          simp only [Act.put, List.setIfInBounds_toArray, List.set_cons_succ, List.set_cons_zero]
          have HP4 := Lib.hid hp4; have HF4 := Lib.hid hf4
          clear hp4 hf4
          go_wp2
          go_ret
          rw [HX.out]
          exact ⟨⟨rfl, HP4.out⟩, HF4.out⟩
        · clear p2' c0 c1
          refine wpAnyC_next [13] (by kernel_rfl) (by simp) (.inr (onlyC (Only.refl S w3).drew)) ?_
          simp only [List.mem_cons, List.not_mem_nil, or_false, forall_eq]
          refine wpOp_one rfl ?_
          go_wp2
          simp only [nrm]
          refine allocd_abs (G := wpAnyC _ _ _ _ _ _ _ _ _) ?_
          intro w5 hn5 ho5 hs5
          have M5 := Lib.hid hn5; have o35 := Lib.hid ho5; have oA5 := Lib.hid (O3.out.nil_trans ho5)
          clear hn5 hs5 ho5
          refine wpAnyC_next [14] (by kernel_rfl) (by simp) (.inr (onlyC (o35.out.mono (by simp)))) ?_
          simp only [List.mem_cons, List.not_mem_nil, or_false, forall_eq]
          refine wpOp_one rfl ?_
          refine wpList_append_one (w0 := w00) rfl _ _ 22 rfl 42 (.agg #[.int .i64 0, .int .i64 0]) 2 16 Tryz.underlying22 (by kernel_rfl) rfl (by decide) leC leC_len leC_one st.es v rfl (HOW.out.kept oA5.out) w3.heap.size ⟨za, zo⟩ rfl (fun j u hj => ?_) (by simp [maxLen]; omega) (by omega) (HON.out.nil_trans oA5.out) ?_
          · rw [cell_got M5.out]
            rw [← hj]; simp [leC]
          · intro v' w6 hown6 ho06 ho56
            rw [← HS'.out] at ho56
            obtain ⟨p6, cap6, hv6, _⟩ := hown6.vrow leC_len
            generalize hn6 : (st.es ++ [(⟨za, zo⟩ : Le)]).length = n6 at hv6
            clear hn6
            subst hv6
            have W6 := Lib.hid hown6; have O06 := Lib.hid ho06; have o36 := Lib.hid ((o35.out.mono (S' := S) (by simp)).trans ho56 (fun x h => .inl h))
            clear hown6 ho06 ho56
            simp only [wpList, nrm]
            refine wpAnyC_next [15] (by kernel_rfl) (by simp) (.inr (onlyC o36.out)) ?_
            simp only [List.mem_cons, List.not_mem_nil, or_false, forall_eq]
            refine wpOp_one rfl ?_
            go_wp2
            simp only [nrm]
            refine wpAnyC_next [16] (by kernel_rfl) (by simp) (.inr (onlyC o36.out)) ?_
            simp only [List.mem_cons, List.not_mem_nil, or_false, forall_eq]
            refine wpOp_one rfl ?_
            go_wp2
            simp only [nrm]
            refine wpAnyC_next [17] (by kernel_rfl) (by simp) (.inr (onlyC o36.out)) ?_
            simp only [List.mem_cons, List.not_mem_nil, or_false, forall_eq]
            refine wpOp_one rfl ?_
            go_wp2
            simp only [nrm]
            refine wpAnyC_next [18] (by kernel_rfl) (by simp) (.inr (onlyC o36.out)) ?_
            simp only [List.mem_cons, List.not_mem_nil, or_false, forall_eq]
            refine wpOp_one rfl ?_
            have BP6 := Lib.hid (o36.out.got BP.out np)
            have lp6 := got_lt BP6.out
            have qq2 := cell_got BP6.out 2; have fq2 := frozen_got BP6.out 2
            go_wp2
            simp only [nrm]
            refine wpAnyC_done (by kernel_rfl) (.inl (late_of (by kernel_rfl))) ⟨(w3.heap.size, .slice p6 n6 cap6), rfl, ⟨.slice p6 n6 cap6, ?_, ?_, ?_⟩, ?_⟩
            · exact setCell_got _ BP6.out
            · rcases W6.out with h | ⟨g', cap', h1, h2, h3⟩
              · exact .inl h
              · refine .inr ⟨g', cap', h1, h2, h3.kept ((Only.refl [pb] w6).setCell (.inl (by simp)) _) ?_⟩
                intro hm
                obtain rfl : g' = pb := by simpa using hm
                obtain ⟨cur, hg, _⟩ := h3
                rw [BP6.out] at hg
                cases hg
            · exact O06.out.setCell (.inr hpb) _
            · refine ⟨pb :: S, ?_, ?_⟩
              · exact ((O3.out.mono (S' := pb :: S) (by simp)).trans o36.out (fun x h => .inl (by simp [h]))).setCell (.inl (by simp)) _
              · intro k hk
                rcases List.mem_cons.1 hk with h | h
                · exact .inl h
                · exact .inr (HSG.out k h).2.2
      · have q8 : ((ns.length : Int) != 2) = true := by simp; omega
        have q9 : ((ns.length : Int) == 2) = false := by simp; omega
        have HX : Hid (rdO st L = none) := Lib.hid (by
          rw [HRE.out]
          rcases ns with _ | ⟨a, _ | ⟨b, _ | ⟨c, r⟩⟩⟩
          · simp at hnl; omega
          · rfl
          · exact absurd rfl h2
          · rfl)
        have ON := Lib.hid (by obtain ⟨_, _, _, h⟩ := HP.out; exact h : Only [] w00 w)
        obtain ⟨pn, capn, rfl, _⟩ := Own.vrow (enc := fun z : Int => [Value.int .i64 z]) (s := 1) (fun _ => rfl) hrow
        clear h2 hrow hnl HRE
        go_wp2
        go_ret
        rw [HX.out]
        exact ⟨⟨rfl, ON.out.nil_trans O3.out⟩, Fr.nil O3.out⟩
set_option maxRecDepth 100000 in
set_option maxHeartbeats 4000000 in
theorem rln_c (X : ByteArray) (L : List UInt8) (w : World) {w00 : World} (pb : Nat) (st : PSt) (HP : Hid (Ps2 w00 w pb st)) (hpb : w00.heap.size ≤ pb) (hn : st.es.length ≤ 100000) (CX : ByteArray) (CH : List UInt8) (HBF : Hid (Calls Tryz.prog 51 #[.string X] w fun e w' => e = .returned (.string CX) ∧ w = w')) (HFI : Hid (Calls Tryz.prog 50 #[.string CX] w fun e w' => ∃ v, e = .returned v ∧ Own strC 9 1 w.heap.size w' v (wds [] CH) ∧ Only [] w w')) (HWL : Hid ((wds [] CH).length ≤ 100001)) (HML : Hid (∀ x ∈ wds [] CH, x.length ≤ 1000000)) (HRD : Hid (rdO st L = entR st (numsO (wds [] CH)))) (n2 : 2 < X.size) (b0 : (((X[0]'(by omega)).toNat : Int) == 35) = true) (b1 : (((X[1]'(by omega)).toNat : Int) == 64) = true) (hbk : Calls Tryz.prog 48 #[.int .u8 ((X[2]'(by omega)).toNat : Int)] w fun e w' => e = .returned (.bool false) ∧ w = w') :
    Calls Tryz.prog 35 #[.pointer (some ⟨pb, 0, none⟩), .string X] w fun e w' => RdV2 w00 w pb (rdO st L) e w' := by
  have z0 : (0 : Int) < (X.size : Int) := by omega
  have z1 : (1 : Int) < (X.size : Int) := by omega
  have z2 : (2 : Int) < (X.size : Int) := by omega
  have z3 : decide ((X.size : Int) > 2) = true := by simp; omega
  have z5 : decide (2 < (X.size : Int)) = true := by simp; omega
  have HBK := Lib.hid hbk
  clear hbk
  go_enter Tryz.func35, Tryz.ntmps35
  go_wp2_with fail
  refine HBK.out.mono ?_
  rintro e w' ⟨rfl, rfl⟩
  go_wp2_with fail
  refine HBF.out.mono ?_
  rintro e w' ⟨rfl, rfl⟩
  go_wp2_with fail
  refine HFI.out.mono ?_
  rintro e w2 ⟨v2, rfl, hown2, ho2⟩
  obtain ⟨p2, cap2, rfl, hv2⟩ := hown2.vrow strC_len
  have O2 := Lib.hid ho2; have V2 := Lib.hid hv2
  clear hown2 ho2 hv2
  by_cases hw0 : (wds [] CH).length = 0
  · have q7 : (((wds [] CH).length : Int) == 0) = true := by rw [hw0]; rfl
    have hX : rdO st L = some st := by rw [HRD.out, List.length_eq_zero_iff.1 hw0]; rfl
    have HX := Lib.hid hX
    clear hX
    obtain ⟨v, hb, how, hon⟩ := HP.out
    have hP2 : Ps2 w00 w2 pb st := ⟨v, O2.out.got hb (by simp), how.kept O2.out, hon.nil_trans O2.out⟩
    have HP2 := Lib.hid hP2
    clear hb how hon hP2
    go_wp2
    go_ret
    rw [HX.out]
    exact ⟨⟨rfl, HP2.out⟩, Fr.nil O2.out⟩
  · have q7 : (((wds [] CH).length : Int) == 0) = false := by rw [beq_eq_false_iff_ne]; omega
    have hnu := rnumbers V2.out (by have := HWL.out; omega) HML.out
    have HNU := Lib.hid hnu
    clear hnu
    go_wp2_with fail
    refine HNU.out.mono ?_
    rintro e w3 ⟨hv3, ho3⟩
    have O3 := Lib.hid (O2.out.nil_trans ho3)
    clear ho3 HNU
    cases hq : numsO (wds [] CH) with
    | none =>
      rw [hq] at hv3
      obtain rfl : e = _ := hv3
      have HX : Hid (rdO st L = none) := Lib.hid (by rw [HRD.out, hq]; rfl)
      have ON := Lib.hid (by obtain ⟨_, _, _, h⟩ := HP.out; exact h : Only [] w00 w)
      clear hq
      go_wp2
      go_ret
      rw [HX.out]
      exact ⟨⟨rfl, ON.out.nil_trans O3.out⟩, Fr.nil O3.out⟩
    | some ns =>
      rw [hq] at hv3
      obtain ⟨vv, rfl, hrow⟩ := hv3
      have hnl := numsO_len hq
      have hRD : rdO st L = entR st (some ns) := by rw [HRD.out, hq]
      have HRE := Lib.hid hRD
      clear hRD hq
      by_cases h2 : ns.length = 2
      · obtain ⟨za, zo, rfl⟩ : ∃ a o, ns = [a, o] := by
          rcases ns with _ | ⟨a, _ | ⟨b, _ | ⟨c, r⟩⟩⟩
          · cases h2
          · cases h2
          · exact ⟨a, b, rfl⟩
          · simp at h2
        have HX : Hid (rdO st L = some { st with es := st.es ++ [⟨za, zo⟩] }) := HRE
        clear HRE h2 hnl
        obtain ⟨bn, capn, rfl, hbn, hra⟩ : ∃ g cap, vv = .slice (some ⟨g, 0, none⟩) 2 cap ∧ w2.heap.size ≤ g ∧ RowAt (fun z : Int => [Value.int .i64 z]) 3 1 w3 g cap [za, zo] := by
          rcases hrow with ⟨_, h⟩ | ⟨g, cap, h1, h2, h3⟩
          · cases h
          · exact ⟨g, cap, h1, h2, h3⟩
        have c0 : w3.cell? ⟨bn, 0, none⟩ = some (.int .i64 za) := by
          have := RowAt.cell (enc := fun z : Int => [Value.int .i64 z]) (s := 1) (l := [za, zo]) (x := za) (i := 0) (j := 0) (fun _ => rfl) hra rfl (by decide)
          simpa using this
        have c1 : w3.cell? ⟨bn, 1, none⟩ = some (.int .i64 zo) := by
          have := RowAt.cell (enc := fun z : Int => [Value.int .i64 z]) (s := 1) (l := [za, zo]) (x := zo) (i := 1) (j := 0) (fun _ => rfl) hra rfl (by decide)
          simpa using this
        have lbn := hra.lt
        clear hrow hra
        obtain ⟨v, hbk, hown, hon⟩ := HP.out
        have HBK := Lib.hid hbk; have HOW := Lib.hid hown; have HON := Lib.hid hon
        have lw := got_lt hbk
        clear hbk hown hon
        have BP := Lib.hid (O3.out.got HBK.out (by simp))
        have lp3 := got_lt BP.out
        have p2' := cell_got BP.out 2
        have fp2 := frozen_got BP.out 2
        obtain ⟨S, hS⟩ : ∃ S, S = v.ownBlock.toList := ⟨_, rfl⟩
        have hSg : ∀ k ∈ S, w00.heap.size ≤ k ∧ k < w.heap.size ∧ ∃ c, w.heap[k]? = some (.cells c 42 (0, 0)) := by
          intro k hk
          rw [hS] at hk
          rcases HOW.out with ⟨rfl, _⟩ | ⟨g', cap', rfl, h2, h3⟩
          · simp [Value.ownBlock] at hk
          · obtain rfl : k = g' := by simpa [Value.ownBlock] using hk
            obtain ⟨cur, hc, _⟩ := h3
            exact ⟨h2, got_lt hc, cur, hc⟩
        have np : pb ∉ S := fun hm => by
          obtain ⟨_, _, c, hc⟩ := hSg pb hm
          rw [HBK.out] at hc; cases hc
        have nn : bn ∉ S := fun hm => by
          have := (hSg bn hm).2.1
          have h2 := O2.out.size
          omega
        have HSG := Lib.hid hSg; have HS' := Lib.hid hS
        clear hSg hS lw hbn
        obtain ⟨pv, capv, hvv, _⟩ := HOW.out.vrow leC_len
        have HVV := Lib.hid hvv
        clear hvv
        go_wp2_with fail
        refine wp_region_calm2 [0, 1, 2, 3, 4, 5, 6, 7, 8, 9, 10, 11, 12] [15, 16, 17, 18] (OnlyC S w3) (by kernel_rfl) (by kernel_rfl) ?_
        simp only [pick, List.map_cons, List.map_nil, List.getD_cons_succ, List.getD_cons_zero]
        iterate 13 (refine wpCalm_step (fun K hK => ?_); go_simp; refine hK _ ?_; clear hK K)
        refine wpCalm_nil ?_
        refine Rest.by (X := Nat × Value) (fun y a => ((((a.put (some 69) (.slice (some ⟨y.1, 0, none⟩) 1 1)).put (some 70) y.2).put (some 71) (.pointer (some ⟨pb, 0, none⟩))).put (some 72) (.pointer (some ⟨pb, 0, none⟩))).put (some 73) (.pointer (some ⟨pb, 2, none⟩)))
          (fun y w' => Ps2 w00 w' pb { st with es := st.es ++ [⟨za, zo⟩] } ∧ Fr pb w w') ?_ ?_
        · rintro ⟨y1, y2⟩ w4 ⟨hp4, hf4⟩
          simp only [Act.put, List.setIfInBounds_toArray, List.set_cons_succ, List.set_cons_zero]
          have HP4 := Lib.hid hp4; have HF4 := Lib.hid hf4
          clear hp4 hf4
          go_wp2
          go_ret
          rw [HX.out]
          exact ⟨⟨rfl, HP4.out⟩, HF4.out⟩
        · clear p2' c0 c1
          refine wpAnyC_next [13] (by kernel_rfl) (by simp) (.inr (onlyC (Only.refl S w3).drew)) ?_
          simp only [List.mem_cons, List.not_mem_nil, or_false, forall_eq]
          refine wpOp_one rfl ?_
          go_wp2
          simp only [nrm]
          refine allocd_abs (G := wpAnyC _ _ _ _ _ _ _ _ _) ?_
          intro w5 hn5 ho5 hs5
          have M5 := Lib.hid hn5; have o35 := Lib.hid ho5; have oA5 := Lib.hid (O3.out.nil_trans ho5)
          clear hn5 hs5 ho5
          refine wpAnyC_next [14] (by kernel_rfl) (by simp) (.inr (onlyC (o35.out.mono (by simp)))) ?_
          simp only [List.mem_cons, List.not_mem_nil, or_false, forall_eq]
          refine wpOp_one rfl ?_
          refine wpList_append_one (w0 := w00) rfl _ _ 22 rfl 42 (.agg #[.int .i64 0, .int .i64 0]) 2 16 Tryz.underlying22 (by kernel_rfl) rfl (by decide) leC leC_len leC_one st.es v rfl (HOW.out.kept oA5.out) w3.heap.size ⟨za, zo⟩ rfl (fun j u hj => ?_) (by simp [maxLen]; omega) (by omega) (HON.out.nil_trans oA5.out) ?_
          · rw [cell_got M5.out]
            rw [← hj]; simp [leC]
          · intro v' w6 hown6 ho06 ho56
            rw [← HS'.out] at ho56
            obtain ⟨p6, cap6, hv6, _⟩ := hown6.vrow leC_len
            generalize hn6 : (st.es ++ [(⟨za, zo⟩ : Le)]).length = n6 at hv6
            clear hn6
            subst hv6
            have W6 := Lib.hid hown6; have O06 := Lib.hid ho06; have o36 := Lib.hid ((o35.out.mono (S' := S) (by simp)).trans ho56 (fun x h => .inl h))
            clear hown6 ho06 ho56
            simp only [wpList, nrm]
            refine wpAnyC_next [15] (by kernel_rfl) (by simp) (.inr (onlyC o36.out)) ?_
            simp only [List.mem_cons, List.not_mem_nil, or_false, forall_eq]
            refine wpOp_one rfl ?_
            go_wp2
            simp only [nrm]
            refine wpAnyC_next [16] (by kernel_rfl) (by simp) (.inr (onlyC o36.out)) ?_
            simp only [List.mem_cons, List.not_mem_nil, or_false, forall_eq]
            refine wpOp_one rfl ?_
            go_wp2
            simp only [nrm]
            refine wpAnyC_next [17] (by kernel_rfl) (by simp) (.inr (onlyC o36.out)) ?_
            simp only [List.mem_cons, List.not_mem_nil, or_false, forall_eq]
            refine wpOp_one rfl ?_
            go_wp2
            simp only [nrm]
            refine wpAnyC_next [18] (by kernel_rfl) (by simp) (.inr (onlyC o36.out)) ?_
            simp only [List.mem_cons, List.not_mem_nil, or_false, forall_eq]
            refine wpOp_one rfl ?_
            have BP6 := Lib.hid (o36.out.got BP.out np)
            have lp6 := got_lt BP6.out
            have qq2 := cell_got BP6.out 2; have fq2 := frozen_got BP6.out 2
            go_wp2
            simp only [nrm]
            refine wpAnyC_done (by kernel_rfl) (.inl (late_of (by kernel_rfl))) ⟨(w3.heap.size, .slice p6 n6 cap6), rfl, ⟨.slice p6 n6 cap6, ?_, ?_, ?_⟩, ?_⟩
            · exact setCell_got _ BP6.out
            · rcases W6.out with h | ⟨g', cap', h1, h2, h3⟩
              · exact .inl h
              · refine .inr ⟨g', cap', h1, h2, h3.kept ((Only.refl [pb] w6).setCell (.inl (by simp)) _) ?_⟩
                intro hm
                obtain rfl : g' = pb := by simpa using hm
                obtain ⟨cur, hg, _⟩ := h3
                rw [BP6.out] at hg
                cases hg
            · exact O06.out.setCell (.inr hpb) _
            · refine ⟨pb :: S, ?_, ?_⟩
              · exact ((O3.out.mono (S' := pb :: S) (by simp)).trans o36.out (fun x h => .inl (by simp [h]))).setCell (.inl (by simp)) _
              · intro k hk
                rcases List.mem_cons.1 hk with h | h
                · exact .inl h
                · exact .inr (HSG.out k h).2.2
      · have q8 : ((ns.length : Int) != 2) = true := by simp; omega
        have q9 : ((ns.length : Int) == 2) = false := by simp; omega
        have HX : Hid (rdO st L = none) := Lib.hid (by
          rw [HRE.out]
          rcases ns with _ | ⟨a, _ | ⟨b, _ | ⟨c, r⟩⟩⟩
          · simp at hnl; omega
          · rfl
          · exact absurd rfl h2
          · rfl)
        have ON := Lib.hid (by obtain ⟨_, _, _, h⟩ := HP.out; exact h : Only [] w00 w)
        obtain ⟨pn, capn, rfl, _⟩ := Own.vrow (enc := fun z : Int => [Value.int .i64 z]) (s := 1) (fun _ => rfl) hrow
        clear h2 hrow hnl HRE
        go_wp2
        go_ret
        rw [HX.out]
        exact ⟨⟨rfl, ON.out.nil_trans O3.out⟩, Fr.nil O3.out⟩
set_option maxRecDepth 100000 in
set_option maxHeartbeats 4000000 in
theorem rln_d (X : ByteArray) (L : List UInt8) (w : World) {w00 : World} (pb : Nat) (st : PSt) (HP : Hid (Ps2 w00 w pb st)) (hpb : w00.heap.size ≤ pb) (hn : st.es.length ≤ 100000) (CX : ByteArray) (CH : List UInt8) (HBF : Hid (Calls Tryz.prog 51 #[.string X] w fun e w' => e = .returned (.string CX) ∧ w = w')) (HFI : Hid (Calls Tryz.prog 50 #[.string CX] w fun e w' => ∃ v, e = .returned v ∧ Own strC 9 1 w.heap.size w' v (wds [] CH) ∧ Only [] w w')) (HWL : Hid ((wds [] CH).length ≤ 100001)) (HML : Hid (∀ x ∈ wds [] CH, x.length ≤ 1000000)) (HRD : Hid (rdO st L = entR st (numsO (wds [] CH)))) (n2 : 2 < X.size) (b0 : (((X[0]'(by omega)).toNat : Int) == 35) = true) (b1 : (((X[1]'(by omega)).toNat : Int) == 64) = false) (b2 : (((X[1]'(by omega)).toNat : Int) == 61) = true) (hbk : Calls Tryz.prog 48 #[.int .u8 ((X[2]'(by omega)).toNat : Int)] w fun e w' => e = .returned (.bool false) ∧ w = w') :
    Calls Tryz.prog 35 #[.pointer (some ⟨pb, 0, none⟩), .string X] w fun e w' => RdV2 w00 w pb (rdO st L) e w' := by
  have z0 : (0 : Int) < (X.size : Int) := by omega
  have z1 : (1 : Int) < (X.size : Int) := by omega
  have z2 : (2 : Int) < (X.size : Int) := by omega
  have z3 : decide ((X.size : Int) > 2) = true := by simp; omega
  have z5 : decide (2 < (X.size : Int)) = true := by simp; omega
  have HBK := Lib.hid hbk
  clear hbk
  go_enter Tryz.func35, Tryz.ntmps35
  go_wp2_with fail
  refine HBK.out.mono ?_
  rintro e w' ⟨rfl, rfl⟩
  go_wp2_with fail
  refine HBF.out.mono ?_
  rintro e w' ⟨rfl, rfl⟩
  go_wp2_with fail
  refine HFI.out.mono ?_
  rintro e w2 ⟨v2, rfl, hown2, ho2⟩
  obtain ⟨p2, cap2, rfl, hv2⟩ := hown2.vrow strC_len
  have O2 := Lib.hid ho2; have V2 := Lib.hid hv2
  clear hown2 ho2 hv2
  by_cases hw0 : (wds [] CH).length = 0
  · have q7 : (((wds [] CH).length : Int) == 0) = true := by rw [hw0]; rfl
    have hX : rdO st L = some st := by rw [HRD.out, List.length_eq_zero_iff.1 hw0]; rfl
    have HX := Lib.hid hX
    clear hX
    obtain ⟨v, hb, how, hon⟩ := HP.out
    have hP2 : Ps2 w00 w2 pb st := ⟨v, O2.out.got hb (by simp), how.kept O2.out, hon.nil_trans O2.out⟩
    have HP2 := Lib.hid hP2
    clear hb how hon hP2
    go_wp2
    go_ret
    rw [HX.out]
    exact ⟨⟨rfl, HP2.out⟩, Fr.nil O2.out⟩
  · have q7 : (((wds [] CH).length : Int) == 0) = false := by rw [beq_eq_false_iff_ne]; omega
    have hnu := rnumbers V2.out (by have := HWL.out; omega) HML.out
    have HNU := Lib.hid hnu
    clear hnu
    go_wp2_with fail
    refine HNU.out.mono ?_
    rintro e w3 ⟨hv3, ho3⟩
    have O3 := Lib.hid (O2.out.nil_trans ho3)
    clear ho3 HNU
    cases hq : numsO (wds [] CH) with
    | none =>
      rw [hq] at hv3
      obtain rfl : e = _ := hv3
      have HX : Hid (rdO st L = none) := Lib.hid (by rw [HRD.out, hq]; rfl)
      have ON := Lib.hid (by obtain ⟨_, _, _, h⟩ := HP.out; exact h : Only [] w00 w)
      clear hq
      go_wp2
      go_ret
      rw [HX.out]
      exact ⟨⟨rfl, ON.out.nil_trans O3.out⟩, Fr.nil O3.out⟩
    | some ns =>
      rw [hq] at hv3
      obtain ⟨vv, rfl, hrow⟩ := hv3
      have hnl := numsO_len hq
      have hRD : rdO st L = entR st (some ns) := by rw [HRD.out, hq]
      have HRE := Lib.hid hRD
      clear hRD hq
      by_cases h2 : ns.length = 2
      · obtain ⟨za, zo, rfl⟩ : ∃ a o, ns = [a, o] := by
          rcases ns with _ | ⟨a, _ | ⟨b, _ | ⟨c, r⟩⟩⟩
          · cases h2
          · cases h2
          · exact ⟨a, b, rfl⟩
          · simp at h2
        have HX : Hid (rdO st L = some { st with es := st.es ++ [⟨za, zo⟩] }) := HRE
        clear HRE h2 hnl
        obtain ⟨bn, capn, rfl, hbn, hra⟩ : ∃ g cap, vv = .slice (some ⟨g, 0, none⟩) 2 cap ∧ w2.heap.size ≤ g ∧ RowAt (fun z : Int => [Value.int .i64 z]) 3 1 w3 g cap [za, zo] := by
          rcases hrow with ⟨_, h⟩ | ⟨g, cap, h1, h2, h3⟩
          · cases h
          · exact ⟨g, cap, h1, h2, h3⟩
        have c0 : w3.cell? ⟨bn, 0, none⟩ = some (.int .i64 za) := by
          have := RowAt.cell (enc := fun z : Int => [Value.int .i64 z]) (s := 1) (l := [za, zo]) (x := za) (i := 0) (j := 0) (fun _ => rfl) hra rfl (by decide)
          simpa using this
        have c1 : w3.cell? ⟨bn, 1, none⟩ = some (.int .i64 zo) := by
          have := RowAt.cell (enc := fun z : Int => [Value.int .i64 z]) (s := 1) (l := [za, zo]) (x := zo) (i := 1) (j := 0) (fun _ => rfl) hra rfl (by decide)
          simpa using this
        have lbn := hra.lt
        clear hrow hra
        obtain ⟨v, hbk, hown, hon⟩ := HP.out
        have HBK := Lib.hid hbk; have HOW := Lib.hid hown; have HON := Lib.hid hon
        have lw := got_lt hbk
        clear hbk hown hon
        have BP := Lib.hid (O3.out.got HBK.out (by simp))
        have lp3 := got_lt BP.out
        have p2' := cell_got BP.out 2
        have fp2 := frozen_got BP.out 2
        obtain ⟨S, hS⟩ : ∃ S, S = v.ownBlock.toList := ⟨_, rfl⟩
        have hSg : ∀ k ∈ S, w00.heap.size ≤ k ∧ k < w.heap.size ∧ ∃ c, w.heap[k]? = some (.cells c 42 (0, 0)) := by
          intro k hk
          rw [hS] at hk
          rcases HOW.out with ⟨rfl, _⟩ | ⟨g', cap', rfl, h2, h3⟩
          · simp [Value.ownBlock] at hk
          · obtain rfl : k = g' := by simpa [Value.ownBlock] using hk
            obtain ⟨cur, hc, _⟩ := h3
            exact ⟨h2, got_lt hc, cur, hc⟩
        have np : pb ∉ S := fun hm => by
          obtain ⟨_, _, c, hc⟩ := hSg pb hm
          rw [HBK.out] at hc; cases hc
        have nn : bn ∉ S := fun hm => by
          have := (hSg bn hm).2.1
          have h2 := O2.out.size
          omega
        have HSG := Lib.hid hSg; have HS' := Lib.hid hS
        clear hSg hS lw hbn
        obtain ⟨pv, capv, hvv, _⟩ := HOW.out.vrow leC_len
        have HVV := Lib.hid hvv
        clear hvv
        go_wp2_with fail
        refine wp_region_calm2 [0, 1, 2, 3, 4, 5, 6, 7, 8, 9, 10, 11, 12] [15, 16, 17, 18] (OnlyC S w3) (by kernel_rfl) (by kernel_rfl) ?_
        simp only [pick, List.map_cons, List.map_nil, List.getD_cons_succ, List.getD_cons_zero]
        iterate 13 (refine wpCalm_step (fun K hK => ?_); go_simp; refine hK _ ?_; clear hK K)
        refine wpCalm_nil ?_
        refine Rest.by (X := Nat × Value) (fun y a => ((((a.put (some 69) (.slice (some ⟨y.1, 0, none⟩) 1 1)).put (some 70) y.2).put (some 71) (.pointer (some ⟨pb, 0, none⟩))).put (some 72) (.pointer (some ⟨pb, 0, none⟩))).put (some 73) (.pointer (some ⟨pb, 2, none⟩)))
          (fun y w' => Ps2 w00 w' pb { st with es := st.es ++ [⟨za, zo⟩] } ∧ Fr pb w w') ?_ ?_
        · rintro ⟨y1, y2⟩ w4 ⟨hp4, hf4⟩
          simp only [Act.put, List.setIfInBounds_toArray, List.set_cons_succ, List.set_cons_zero]
          have HP4 := Lib.hid hp4; have HF4 := Lib.hid hf4
          clear hp4 hf4
          go_wp2
          go_ret
          rw [HX.out]
          exact ⟨⟨rfl, HP4.out⟩, HF4.out⟩
        · clear p2' c0 c1
          refine wpAnyC_next [13] (by kernel_rfl) (by simp) (.inr (onlyC (Only.refl S w3).drew)) ?_
          simp only [List.mem_cons, List.not_mem_nil, or_false, forall_eq]
          refine wpOp_one rfl ?_
          go_wp2
          simp only [nrm]
          refine allocd_abs (G := wpAnyC _ _ _ _ _ _ _ _ _) ?_
          intro w5 hn5 ho5 hs5
          have M5 := Lib.hid hn5; have o35 := Lib.hid ho5; have oA5 := Lib.hid (O3.out.nil_trans ho5)
          clear hn5 hs5 ho5
          refine wpAnyC_next [14] (by kernel_rfl) (by simp) (.inr (onlyC (o35.out.mono (by simp)))) ?_
          simp only [List.mem_cons, List.not_mem_nil, or_false, forall_eq]
          refine wpOp_one rfl ?_
          refine wpList_append_one (w0 := w00) rfl _ _ 22 rfl 42 (.agg #[.int .i64 0, .int .i64 0]) 2 16 Tryz.underlying22 (by kernel_rfl) rfl (by decide) leC leC_len leC_one st.es v rfl (HOW.out.kept oA5.out) w3.heap.size ⟨za, zo⟩ rfl (fun j u hj => ?_) (by simp [maxLen]; omega) (by omega) (HON.out.nil_trans oA5.out) ?_
          · rw [cell_got M5.out]
            rw [← hj]; simp [leC]
          · intro v' w6 hown6 ho06 ho56
            rw [← HS'.out] at ho56
            obtain ⟨p6, cap6, hv6, _⟩ := hown6.vrow leC_len
            generalize hn6 : (st.es ++ [(⟨za, zo⟩ : Le)]).length = n6 at hv6
            clear hn6
            subst hv6
            have W6 := Lib.hid hown6; have O06 := Lib.hid ho06; have o36 := Lib.hid ((o35.out.mono (S' := S) (by simp)).trans ho56 (fun x h => .inl h))
            clear hown6 ho06 ho56
            simp only [wpList, nrm]
            refine wpAnyC_next [15] (by kernel_rfl) (by simp) (.inr (onlyC o36.out)) ?_
            simp only [List.mem_cons, List.not_mem_nil, or_false, forall_eq]
            refine wpOp_one rfl ?_
            go_wp2
            simp only [nrm]
            refine wpAnyC_next [16] (by kernel_rfl) (by simp) (.inr (onlyC o36.out)) ?_
            simp only [List.mem_cons, List.not_mem_nil, or_false, forall_eq]
            refine wpOp_one rfl ?_
            go_wp2
            simp only [nrm]
            refine wpAnyC_next [17] (by kernel_rfl) (by simp) (.inr (onlyC o36.out)) ?_
            simp only [List.mem_cons, List.not_mem_nil, or_false, forall_eq]
            refine wpOp_one rfl ?_
            go_wp2
            simp only [nrm]
            refine wpAnyC_next [18] (by kernel_rfl) (by simp) (.inr (onlyC o36.out)) ?_
            simp only [List.mem_cons, List.not_mem_nil, or_false, forall_eq]
            refine wpOp_one rfl ?_
            have BP6 := Lib.hid (o36.out.got BP.out np)
            have lp6 := got_lt BP6.out
            have qq2 := cell_got BP6.out 2; have fq2 := frozen_got BP6.out 2
            go_wp2
            simp only [nrm]
            refine wpAnyC_done (by kernel_rfl) (.inl (late_of (by kernel_rfl))) ⟨(w3.heap.size, .slice p6 n6 cap6), rfl, ⟨.slice p6 n6 cap6, ?_, ?_, ?_⟩, ?_⟩
            · exact setCell_got _ BP6.out
            · rcases W6.out with h | ⟨g', cap', h1, h2, h3⟩
              · exact .inl h
              · refine .inr ⟨g', cap', h1, h2, h3.kept ((Only.refl [pb] w6).setCell (.inl (by simp)) _) ?_⟩
                intro hm
                obtain rfl : g' = pb := by simpa using hm
                obtain ⟨cur, hg, _⟩ := h3
                rw [BP6.out] at hg
                cases hg
            · exact O06.out.setCell (.inr hpb) _
            · refine ⟨pb :: S, ?_, ?_⟩
              · exact ((O3.out.mono (S' := pb :: S) (by simp)).trans o36.out (fun x h => .inl (by simp [h]))).setCell (.inl (by simp)) _
              · intro k hk
                rcases List.mem_cons.1 hk with h | h
                · exact .inl h
                · exact .inr (HSG.out k h).2.2
      · have q8 : ((ns.length : Int) != 2) = true := by simp; omega
        have q9 : ((ns.length : Int) == 2) = false := by simp; omega
        have HX : Hid (rdO st L = none) := Lib.hid (by
          rw [HRE.out]
          rcases ns with _ | ⟨a, _ | ⟨b, _ | ⟨c, r⟩⟩⟩
          · simp at hnl; omega
          · rfl
          · exact absurd rfl h2
          · rfl)
        have ON := Lib.hid (by obtain ⟨_, _, _, h⟩ := HP.out; exact h : Only [] w00 w)
        obtain ⟨pn, capn, rfl, _⟩ := Own.vrow (enc := fun z : Int => [Value.int .i64 z]) (s := 1) (fun _ => rfl) hrow
        clear h2 hrow hnl HRE
        go_wp2
        go_ret
        rw [HX.out]
        exact ⟨⟨rfl, ON.out.nil_trans O3.out⟩, Fr.nil O3.out⟩
theorem rline (X : ByteArray) (L : List UInt8) (hL : X.data.toList = L) (hs : X.size ≤ 100000) {w00 w : World} (pb : Nat) (st : PSt) (hp : Ps2 w00 w pb st) (hpb : w00.heap.size ≤ pb) (hn : st.es.length ≤ 100000) :
    Calls Tryz.prog 35 #[.pointer (some ⟨pb, 0, none⟩), .string X] w fun e w' => RdV2 w00 w pb (rdO st L) e w' := by
  cases q0 : spcB 64 L with
  | true => exact rline_x X L hL hs pb st hp hpb q0
  | false =>
    cases q1 : spcB 61 L with
    | true => exact rline_b X L hL hs pb st hp hpb q1 q0
    | false =>
      have hsz : X.size = L.length := by rw [← hL, Array.length_toList]; rfl
      have hcl := cutH_len L
      have hBF := rbefore X L hL hs w
      have hFI := rfields (bstr (cutH L)) (cutH L) rfl (by rw [bstr_size]; omega) w
      have hWL : (wds [] (cutH L)).length ≤ 100001 := by have := wds_len (cutH L) []; omega
      have hML : ∀ x ∈ wds [] (cutH L), x.length ≤ 1000000 := fun x hx => by have := wds_mem hx; simp at this; omega
      have hRD : rdO st L = entR st (numsO (wds [] (cutH L))) := by unfold rdO; rw [if_neg (by simp [q0]), if_neg (by simp [q1])]
      have HP := Lib.hid hp; have HBF := Lib.hid hBF; have HFI := Lib.hid hFI; have HWL := Lib.hid hWL; have HML := Lib.hid hML; have HRD := Lib.hid hRD
      by_cases h3 : X.size ≤ 2
      · exact rln_short X L w pb st HP hpb hn _ _ HBF HFI HWL HML HRD h3
      · rcases L with _ | ⟨a, _ | ⟨b, _ | ⟨d, r⟩⟩⟩
        · simp only [List.length_nil] at hsz; omega
        · simp only [List.length_cons, List.length_nil] at hsz; omega
        · simp only [List.length_cons, List.length_nil] at hsz; omega
        · have n2 : 2 < X.size := by omega
          have x0 : X[0]'(by omega) = a := by
            have := Array.getElem_toList (xs := X.data) (i := 0) (by show 0 < X.size; omega)
            simp only [hL] at this; exact this.symm
          have x1 : X[1]'(by omega) = b := by
            have := Array.getElem_toList (xs := X.data) (i := 1) (by show 1 < X.size; omega)
            simp only [hL] at this; exact this.symm
          have x2 : X[2]'(by omega) = d := by
            have := Array.getElem_toList (xs := X.data) (i := 2) (by show 2 < X.size; omega)
            simp only [hL] at this; exact this.symm
          have ua := u8_beq a 35
          have ub := u8_beq b 64
          have uc := u8_beq b 61
          rw [show ((35 : UInt8).toNat : Int) = 35 from rfl] at ua
          rw [show ((64 : UInt8).toNat : Int) = 64 from rfl] at ub
          rw [show ((61 : UInt8).toNat : Int) = 61 from rfl] at uc
          have hbk := rblank d w
          cases ha : (a == 35) with
          | false => exact rln_a X _ w pb st HP hpb hn _ _ HBF HFI HWL HML HRD n2 (by rw [x0, ← ua]; exact ha)
          | true =>
            cases hb : (b == 64) with
            | true =>
              have hd : blk d = false := by simpa [spcB, ha, hb] using q0
              rw [hd] at hbk
              exact rln_c X _ w pb st HP hpb hn _ _ HBF HFI HWL HML HRD n2 (by rw [x0, ← ua]; exact ha) (by rw [x1, ← ub]; exact hb) (by rw [x2]; exact hbk)
            | false =>
              cases hc : (b == 61) with
              | true =>
                have hd : blk d = false := by simpa [spcB, ha, hc] using q1
                rw [hd] at hbk
                exact rln_d X _ w pb st HP hpb hn _ _ HBF HFI HWL HML HRD n2 (by rw [x0, ← ua]; exact ha) (by rw [x1, ← ub]; exact hb) (by rw [x1, ← uc]; exact hc) (by rw [x2]; exact hbk)
              | false => exact rln_b X _ w pb st HP hpb hn _ _ HBF HFI HWL HML HRD n2 (by rw [x0, ← ua]; exact ha) (by rw [x1, ← ub]; exact hb) (by rw [x1, ← uc]; exact hc)
end Go.Proofs.YtnfejojakikeeaaGreatDoor
