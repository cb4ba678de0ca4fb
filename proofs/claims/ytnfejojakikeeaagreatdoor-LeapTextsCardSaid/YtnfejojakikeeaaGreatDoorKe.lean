/- read of package leap's parser, lines of numbers. Conditions: the library's variables are laid; the lengths. -/
import Derived.Test.YtnfejojakikeeaaGreatDoorKd
import Derived.Test.YtnfejojakikeeaaGreatDoorCalm
namespace Go.Proofs.YtnfejojakikeeaaGreatDoor
open Go.RowKit

theorem cutH_len (L : List UInt8) : (cutH L).length ≤ L.length := by
  unfold cutH Lib.cut
  split
  · simp only [List.length_take]; omega
  · exact Nat.le_refl _
set_option maxRecDepth 100000 in
set_option maxHeartbeats 2000000 in
theorem kread3 (X : ByteArray) (L : List UInt8) (hL : X.data.toList = L) (hs : X.size ≤ 1000000) {w00 w : World} (he : Env w00) (pb : Nat) (st : PSt) (hp : Ps w00 w pb st) (hpb : w00.heap.size ≤ pb) (hn : st.es.length ≤ 100000) (q1 : spcB 64 L = false) (q2 : spcB 61 L = false) :
    Calls Tryz.prog 34 #[.pointer (some ⟨pb, 0, none⟩), .string X] w fun e w' => RdV w00 w pb (rdO st L) e w' := by
  have HP := Lib.hid hp; have HE := Lib.hid he
  have h64 := kspecial 64 X L hL hs w
  have h61 := kspecial 61 X L hL hs w
  rw [show (((64 : UInt8).toNat : Nat) : Int) = 64 from rfl] at h64
  rw [show (((61 : UInt8).toNat : Nat) : Int) = 61 from rfl] at h61
  have hsz : X.size = L.length := by rw [← hL, Array.length_toList]; rfl
  obtain ⟨v, hbk, hown, hon⟩ := hp
  have HBK := Lib.hid hbk; have HOW := Lib.hid hown; have HON := Lib.hid hon
  have lp := got_lt hbk
  clear hbk hown hon he
  go_enter Tryz.func34, Tryz.ntmps34
  rw [q1] at h64
  have HS := Lib.hid h64
  clear h64
  rw [q2] at h61
  have HS2 := Lib.hid h61
  have HR : Hid (rdO st L = entR st (numsO (wds [] (cutH L)))) := Lib.hid (by unfold rdO; rw [if_neg (by simp [q1]), if_neg (by simp [q2])])
  clear h61 q1 q2
  have hcut := cut_any 35 X w hs (HE.out.kept HON.out)
  rw [hL] at hcut
  have hcl : (cutH L).length ≤ 1000000 := by have := cutH_len L; omega
  obtain ⟨C1, hC1⟩ : ∃ C1, C1 = bstr (cutH L) := ⟨_, rfl⟩
  have hcut2 : Calls Tryz.prog 46 #[.string X, .string ⟨#[35]⟩] w fun e w' => e = .returned (.tuple #[.string C1, .string ⟨(Lib.cut L [35]).2.1.toArray⟩, .bool (Lib.cut L [35]).2.2]) ∧ Only [] w w' := by rw [hC1]; exact hcut
  generalize (⟨(Lib.cut L [35]).2.1.toArray⟩ : ByteArray) = C2 at hcut2
  generalize (Lib.cut L [35]).2.2 = C3 at hcut2
  have HC := Lib.hid hcut2; have HC1 := Lib.hid hC1
  clear hcut hcut2 hC1
  go_wp2_with fail
  refine HS.out.mono ?_
  rintro e w' ⟨rfl, rfl⟩
  go_wp2_with fail
  refine HS2.out.mono ?_
  rintro e w' ⟨rfl, rfl⟩
  go_wp2_with fail
  refine HC.out.mono ?_
  rintro e w1 ⟨rfl, ho1⟩
  have O1 := Lib.hid ho1
  clear ho1 HC
  have HN := Lib.hid (knumbers C1 (cutH L) (by rw [HC1.out]; rfl) (by rw [HC1.out, bstr_size]; exact hcl) w1 (HE.out.kept (HON.out.nil_trans O1.out)))
  go_wp2_with fail
  refine HN.out.mono ?_
  rintro e w2 ⟨hv, hB⟩
  have O2 := Lib.hid (O1.out.nil_trans (only_of_below hB))
  clear hB HN
  have HRR := HR.out
  cases hq : numsO (wds [] (cutH L)) with
  | none =>
    rw [hq] at hv HRR
    obtain rfl : e = _ := hv
    have HX : Hid (rdO st L = none) := Lib.hid HRR
    clear HRR hq HR
    go_wp2
    go_ret
    rw [HX.out]
    exact ⟨⟨rfl, HON.out.nil_trans O2.out⟩, Fr.nil O2.out⟩
  | some ns =>
    rw [hq] at hv HRR
    obtain ⟨vv, rfl, hrow⟩ := hv
    obtain ⟨ao, cap, rfl⟩ : ∃ ao cap, vv = .slice ao ns.length cap := by
      rcases hrow.2 with ⟨hv, h0⟩ | ⟨g, cap, cur, hv, _⟩
      · exact ⟨none, 0, by rw [hv, h0]⟩
      · exact ⟨_, _, hv⟩
    clear hq HR
    by_cases h0 : ns.length = 0
    · obtain rfl : ns = [] := List.length_eq_zero_iff.1 h0
      have HX : Hid (rdO st L = some st) := Lib.hid HRR
      clear HRR h0
      simp only [List.length_nil] at hrow ⊢
      go_wp2
      go_ret
      rw [HX.out]
      exact ⟨⟨rfl, v, O2.out.got HBK.out (by simp), HOW.out.kept O2.out, HON.out.nil_trans O2.out⟩, Fr.nil O2.out⟩
    · have r0 : ((ns.length : Int) == 0) = false := by simp; exact fun h => h0 (by rw [h]; rfl)
      by_cases h2 : ns.length = 2
      · obtain ⟨a, o, rfl⟩ : ∃ a o, ns = [a, o] := by
          rcases ns with _ | ⟨a, _ | ⟨b, _ | ⟨c, r⟩⟩⟩
          · cases h2
          · cases h2
          · exact ⟨a, b, rfl⟩
          · simp at h2
        have HX : Hid (rdO st L = some { st with es := st.es ++ [⟨a, o⟩] }) := Lib.hid HRR
        clear HRR h0 h2
        obtain ⟨g, hg⟩ : ∃ g, ao = some ⟨g, 0, none⟩ := by
          rcases hrow.2 with ⟨hv, h0⟩ | ⟨g, cap', cur, hv, _⟩
          · simp at h0
          · cases hv; exact ⟨g, rfl⟩
        subst hg
        have c0 : w2.cell? ⟨g, 0, none⟩ = some (.int .i64 a) := hrow.cells (g := g) rfl 0 (.int .i64 a) (by simp)
        have c1 : w2.cell? ⟨g, 1, none⟩ = some (.int .i64 o) := hrow.cells (g := g) rfl 1 (.int .i64 o) (by simp)
        have lg : g < w2.heap.size := World.block_lt_of_cell? w2 _ c0
        simp only [List.length_cons, List.length_nil, Nat.zero_add] at hrow ⊢
        clear hrow
        go_wp2_with fail
        refine wp_region_calm2 [0, 1, 2, 3, 4, 5, 6] [8] (OnlyC ([] : List Nat) w2) (by kernel_rfl) (by kernel_rfl) ?_
        simp only [pick, List.map_cons, List.map_nil, List.getD_cons_succ, List.getD_cons_zero]
        iterate 7 (refine wpCalm_step (fun K hK => ?_); go_simp; refine hK _ ?_; clear hK K)
        refine wpCalm_nil ?_
        refine Rest.by (X := Nat) (fun y a => a.put (some 10) (.pointer (some ⟨y, 0, none⟩))) (fun y w' => w'.heap[y]? = some (.cells #[.int .i64 a, .int .i64 o] 42 (0, 0)) ∧ Only [] w2 w' ∧ w2.heap.size ≤ y) ?_ ?_
        · rintro eb w3 ⟨hb3, ho3, hy3⟩
          simp only [Act.put, List.setIfInBounds_toArray, List.set_cons_succ, List.set_cons_zero]
          have B3 := Lib.hid hb3; have O3 := Lib.hid (O2.out.nil_trans ho3); have Y3 := Lib.hid hy3
          clear hb3 ho3 hy3 c0 c1 lg
          have BP := Lib.hid (O3.out.got HBK.out (by simp))
          have lp3 := got_lt BP.out; have le3 := got_lt B3.out
          have p2 := cell_got BP.out 2; have e0 := cell_got B3.out 0; have e1 := cell_got B3.out 1
          have fp2 := frozen_got BP.out 2
          obtain ⟨S, hS⟩ : ∃ S, S = v.ownBlock.toList := ⟨_, rfl⟩
          have hSg : ∀ k ∈ S, w00.heap.size ≤ k ∧ k < w.heap.size ∧ ∃ c, w.heap[k]? = some (.cells c 42 (0, 0)) := by
            intro k hk
            rw [hS] at hk
            rcases HOW.out with ⟨rfl, _⟩ | ⟨g', cap', rfl, h2, h3⟩
            · simp [Value.ownBlock] at hk
            · obtain rfl : k = g' := by simpa [Value.ownBlock] using hk
              obtain ⟨cur, hc, _⟩ := h3
              exact ⟨h2, got_lt hc, cur, hc⟩
          have np : pb ∉ S := fun hm => by
            obtain ⟨_, _, c, hc⟩ := hSg pb hm
            rw [HBK.out] at hc; cases hc
          have ne : eb ∉ S := fun hm => by
            have := (hSg eb hm).2.1
            have h1 := Y3.out; have h2 := O2.out.size
            omega
          have HSG := Lib.hid hSg; have HS' := Lib.hid hS
          clear hSg hS
          go_wp2_with fail
          refine wp_region_calm2 [0, 1, 2, 3, 4, 5, 6] [9, 10, 11, 12] (OnlyC S w3) (by kernel_rfl) (by kernel_rfl) ?_
          simp only [pick, List.map_cons, List.map_nil, List.getD_cons_succ, List.getD_cons_zero]
          iterate 7 (refine wpCalm_step (fun K hK => ?_); go_simp; refine hK _ ?_; clear hK K)
          refine wpCalm_nil ?_
          refine Rest.by (X := Nat × Value) (fun y a => ((((a.put (some 74) (.slice (some ⟨y.1, 0, none⟩) 1 1)).put (some 75) y.2).put (some 76) (.pointer (some ⟨pb, 0, none⟩))).put (some 77) (.pointer (some ⟨pb, 0, none⟩))).put (some 78) (.pointer (some ⟨pb, 2, none⟩)))
            (fun y w' => Ps w00 w' pb { st with es := st.es ++ [⟨a, o⟩] } ∧ Fr pb w w') ?_ ?_
          · rintro ⟨y1, y2⟩ w4 ⟨hp4, hf4⟩
            simp only [Act.put, List.setIfInBounds_toArray, List.set_cons_succ, List.set_cons_zero]
            have HP4 := Lib.hid hp4; have HF4 := Lib.hid hf4
            clear hp4 hf4
            go_wp2
            go_ret
            rw [HX.out]
            exact ⟨⟨rfl, HP4.out⟩, HF4.out⟩
          · clear p2 e0 e1
            refine wpAnyC_next [7] (by kernel_rfl) (by simp) (.inr (onlyC (Only.refl S w3).drew)) ?_
            simp only [List.mem_cons, List.not_mem_nil, or_false, forall_eq]
            refine wpOp_one rfl ?_
            go_wp2
            simp only [nrm]
            refine allocd_abs (G := wpAnyC _ _ _ _ _ _ _ _ _) ?_
            intro w5 hn5 ho5 hs5
            have M5 := Lib.hid hn5; have o35 := Lib.hid ho5; have oA5 := Lib.hid (O3.out.nil_trans ho5)
            clear hn5 hs5 ho5
            refine wpAnyC_next [8] (by kernel_rfl) (by simp) (.inr (onlyC (o35.out.mono (by simp)))) ?_
            simp only [List.mem_cons, List.not_mem_nil, or_false, forall_eq]
            refine wpOp_one rfl ?_
            refine wpList_append_one (w0 := w00) rfl _ _ 22 rfl 42 (.agg #[.int .i64 0, .int .i64 0]) 2 16 Tryz.underlying22 (by kernel_rfl) rfl (by decide) leC leC_len leC_one st.es v rfl (HOW.out.kept oA5.out) w3.heap.size ⟨a, o⟩ rfl (fun j u hj => ?_) (by simp [maxLen]; omega) (by omega) (HON.out.nil_trans oA5.out) ?_
            · rw [cell_got M5.out]
              rw [← hj]; simp [leC]
            · intro v' w6 hown6 ho06 ho56
              rw [← HS'.out] at ho56
              obtain ⟨p6, cap6, hv6, _⟩ := hown6.vrow leC_len
              generalize hn6 : (st.es ++ [(⟨a, o⟩ : Le)]).length = n6 at hv6
              clear hn6
              subst hv6
              have W6 := Lib.hid hown6; have O06 := Lib.hid ho06; have o36 := Lib.hid ((o35.out.mono (S' := S) (by simp)).trans ho56 (fun x h => .inl h))
              clear hown6 ho06 ho56
              simp only [wpList, nrm]
              refine wpAnyC_next [9] (by kernel_rfl) (by simp) (.inr (onlyC o36.out)) ?_
              simp only [List.mem_cons, List.not_mem_nil, or_false, forall_eq]
              refine wpOp_one rfl ?_
              go_wp2
              simp only [nrm]
              refine wpAnyC_next [10] (by kernel_rfl) (by simp) (.inr (onlyC o36.out)) ?_
              simp only [List.mem_cons, List.not_mem_nil, or_false, forall_eq]
              refine wpOp_one rfl ?_
              go_wp2
              simp only [nrm]
              refine wpAnyC_next [11] (by kernel_rfl) (by simp) (.inr (onlyC o36.out)) ?_
              simp only [List.mem_cons, List.not_mem_nil, or_false, forall_eq]
              refine wpOp_one rfl ?_
              go_wp2
              simp only [nrm]
              refine wpAnyC_next [12] (by kernel_rfl) (by simp) (.inr (onlyC o36.out)) ?_
              simp only [List.mem_cons, List.not_mem_nil, or_false, forall_eq]
              refine wpOp_one rfl ?_
              have BP6 := Lib.hid (o36.out.got BP.out np)
              have lp6 := got_lt BP6.out
              have q2 := cell_got BP6.out 2; have fq2 := frozen_got BP6.out 2
              go_wp2
              simp only [nrm]
              refine wpAnyC_done (by kernel_rfl) (.inl (late_of (by kernel_rfl))) ⟨(w3.heap.size, .slice p6 n6 cap6), rfl, ⟨.slice p6 n6 cap6, ?_, ?_, ?_⟩, ?_⟩
              · exact setCell_got _ BP6.out
              · rcases W6.out with h | ⟨g', cap', h1, h2, h3⟩
                · exact .inl h
                · refine .inr ⟨g', cap', h1, h2, h3.kept ((Only.refl [pb] w6).setCell (.inl (by simp)) _) ?_⟩
                  intro hm
                  obtain rfl : g' = pb := by simpa using hm
                  obtain ⟨cur, hg, _⟩ := h3
                  rw [BP6.out] at hg
                  cases hg
              · exact O06.out.setCell (.inr hpb) _
              · refine ⟨pb :: S, ?_, ?_⟩
                · exact ((O3.out.mono (S' := pb :: S) (by simp)).trans o36.out (fun x h => .inl (by simp [h]))).setCell (.inl (by simp)) _
                · intro k hk
                  rcases List.mem_cons.1 hk with h | h
                  · exact .inl h
                  · exact .inr (HSG.out k h).2.2
        · refine wpAnyC_next [7] (by kernel_rfl) (by simp) (.inr (onlyC (Only.refl [] w2).drew)) ?_
          simp only [List.mem_cons, List.not_mem_nil, or_false, forall_eq]
          refine wpOp_one rfl ?_
          go_wp2
          simp only [nrm]
          refine allocd_abs (G := wpAnyC _ _ _ _ _ _ _ _ _) ?_
          intro w5 hn5 ho5 hs5
          have M5 := Lib.hid hn5; have o25 := Lib.hid ho5
          clear hn5 hs5 ho5
          refine wpAnyC_next [8] (by kernel_rfl) (by simp) (.inr (onlyC o25.out)) ?_
          simp only [List.mem_cons, List.not_mem_nil, or_false, forall_eq]
          refine wpOp_one rfl ?_
          have la := got_lt M5.out
          have fa0 := frozen_got M5.out 0; have ca0 := cell_got M5.out 0
          have fa1 := frozen_got M5.out 1; have ca1 := cell_got M5.out 1
          go_wp2
          simp only [nrm]
          clear la fa0 ca0 fa1 ca1
          have o2 : Only [w2.heap.size] w5 ((w5.setCell ⟨w2.heap.size, 0, none⟩ (.int .i64 a)).setCell ⟨w2.heap.size, 1, none⟩ (.int .i64 o)) := ((Only.refl _ w5).setCell (.inl (by simp)) _).setCell (.inl (by simp)) _
          have o3 := o25.out.trans o2 (by simp)
          exact wpAnyC_done (by kernel_rfl) (.inr (onlyC o3)) ⟨w2.heap.size, rfl, setCell_got _ (setCell_got _ M5.out), o3, Nat.le_refl _⟩
      · have r2 : ((ns.length : Int) == 2) = false := by simp; omega
        have HX : Hid (rdO st L = none) := Lib.hid (by
          rw [HRR]
          rcases ns with _ | ⟨a, _ | ⟨b, _ | ⟨c, r⟩⟩⟩
          · exact absurd rfl h0
          · rfl
          · exact absurd rfl h2
          · rfl)
        clear HRR h0 h2
        go_wp2
        go_ret
        rw [HX.out]
        exact ⟨⟨rfl, HON.out.nil_trans O2.out⟩, Fr.nil O2.out⟩
theorem kread (X : ByteArray) (L : List UInt8) (hL : X.data.toList = L) (hs : X.size ≤ 1000000) {w00 w : World} (he : Env w00) (pb : Nat) (st : PSt) (hp : Ps w00 w pb st) (hpb : w00.heap.size ≤ pb) (hn : st.es.length ≤ 100000) :
    Calls Tryz.prog 34 #[.pointer (some ⟨pb, 0, none⟩), .string X] w fun e w' => RdV w00 w pb (rdO st L) e w' := by
  cases q1 : spcB 64 L with
  | true => exact kread1 X L hL hs he pb st hp hpb q1
  | false =>
    cases q2 : spcB 61 L with
    | true => exact kread2 X L hL hs he pb st hp hpb q1 q2
    | false => exact kread3 X L hL hs he pb st hp hpb hn q1 q2
end Go.Proofs.YtnfejojakikeeaaGreatDoor
