/- timesyncref56's state.nodeLine reads the line of a node. Condition: the lengths. -/
import Derived.Test.YthmeifdgkodjlaaGreatDoorUa
namespace Go.Proofs.YthmeifdgkodjlaaGreatDoor
open Go.RowKit
namespace Rf

/-- why a state takes no node -/
theorem at_cases (a : Nat) : (a < 2) ∨ (a = 3) ∨ (5 < a) ∨ (2 ≤ a ∧ a ≠ 3 ∧ a ≤ 5 ∧ (a = 2 ∨ a = 4 ∨ a = 5)) := by omega
set_option maxRecDepth 100000 in
set_option maxHeartbeats 4000000 in
theorem node6 {W0 : Two} {w : World} {b : Nat} {x : SSt} {p : Option Addr} {cap : Nat} {wd i x2 t x4 s : List UInt8} (h : RdX W0 b w x) (hsz : SLe 100000 x) (hv : VRow strC 1 w p 6 cap [wd, i, x2, t, x4, s]) (hl : ∀ y ∈ ([wd, i, x2, t, x4, s] : List (List UInt8)), y.length ≤ 1000000) :
    Calls Tryz.prog 79 #[.pointer (some ⟨b, 0, none⟩), .slice p 6 cap] w fun e' w' => RdR W0 b (rdNode x [i, x2, t, x4, s]) e' w' := by
  obtain ⟨hb0, hb1, ns, ls, vn, vl, vf, hR⟩ := h
  have hxn : x.sc.nd.length = ns.length := by rw [hR.hn, List.length_map]
  have hfl : ns.length ≤ 100000 := by rw [← hxn]; exact hsz.nd
  have HRD : Hid (rdNode x [i, x2, t, x4, s] = if (x.at_ = 2 ∨ x.at_ = 4 ∨ x.at_ = 5) ∧ x2 = wTol ∧ x4 = wStart then (match numsO [i, t, s] with
  | some [a, b, c] => if a = x.sc.nd.length then some (addN x ⟨0, [], b, false, 0, c, []⟩) else none
  | _ => none) else none) := Lib.hid rfl
  generalize rdNode x [i, x2, t, x4, s] = res at HRD ⊢
  have HR := Lib.hid hR; have HV := Lib.hid hv; have H0 := Lib.hid hb0; have H1 := Lib.hid hb1
  have I1 := Lib.hid (fun w' => rInteger (bstr i) w' (by rw [bstr_size]; exact hl i (by simp)))
  have I3 := Lib.hid (fun w' => rInteger (bstr t) w' (by rw [bstr_size]; exact hl t (by simp)))
  have I5 := Lib.hid (fun w' => rInteger (bstr s) w' (by rw [bstr_size]; exact hl s (by simp)))
  simp only [bstr_data] at I1 I3 I5
  obtain ⟨bw, off, hp, _, lw⟩ := VRow.str (l := [wd, i, x2, t, x4, s]) HV.out (Only.refl [] w) (k := 0) (by simp)
  subst hp
  obtain ⟨_, _, hp1, s1, _⟩ := VRow.str (l := [wd, i, x2, t, x4, s]) HV.out (Only.refl [] w) (k := 1) (by simp)
  cases hp1
  have t1 : w.cell? ⟨bw, off + 1, none⟩ = some (.string (bstr i)) := s1
  clear s1
  obtain ⟨_, _, hp2, s2, _⟩ := VRow.str (l := [wd, i, x2, t, x4, s]) HV.out (Only.refl [] w) (k := 2) (by simp)
  cases hp2
  have t2 : w.cell? ⟨bw, off + 2, none⟩ = some (.string (bstr x2)) := s2
  clear s2
  obtain ⟨_, _, hp3, s3, _⟩ := VRow.str (l := [wd, i, x2, t, x4, s]) HV.out (Only.refl [] w) (k := 3) (by simp)
  cases hp3
  have t3 : w.cell? ⟨bw, off + 3, none⟩ = some (.string (bstr t)) := s3
  clear s3
  obtain ⟨_, _, hp4, s4, _⟩ := VRow.str (l := [wd, i, x2, t, x4, s]) HV.out (Only.refl [] w) (k := 4) (by simp)
  cases hp4
  have t4 : w.cell? ⟨bw, off + 4, none⟩ = some (.string (bstr x4)) := s4
  clear s4
  obtain ⟨_, _, hp5, s5, _⟩ := VRow.str (l := [wd, i, x2, t, x4, s]) HV.out (Only.refl [] w) (k := 5) (by simp)
  cases hp5
  have t5 : w.cell? ⟨bw, off + 5, none⟩ = some (.string (bstr s)) := s5
  clear s5
  have HXN := Lib.hid hxn
  have hcap := hv.le
  obtain ⟨pn0, cn0, hvn0, _⟩ := hR.nd.vrow ndC_len
  subst hvn0
  have q5 := cell_got HR.out.box 5; have q0 := cell_got HR.out.box 0; have lq := got_lt HR.out.box
  clear hR hv hl hb0 hb1 hsz hxn
  by_cases hw2 : x2 = wTol
  · have tA : (bstr x2).toList = [116, 111, 108] := by rw [Lib.toList_data, hw2]; rfl
    generalize bstr x2 = S2 at t2 tA
    by_cases hw4 : x4 = wStart
    · have tB : (bstr x4).toList = [115, 116, 97, 114, 116] := by rw [Lib.toList_data, hw4]; rfl
      generalize bstr x4 = S4 at t4 tB
      rcases at_cases x.at_ with ha | ha | ha | ⟨ha1, ha2, ha3, hok⟩
      · have HQ : Hid (res = none) := Lib.hid (by rw [HRD.out, if_neg (fun q => by omega)])
        have a1 : decide ((x.at_ : Int) < 2) = true := decide_eq_true (by omega)
        clear ha hw2 hw4
        go_enter Tryz.func79, Tryz.ntmps79
        go_wp2
        go_ret
        rw [HQ.out]
        exact ⟨rfl, H1.out⟩
      · have HQ : Hid (res = none) := Lib.hid (by rw [HRD.out, if_neg (fun q => by omega)])
        have a1 : decide ((x.at_ : Int) < 2) = false := decide_eq_false (by omega)
        have a2 : ((x.at_ : Int) == 3) = true := by rw [beq_iff_eq]; omega
        clear ha hw2 hw4
        go_enter Tryz.func79, Tryz.ntmps79
        go_wp2
        go_ret
        rw [HQ.out]
        exact ⟨rfl, H1.out⟩
      · have HQ : Hid (res = none) := Lib.hid (by rw [HRD.out, if_neg (fun q => by omega)])
        have a1 : decide ((x.at_ : Int) < 2) = false := decide_eq_false (by omega)
        have a2 : ((x.at_ : Int) == 3) = false := by rw [beq_eq_false_iff_ne]; omega
        have a3 : decide ((x.at_ : Int) > 5) = true := decide_eq_true (by omega)
        have a4 : decide (5 < (x.at_ : Int)) = true := decide_eq_true (by omega)
        clear ha hw2 hw4
        go_enter Tryz.func79, Tryz.ntmps79
        go_wp2
        go_ret
        rw [HQ.out]
        exact ⟨rfl, H1.out⟩
      · have a1 : decide ((x.at_ : Int) < 2) = false := decide_eq_false (by omega)
        have a2 : ((x.at_ : Int) == 3) = false := by rw [beq_eq_false_iff_ne]; omega
        have a3 : decide ((x.at_ : Int) > 5) = false := decide_eq_false (by omega)
        have a4 : decide (5 < (x.at_ : Int)) = false := decide_eq_false (by omega)
        have HM : Hid (res = (match numsO [i, t, s] with
            | some [a, b, c] => if a = x.sc.nd.length then some (addN x ⟨0, [], b, false, 0, c, []⟩) else none
            | _ => none)) := Lib.hid (by rw [HRD.out]; exact if_pos ⟨hok, hw2, hw4⟩)
        clear ha1 ha2 ha3 hok hw2 hw4 HRD
        unfold IntP at I1 I3 I5
        have HNS : Hid (numsO [i, t, s] = match numO i, numO t, numO s with
          | some a, some b, some c => some [a, b, c]
          | _, _, _ => none) := Lib.hid (by
            cases h1 : numO i <;> cases h2 : numO t <;> cases h3 : numO s <;> simp [numsO, h1, h2, h3])
        generalize numsO [i, t, s] = no at HM HNS
        generalize numO i = o1 at I1 HNS
        generalize numO t = o3 at I3 HNS
        generalize numO s = o5 at I5 HNS
        go_enter Tryz.func79, Tryz.ntmps79
        go_wp2_with fail
        refine (I1.out w).mono ?_
        rintro e' w1 ⟨rfl, rfl⟩
        go_wp2_with fail
        refine (I3.out w).mono ?_
        rintro e' w1 ⟨rfl, rfl⟩
        go_wp2_with fail
        refine (I5.out w).mono ?_
        rintro e' w1 ⟨rfl, rfl⟩
        clear I1 I3 I5 a1 a2 a3 a4 t1 t2 t3 t4 t5 tA tB
        rcases o1 with _ | m0
        · have HQ : Hid (res = none) := Lib.hid (by rw [HM.out, HNS.out])
          simp only [Option.isSome_none, Option.getD_none]
          go_wp2
          go_ret
          rw [HQ.out]
          exact ⟨rfl, H1.out⟩
          
        · rcases o3 with _ | m1
          · have HQ : Hid (res = none) := Lib.hid (by rw [HM.out, HNS.out])
            simp only [Option.isSome_none, Option.isSome_some, Option.getD_none, Option.getD_some]
            go_wp2
            go_ret
            rw [HQ.out]
            exact ⟨rfl, H1.out⟩
            
          · rcases o5 with _ | m2
            · have HQ : Hid (res = none) := Lib.hid (by rw [HM.out, HNS.out])
              simp only [Option.isSome_none, Option.isSome_some, Option.getD_none, Option.getD_some]
              go_wp2
              go_ret
              rw [HQ.out]
              exact ⟨rfl, H1.out⟩
              
            · simp only [Option.isSome_some, Option.getD_some]
              by_cases hm0 : m0 = (ns.length : Int)
              · have dA : (m0 == (ns.length : Int)) = true := by simp [hm0]
                have dAn : (m0 != (ns.length : Int)) = false := by simp [hm0]
                have HQ : Hid (res = some (addN x ⟨0, [], m1, false, 0, m2, []⟩)) := Lib.hid (by rw [HM.out, HNS.out]; exact if_pos (by rw [HXN.out]; exact hm0))
                clear hm0 HM HNS
                go_upto_region 9 with (fail)
                refine alloc_abs (G := fun w0 => Code.wp _ _ _ _ w0) ?_
                intro w6 hb6 ho6 hs6
                have E6 := Lib.hid hb6; have PE := Lib.hid ho6
                clear hb6 ho6 hs6 q0 q5 lq dA dAn
                have R6 := Lib.hid (HR.out.kept PE.out); have O6 := Lib.hid (H1.out.nil_trans PE.out)
                have q0 := cell_got R6.out.box 0; have lq := got_lt R6.out.box
                have e0 := cell_got E6.out 0; have e1 := cell_got E6.out 1; have e2 := cell_got E6.out 2; have e3 := cell_got E6.out 3; have e4 := cell_got E6.out 4; have e5 := cell_got E6.out 5; have e6 := cell_got E6.out 6; have le := got_lt E6.out
                obtain ⟨S, hS⟩ : ∃ S, S = (Value.slice pn0 ns.length cn0).ownBlock.toList := ⟨_, rfl⟩
                have hbS : b ∉ S := fun hm => by rw [hS] at hm; exact R6.out.nd.ne_box R6.out.box (by decide) (by simpa using hm)
                have heS : w.heap.size ∉ S := fun hm => by
                  rw [hS] at hm
                  obtain ⟨_, _, hq⟩ := HR.out.nd.block (by simpa using hm)
                  exact absurd hq.lt (Nat.lt_irrefl _)
                have HSE := Lib.hid hS
                clear hS HR
                go_wp2_with fail
                refine wp_region_calm2 [0, 1, 2, 3, 4, 5, 6] [9, 10, 11, 12] (OnlyC S w6) (by kernel_rfl) (by kernel_rfl) ?_
                simp only [pick, List.map_cons, List.map_nil, List.getD_cons_succ, List.getD_cons_zero]
                iterate 7 (refine wpCalm_step (fun K hK => ?_); go_simp; refine hK _ ?_; clear hK K)
                refine wpCalm_nil ?_
                clear q0 lq e0 e1 e2 e3 e4 e5 e6 le
                refine Rest.by (X := Nat × Nat) (fun y a => ((((a.put (some 127) (.slice (some ⟨w6.heap.size, 0, none⟩) 1 1)).put (some 128) (.slice (some ⟨y.1, 0, none⟩) (ns.length + 1) y.2)).put (some 129) (.pointer (some ⟨b, 0, none⟩))).put (some 130) (.pointer (some ⟨b, 0, none⟩))).put (some 131) (.pointer (some ⟨b, 0, none⟩)))
                  (fun y w' => Ob b W0 w' ∧ RdW W0.heap.size b w' (⟨{ x.sc with nd := x.sc.nd ++ [⟨0, [], m1, false, 0, m2, []⟩] }, x.at_⟩ : SSt) (ns ++ [⟨⟨0, [], m1, false, 0, m2, []⟩, none, 0, none, 0⟩]) ls (.slice (some ⟨y.1, 0, none⟩) (ns.length + 1) y.2) vl vf) ?_ ?_
                · rintro ⟨g9, cap9⟩ w9 ⟨ho9, hr9⟩
                  simp only [Act.put, List.setIfInBounds_toArray, List.set_cons_succ, List.set_cons_zero]
                  have O9 := Lib.hid ho9; have R9 := Lib.hid hr9
                  clear ho9 hr9
                  have BP := Lib.hid R9.out.box
                  have lp := got_lt BP.out; have q5 := cell_got BP.out 5; have f5 := frozen_got BP.out 5
                  go_wp2
                  go_ret
                  rw [HQ.out]
                  refine ⟨rfl, H0.out, O9.out.setCell (.inl (by simp)) _, ns ++ [⟨⟨0, [], m1, false, 0, m2, []⟩, none, 0, none, 0⟩], ls, .slice (some ⟨g9, 0, none⟩) (ns.length + 1) cap9, vl, vf, ?_⟩
                  exact R9.out.cell (x' := addN x ⟨0, [], m1, false, 0, m2, []⟩) ((Only.refl [b] w9).setCell (.inl (by simp)) _) (setCell_got _ BP.out) rfl rfl rfl
                · refine wpAnyC_next [7] (by kernel_rfl) (by simp) (.inr (onlyC (Only.refl S w6).drew)) ?_
                  simp only [List.mem_cons, List.not_mem_nil, or_false, forall_eq]
                  refine wpOp_one rfl ?_
                  go_wp2
                  simp only [nrm]
                  refine allocd_abs (G := wpAnyC _ _ _ _ _ _ _ _ _) ?_
                  intro wa hna hoa hsa
                  have MA := Lib.hid hna; have oA := Lib.hid hoa; have RA := Lib.hid (R6.out.kept hoa); have OA := Lib.hid (O6.out.nil_trans hoa)
                  clear hna hsa hoa
                  refine wpAnyC_next [8] (by kernel_rfl) (by simp) (.inr (onlyC (oA.out.mono (by simp)))) ?_
                  simp only [List.mem_cons, List.not_mem_nil, or_false, forall_eq]
                  refine wpOp_one rfl ?_
                  refine wpList_append_B (B := W0.heap.size) rfl _ _ 22 rfl 48 (.agg #[.int .i64 0, .slice none 0 0, .int .i64 0, .bool false, .int .i64 0, .int .i64 0, .slice none 0 0]) 7 88 Tryz.underlying22 (by kernel_rfl) rfl (by decide) ndC_len ndC_one ns (Value.slice pn0 ns.length cn0) rfl RA.out.nd w6.heap.size (⟨⟨0, [], m1, false, 0, m2, []⟩, none, 0, none, 0⟩ : NdW) rfl (fun j u hj => ?_) (by simp [maxLen]; omega) (by omega) (Nat.le_trans (by have := OA.out.size; omega) (Nat.le_refl _)) ?_
                  · rw [cell_got MA.out]; rw [← hj]; simp [ndC]
                  · intro g9 cap9 wb hown hob _
                    rw [← HSE.out] at hob
                    have WB := Lib.hid hown; have oB := Lib.hid hob; have oS := Lib.hid ((oA.out.mono (S' := S) (by simp)).trans hob (fun x h => .inl h))
                    clear hown hob
                    simp only [wpList, nrm]
                    refine wpAnyC_next [9] (by kernel_rfl) (by simp) (.inr (onlyC oS.out)) ?_
                    simp only [List.mem_cons, List.not_mem_nil, or_false, forall_eq]
                    refine wpOp_one rfl ?_
                    go_wp2
                    simp only [nrm]
                    refine wpAnyC_next [10] (by kernel_rfl) (by simp) (.inr (onlyC oS.out)) ?_
                    simp only [List.mem_cons, List.not_mem_nil, or_false, forall_eq]
                    refine wpOp_one rfl ?_
                    go_wp2
                    simp only [nrm]
                    refine wpAnyC_next [11] (by kernel_rfl) (by simp) (.inr (onlyC oS.out)) ?_
                    simp only [List.mem_cons, List.not_mem_nil, or_false, forall_eq]
                    refine wpOp_one rfl ?_
                    go_wp2
                    simp only [nrm]
                    refine wpAnyC_next [12] (by kernel_rfl) (by simp) (.inr (onlyC oS.out)) ?_
                    simp only [List.mem_cons, List.not_mem_nil, or_false, forall_eq]
                    refine wpOp_one rfl ?_
                    have BP := Lib.hid (oS.out.got R6.out.box hbS)
                    have lp := got_lt BP.out
                    have qc := cell_got BP.out 0; have fq := frozen_got BP.out 0
                    go_wp2
                    simp only [nrm]
                    refine wpAnyC_done (by kernel_rfl) (.inl (late_of (by kernel_rfl))) ⟨(g9, cap9), rfl, ?_, ?_⟩
                    · refine (Ob.row (S := S) OA.out oB.out (fun k hk => ?_)).setCell (.inl (by simp)) _
                      rw [HSE.out] at hk
                      exact RA.out.nd.blockC (by simpa using hk)
                    · rw [HSE.out] at oB
                      exact RA.out.addN (x' := (⟨{ x.sc with nd := x.sc.nd ++ [⟨0, [], m1, false, 0, m2, []⟩] }, x.at_⟩ : SSt)) oB.out WB.out ⟨rfl, rfl, rfl, rfl, rfl, rfl⟩ ((Only.refl [b] wb).setCell (.inl (by simp)) _) (setCell_got _ BP.out) rfl rfl rfl
              · have dA : (m0 == (ns.length : Int)) = false := by simp [hm0]
                have dAn : (m0 != (ns.length : Int)) = true := by simp [hm0]
                have HQ : Hid (res = none) := Lib.hid (by rw [HM.out, HNS.out]; exact if_neg (fun q => hm0 (by rw [HXN.out] at q; exact q)))
                clear hm0 HM HNS
                go_wp2
                go_ret
                rw [HQ.out]
                exact ⟨rfl, H1.out⟩
    · have HQ : Hid (res = none) := Lib.hid (by rw [HRD.out, if_neg (fun q => hw4 q.2.2)])
      have tB : ((bstr x4).toList == [115, 116, 97, 114, 116]) = false := by rw [beq_eq_false_iff_ne, Lib.toList_data]; exact hw4
      generalize bstr x4 = S4 at t4 tB
      clear hw2 hw4
      go_enter Tryz.func79, Tryz.ntmps79
      go_wp2
      go_ret
      rw [HQ.out]
      exact ⟨rfl, H1.out⟩
  · have HQ : Hid (res = none) := Lib.hid (by rw [HRD.out, if_neg (fun q => hw2 q.2.1)])
    have tA : ((bstr x2).toList == [116, 111, 108]) = false := by rw [beq_eq_false_iff_ne, Lib.toList_data]; exact hw2
    generalize bstr x2 = S2 at t2 tA
    clear hw2
    go_enter Tryz.func79, Tryz.ntmps79
    go_wp2
    go_ret
    rw [HQ.out]
    exact ⟨rfl, H1.out⟩
set_option maxRecDepth 100000 in
set_option maxHeartbeats 4000000 in
theorem node8 {W0 : Two} {w : World} {b : Nat} {x : SSt} {p : Option Addr} {cap : Nat} {wd i x2 t x4 s x6 e : List UInt8} (h : RdX W0 b w x) (hsz : SLe 100000 x) (hv : VRow strC 1 w p 8 cap [wd, i, x2, t, x4, s, x6, e]) (hl : ∀ y ∈ ([wd, i, x2, t, x4, s, x6, e] : List (List UInt8)), y.length ≤ 1000000) :
    Calls Tryz.prog 79 #[.pointer (some ⟨b, 0, none⟩), .slice p 8 cap] w fun e' w' => RdR W0 b (rdNode x [i, x2, t, x4, s, x6, e]) e' w' := by
  obtain ⟨hb0, hb1, ns, ls, vn, vl, vf, hR⟩ := h
  have hxn : x.sc.nd.length = ns.length := by rw [hR.hn, List.length_map]
  have hfl : ns.length ≤ 100000 := by rw [← hxn]; exact hsz.nd
  have HRD : Hid (rdNode x [i, x2, t, x4, s, x6, e] = if (x.at_ = 2 ∨ x.at_ = 4 ∨ x.at_ = 5) ∧ x2 = wTol ∧ x4 = wStart then (match numsO [i, t, s] with
  | some [a, b, c] => if a = x.sc.nd.length then (match numO e with
           | some d => if x6 = wRef then some (addN x ⟨0, [], b, true, d, c, []⟩) else none
           | none => none) else none
  | _ => none) else none) := Lib.hid rfl
  generalize rdNode x [i, x2, t, x4, s, x6, e] = res at HRD ⊢
  have HR := Lib.hid hR; have HV := Lib.hid hv; have H0 := Lib.hid hb0; have H1 := Lib.hid hb1
  have I1 := Lib.hid (fun w' => rInteger (bstr i) w' (by rw [bstr_size]; exact hl i (by simp)))
  have I3 := Lib.hid (fun w' => rInteger (bstr t) w' (by rw [bstr_size]; exact hl t (by simp)))
  have I5 := Lib.hid (fun w' => rInteger (bstr s) w' (by rw [bstr_size]; exact hl s (by simp)))
  simp only [bstr_data] at I1 I3 I5
  have I7 := Lib.hid (fun w' => rInteger (bstr e) w' (by rw [bstr_size]; exact hl e (by simp)))
  simp only [bstr_data] at I7
  obtain ⟨bw, off, hp, _, lw⟩ := VRow.str (l := [wd, i, x2, t, x4, s, x6, e]) HV.out (Only.refl [] w) (k := 0) (by simp)
  subst hp
  obtain ⟨_, _, hp1, s1, _⟩ := VRow.str (l := [wd, i, x2, t, x4, s, x6, e]) HV.out (Only.refl [] w) (k := 1) (by simp)
  cases hp1
  have t1 : w.cell? ⟨bw, off + 1, none⟩ = some (.string (bstr i)) := s1
  clear s1
  obtain ⟨_, _, hp2, s2, _⟩ := VRow.str (l := [wd, i, x2, t, x4, s, x6, e]) HV.out (Only.refl [] w) (k := 2) (by simp)
  cases hp2
  have t2 : w.cell? ⟨bw, off + 2, none⟩ = some (.string (bstr x2)) := s2
  clear s2
  obtain ⟨_, _, hp3, s3, _⟩ := VRow.str (l := [wd, i, x2, t, x4, s, x6, e]) HV.out (Only.refl [] w) (k := 3) (by simp)
  cases hp3
  have t3 : w.cell? ⟨bw, off + 3, none⟩ = some (.string (bstr t)) := s3
  clear s3
  obtain ⟨_, _, hp4, s4, _⟩ := VRow.str (l := [wd, i, x2, t, x4, s, x6, e]) HV.out (Only.refl [] w) (k := 4) (by simp)
  cases hp4
  have t4 : w.cell? ⟨bw, off + 4, none⟩ = some (.string (bstr x4)) := s4
  clear s4
  obtain ⟨_, _, hp5, s5, _⟩ := VRow.str (l := [wd, i, x2, t, x4, s, x6, e]) HV.out (Only.refl [] w) (k := 5) (by simp)
  cases hp5
  have t5 : w.cell? ⟨bw, off + 5, none⟩ = some (.string (bstr s)) := s5
  clear s5
  obtain ⟨_, _, hp6, s6, _⟩ := VRow.str (l := [wd, i, x2, t, x4, s, x6, e]) HV.out (Only.refl [] w) (k := 6) (by simp)
  cases hp6
  have t6 : w.cell? ⟨bw, off + 6, none⟩ = some (.string (bstr x6)) := s6
  clear s6
  obtain ⟨_, _, hp7, s7, _⟩ := VRow.str (l := [wd, i, x2, t, x4, s, x6, e]) HV.out (Only.refl [] w) (k := 7) (by simp)
  cases hp7
  have t7 : w.cell? ⟨bw, off + 7, none⟩ = some (.string (bstr e)) := s7
  clear s7
  have TC6 : ∀ w', Only [] w w' → w'.cell? ⟨bw, off + 6, none⟩ = some (.string (bstr x6)) := fun w' ho => by rw [ho.cell lw (by simp)]; exact t6
  have TC7 : ∀ w', Only [] w w' → w'.cell? ⟨bw, off + 7, none⟩ = some (.string (bstr e)) := fun w' ho => by rw [ho.cell lw (by simp)]; exact t7
  have TCELL6 := Lib.hid TC6; have TCELL7 := Lib.hid TC7
  clear TC6 TC7
  have LW : bw < w.heap.size := lw
  clear t6 t7
  have HXN := Lib.hid hxn
  have hcap := hv.le
  obtain ⟨pn0, cn0, hvn0, _⟩ := hR.nd.vrow ndC_len
  subst hvn0
  have q5 := cell_got HR.out.box 5; have q0 := cell_got HR.out.box 0; have lq := got_lt HR.out.box
  clear hR hv hl hb0 hb1 hsz hxn
  by_cases hw2 : x2 = wTol
  · have tA : (bstr x2).toList = [116, 111, 108] := by rw [Lib.toList_data, hw2]; rfl
    generalize bstr x2 = S2 at t2 tA
    by_cases hw4 : x4 = wStart
    · have tB : (bstr x4).toList = [115, 116, 97, 114, 116] := by rw [Lib.toList_data, hw4]; rfl
      generalize bstr x4 = S4 at t4 tB
      rcases at_cases x.at_ with ha | ha | ha | ⟨ha1, ha2, ha3, hok⟩
      · have HQ : Hid (res = none) := Lib.hid (by rw [HRD.out, if_neg (fun q => by omega)])
        have a1 : decide ((x.at_ : Int) < 2) = true := decide_eq_true (by omega)
        clear ha hw2 hw4
        go_enter Tryz.func79, Tryz.ntmps79
        go_wp2
        go_ret
        rw [HQ.out]
        exact ⟨rfl, H1.out⟩
      · have HQ : Hid (res = none) := Lib.hid (by rw [HRD.out, if_neg (fun q => by omega)])
        have a1 : decide ((x.at_ : Int) < 2) = false := decide_eq_false (by omega)
        have a2 : ((x.at_ : Int) == 3) = true := by rw [beq_iff_eq]; omega
        clear ha hw2 hw4
        go_enter Tryz.func79, Tryz.ntmps79
        go_wp2
        go_ret
        rw [HQ.out]
        exact ⟨rfl, H1.out⟩
      · have HQ : Hid (res = none) := Lib.hid (by rw [HRD.out, if_neg (fun q => by omega)])
        have a1 : decide ((x.at_ : Int) < 2) = false := decide_eq_false (by omega)
        have a2 : ((x.at_ : Int) == 3) = false := by rw [beq_eq_false_iff_ne]; omega
        have a3 : decide ((x.at_ : Int) > 5) = true := decide_eq_true (by omega)
        have a4 : decide (5 < (x.at_ : Int)) = true := decide_eq_true (by omega)
        clear ha hw2 hw4
        go_enter Tryz.func79, Tryz.ntmps79
        go_wp2
        go_ret
        rw [HQ.out]
        exact ⟨rfl, H1.out⟩
      · have a1 : decide ((x.at_ : Int) < 2) = false := decide_eq_false (by omega)
        have a2 : ((x.at_ : Int) == 3) = false := by rw [beq_eq_false_iff_ne]; omega
        have a3 : decide ((x.at_ : Int) > 5) = false := decide_eq_false (by omega)
        have a4 : decide (5 < (x.at_ : Int)) = false := decide_eq_false (by omega)
        have HM : Hid (res = (match numsO [i, t, s] with
            | some [a, b, c] => if a = x.sc.nd.length then (match numO e with
                     | some d => if x6 = wRef then some (addN x ⟨0, [], b, true, d, c, []⟩) else none
                     | none => none) else none
            | _ => none)) := Lib.hid (by rw [HRD.out]; exact if_pos ⟨hok, hw2, hw4⟩)
        clear ha1 ha2 ha3 hok hw2 hw4 HRD
        unfold IntP at I1 I3 I5
        have HNS : Hid (numsO [i, t, s] = match numO i, numO t, numO s with
          | some a, some b, some c => some [a, b, c]
          | _, _, _ => none) := Lib.hid (by
            cases h1 : numO i <;> cases h2 : numO t <;> cases h3 : numO s <;> simp [numsO, h1, h2, h3])
        generalize numsO [i, t, s] = no at HM HNS
        generalize numO i = o1 at I1 HNS
        generalize numO t = o3 at I3 HNS
        generalize numO s = o5 at I5 HNS
        go_enter Tryz.func79, Tryz.ntmps79
        go_wp2_with fail
        refine (I1.out w).mono ?_
        rintro e' w1 ⟨rfl, rfl⟩
        go_wp2_with fail
        refine (I3.out w).mono ?_
        rintro e' w1 ⟨rfl, rfl⟩
        go_wp2_with fail
        refine (I5.out w).mono ?_
        rintro e' w1 ⟨rfl, rfl⟩
        clear I1 I3 I5 a1 a2 a3 a4 t1 t2 t3 t4 t5 tA tB
        rcases o1 with _ | m0
        · have HQ : Hid (res = none) := Lib.hid (by rw [HM.out, HNS.out])
          simp only [Option.isSome_none, Option.getD_none]
          go_wp2
          go_ret
          rw [HQ.out]
          exact ⟨rfl, H1.out⟩
          
        · rcases o3 with _ | m1
          · have HQ : Hid (res = none) := Lib.hid (by rw [HM.out, HNS.out])
            simp only [Option.isSome_none, Option.isSome_some, Option.getD_none, Option.getD_some]
            go_wp2
            go_ret
            rw [HQ.out]
            exact ⟨rfl, H1.out⟩
            
          · rcases o5 with _ | m2
            · have HQ : Hid (res = none) := Lib.hid (by rw [HM.out, HNS.out])
              simp only [Option.isSome_none, Option.isSome_some, Option.getD_none, Option.getD_some]
              go_wp2
              go_ret
              rw [HQ.out]
              exact ⟨rfl, H1.out⟩
              
            · simp only [Option.isSome_some, Option.getD_some]
              by_cases hm0 : m0 = (ns.length : Int)
              · have dA : (m0 == (ns.length : Int)) = true := by simp [hm0]
                have dAn : (m0 != (ns.length : Int)) = false := by simp [hm0]
                have HM2 : Hid (res = match numO e with
                  | some d => if x6 = wRef then some (addN x ⟨0, [], m1, true, d, m2, []⟩) else none
                  | none => none) := Lib.hid (by rw [HM.out, HNS.out]; exact if_pos (by rw [HXN.out]; exact hm0))
                clear hm0 HM HNS
                unfold IntP at I7
                generalize numO e = o7 at I7 HM2
                go_upto_region 9 with (fail)
                refine alloc_abs (G := fun w0 => Code.wp _ _ _ _ w0) ?_
                intro w5 hb5 ho5 hs5
                have E5 := Lib.hid hb5; have P5 := Lib.hid ho5
                clear hb5 ho5 hs5 q0 q5 lq dA dAn
                have t6 := TCELL6.out w5 P5.out; have t7 := TCELL7.out w5 P5.out
                have lw' := Nat.lt_of_lt_of_le LW P5.out.size
                clear lw LW
                have lw := lw'
                clear lw'
                go_wp2_with fail
                refine (I7.out w5).mono ?_
                rintro e' w1 ⟨rfl, rfl⟩
                clear I7
                by_cases hw6 : x6 = wRef
                · have tC : (bstr x6).toList = [114, 101, 102] := by rw [Lib.toList_data, hw6]; rfl
                  generalize bstr x6 = S6 at t6 tC
                  rcases o7 with _ | m7
                  · have HQ : Hid (res = none) := HM2
                    dsimp only [Option.isSome, Option.getD]
                    go_wp2
                    go_ret
                    rw [HQ.out]
                    exact ⟨rfl, H1.out.nil_trans P5.out⟩
                  · have HQ : Hid (res = some (addN x ⟨0, [], m1, true, m7, m2, []⟩)) := Lib.hid (by rw [HM2.out]; exact if_pos hw6)
                    dsimp only [Option.isSome, Option.getD]
                    have la := got_lt E5.out
                    have fa3 := frozen_got E5.out 3; have ca3 := cell_got E5.out 3
                    have fa4 := frozen_got E5.out 4; have ca4 := cell_got E5.out 4
                    go_upto_region 15 with (fail)
                    clear la fa3 ca3 fa4 ca4 t6 t7 tC
                    refine wabs (G := fun w0 => Code.wp _ _ _ _ w0) (R := fun w0 => Only [] w w0 ∧ w0.heap[w.heap.size]? = some (.cells #[.int .i64 0, .slice none 0 0, .int .i64 m1, .bool true, .int .i64 m7, .int .i64 m2, .slice none 0 0] 48 (0, 0))) ⟨P5.out.trans (S' := [w.heap.size]) (((Only.refl [w.heap.size] w5).setCell (.inl (by simp)) _).setCell (.inl (by simp)) _) (by simp), setCell_got _ (setCell_got _ E5.out)⟩ ?_
                    rintro w6 ⟨ho6, hb6⟩
                    have E6 := Lib.hid hb6; have PE := Lib.hid ho6
                    clear hb6 ho6 E5 P5 lw hw6 HM2
                    have R6 := Lib.hid (HR.out.kept PE.out); have O6 := Lib.hid (H1.out.nil_trans PE.out)
                    have q0 := cell_got R6.out.box 0; have lq := got_lt R6.out.box
                    have e0 := cell_got E6.out 0; have e1 := cell_got E6.out 1; have e2 := cell_got E6.out 2; have e3 := cell_got E6.out 3; have e4 := cell_got E6.out 4; have e5 := cell_got E6.out 5; have e6 := cell_got E6.out 6; have le := got_lt E6.out
                    obtain ⟨S, hS⟩ : ∃ S, S = (Value.slice pn0 ns.length cn0).ownBlock.toList := ⟨_, rfl⟩
                    have hbS : b ∉ S := fun hm => by rw [hS] at hm; exact R6.out.nd.ne_box R6.out.box (by decide) (by simpa using hm)
                    have heS : w.heap.size ∉ S := fun hm => by
                      rw [hS] at hm
                      obtain ⟨_, _, hq⟩ := HR.out.nd.block (by simpa using hm)
                      exact absurd hq.lt (Nat.lt_irrefl _)
                    have HSE := Lib.hid hS
                    clear hS HR
                    go_wp2_with fail
                    refine wp_region_calm2 [0, 1, 2, 3, 4, 5, 6] [9, 10, 11, 12] (OnlyC S w6) (by kernel_rfl) (by kernel_rfl) ?_
                    simp only [pick, List.map_cons, List.map_nil, List.getD_cons_succ, List.getD_cons_zero]
                    iterate 7 (refine wpCalm_step (fun K hK => ?_); go_simp; refine hK _ ?_; clear hK K)
                    refine wpCalm_nil ?_
                    clear q0 lq e0 e1 e2 e3 e4 e5 e6 le
                    refine Rest.by (X := Nat × Nat) (fun y a => ((((a.put (some 127) (.slice (some ⟨w6.heap.size, 0, none⟩) 1 1)).put (some 128) (.slice (some ⟨y.1, 0, none⟩) (ns.length + 1) y.2)).put (some 129) (.pointer (some ⟨b, 0, none⟩))).put (some 130) (.pointer (some ⟨b, 0, none⟩))).put (some 131) (.pointer (some ⟨b, 0, none⟩)))
                      (fun y w' => Ob b W0 w' ∧ RdW W0.heap.size b w' (⟨{ x.sc with nd := x.sc.nd ++ [⟨0, [], m1, true, m7, m2, []⟩] }, x.at_⟩ : SSt) (ns ++ [⟨⟨0, [], m1, true, m7, m2, []⟩, none, 0, none, 0⟩]) ls (.slice (some ⟨y.1, 0, none⟩) (ns.length + 1) y.2) vl vf) ?_ ?_
                    · rintro ⟨g9, cap9⟩ w9 ⟨ho9, hr9⟩
                      simp only [Act.put, List.setIfInBounds_toArray, List.set_cons_succ, List.set_cons_zero]
                      have O9 := Lib.hid ho9; have R9 := Lib.hid hr9
                      clear ho9 hr9
                      have BP := Lib.hid R9.out.box
                      have lp := got_lt BP.out; have q5 := cell_got BP.out 5; have f5 := frozen_got BP.out 5
                      go_wp2
                      go_ret
                      rw [HQ.out]
                      refine ⟨rfl, H0.out, O9.out.setCell (.inl (by simp)) _, ns ++ [⟨⟨0, [], m1, true, m7, m2, []⟩, none, 0, none, 0⟩], ls, .slice (some ⟨g9, 0, none⟩) (ns.length + 1) cap9, vl, vf, ?_⟩
                      exact R9.out.cell (x' := addN x ⟨0, [], m1, true, m7, m2, []⟩) ((Only.refl [b] w9).setCell (.inl (by simp)) _) (setCell_got _ BP.out) rfl rfl rfl
                    · refine wpAnyC_next [7] (by kernel_rfl) (by simp) (.inr (onlyC (Only.refl S w6).drew)) ?_
                      simp only [List.mem_cons, List.not_mem_nil, or_false, forall_eq]
                      refine wpOp_one rfl ?_
                      go_wp2
                      simp only [nrm]
                      refine allocd_abs (G := wpAnyC _ _ _ _ _ _ _ _ _) ?_
                      intro wa hna hoa hsa
                      have MA := Lib.hid hna; have oA := Lib.hid hoa; have RA := Lib.hid (R6.out.kept hoa); have OA := Lib.hid (O6.out.nil_trans hoa)
                      clear hna hsa hoa
                      refine wpAnyC_next [8] (by kernel_rfl) (by simp) (.inr (onlyC (oA.out.mono (by simp)))) ?_
                      simp only [List.mem_cons, List.not_mem_nil, or_false, forall_eq]
                      refine wpOp_one rfl ?_
                      refine wpList_append_B (B := W0.heap.size) rfl _ _ 22 rfl 48 (.agg #[.int .i64 0, .slice none 0 0, .int .i64 0, .bool false, .int .i64 0, .int .i64 0, .slice none 0 0]) 7 88 Tryz.underlying22 (by kernel_rfl) rfl (by decide) ndC_len ndC_one ns (Value.slice pn0 ns.length cn0) rfl RA.out.nd w6.heap.size (⟨⟨0, [], m1, true, m7, m2, []⟩, none, 0, none, 0⟩ : NdW) rfl (fun j u hj => ?_) (by simp [maxLen]; omega) (by omega) (Nat.le_trans (by have := OA.out.size; omega) (Nat.le_refl _)) ?_
                      · rw [cell_got MA.out]; rw [← hj]; simp [ndC]
                      · intro g9 cap9 wb hown hob _
                        rw [← HSE.out] at hob
                        have WB := Lib.hid hown; have oB := Lib.hid hob; have oS := Lib.hid ((oA.out.mono (S' := S) (by simp)).trans hob (fun x h => .inl h))
                        clear hown hob
                        simp only [wpList, nrm]
                        refine wpAnyC_next [9] (by kernel_rfl) (by simp) (.inr (onlyC oS.out)) ?_
                        simp only [List.mem_cons, List.not_mem_nil, or_false, forall_eq]
                        refine wpOp_one rfl ?_
                        go_wp2
                        simp only [nrm]
                        refine wpAnyC_next [10] (by kernel_rfl) (by simp) (.inr (onlyC oS.out)) ?_
                        simp only [List.mem_cons, List.not_mem_nil, or_false, forall_eq]
                        refine wpOp_one rfl ?_
                        go_wp2
                        simp only [nrm]
                        refine wpAnyC_next [11] (by kernel_rfl) (by simp) (.inr (onlyC oS.out)) ?_
                        simp only [List.mem_cons, List.not_mem_nil, or_false, forall_eq]
                        refine wpOp_one rfl ?_
                        go_wp2
                        simp only [nrm]
                        refine wpAnyC_next [12] (by kernel_rfl) (by simp) (.inr (onlyC oS.out)) ?_
                        simp only [List.mem_cons, List.not_mem_nil, or_false, forall_eq]
                        refine wpOp_one rfl ?_
                        have BP := Lib.hid (oS.out.got R6.out.box hbS)
                        have lp := got_lt BP.out
                        have qc := cell_got BP.out 0; have fq := frozen_got BP.out 0
                        go_wp2
                        simp only [nrm]
                        refine wpAnyC_done (by kernel_rfl) (.inl (late_of (by kernel_rfl))) ⟨(g9, cap9), rfl, ?_, ?_⟩
                        · refine (Ob.row (S := S) OA.out oB.out (fun k hk => ?_)).setCell (.inl (by simp)) _
                          rw [HSE.out] at hk
                          exact RA.out.nd.blockC (by simpa using hk)
                        · rw [HSE.out] at oB
                          exact RA.out.addN (x' := (⟨{ x.sc with nd := x.sc.nd ++ [⟨0, [], m1, true, m7, m2, []⟩] }, x.at_⟩ : SSt)) oB.out WB.out ⟨rfl, rfl, rfl, rfl, rfl, rfl⟩ ((Only.refl [b] wb).setCell (.inl (by simp)) _) (setCell_got _ BP.out) rfl rfl rfl
                · have HQ : Hid (res = none) := Lib.hid (by rw [HM2.out]; cases o7 with
                    | none => rfl
                    | some d => exact if_neg hw6)
                  have tC : ((bstr x6).toList == [114, 101, 102]) = false := by
                    rw [beq_eq_false_iff_ne, Lib.toList_data]; exact hw6
                  generalize bstr x6 = S6 at t6 tC
                  go_wp2
                  go_ret
                  rw [HQ.out]
                  exact ⟨rfl, H1.out.nil_trans P5.out⟩
              · have dA : (m0 == (ns.length : Int)) = false := by simp [hm0]
                have dAn : (m0 != (ns.length : Int)) = true := by simp [hm0]
                have HQ : Hid (res = none) := Lib.hid (by rw [HM.out, HNS.out]; exact if_neg (fun q => hm0 (by rw [HXN.out] at q; exact q)))
                clear hm0 HM HNS
                go_wp2
                go_ret
                rw [HQ.out]
                exact ⟨rfl, H1.out⟩
    · have HQ : Hid (res = none) := Lib.hid (by rw [HRD.out, if_neg (fun q => hw4 q.2.2)])
      have tB : ((bstr x4).toList == [115, 116, 97, 114, 116]) = false := by rw [beq_eq_false_iff_ne, Lib.toList_data]; exact hw4
      generalize bstr x4 = S4 at t4 tB
      clear hw2 hw4
      go_enter Tryz.func79, Tryz.ntmps79
      go_wp2
      go_ret
      rw [HQ.out]
      exact ⟨rfl, H1.out⟩
  · have HQ : Hid (res = none) := Lib.hid (by rw [HRD.out, if_neg (fun q => hw2 q.2.1)])
    have tA : ((bstr x2).toList == [116, 111, 108]) = false := by rw [beq_eq_false_iff_ne, Lib.toList_data]; exact hw2
    generalize bstr x2 = S2 at t2 tA
    clear hw2
    go_enter Tryz.func79, Tryz.ntmps79
    go_wp2
    go_ret
    rw [HQ.out]
    exact ⟨rfl, H1.out⟩
end Rf
end Go.Proofs.YthmeifdgkodjlaaGreatDoor
