/- timesyncref56's state.linkLine reads the lines link and change. Condition: the lengths. -/
import Derived.Test.YthmeifdgkodjlaaGreatDoorUa
namespace Go.Proofs.YthmeifdgkodjlaaGreatDoor
open Go.RowKit
namespace Rf

set_option maxRecDepth 100000 in
set_option maxHeartbeats 4000000 in
theorem link {W0 : Two} {w : World} {b : Nat} {x : SSt} {p : Option Addr} {n cap : Nat} {r : List (List UInt8)} (h : RdX W0 b w x) (hsz : SLe 100000 x) (hat : x.at_ ≤ 7) (hv : VRow strC 1 w p n cap (wLink :: r)) (hn : n ≤ 100000) (hl : ∀ y ∈ wLink :: r, y.length ≤ 1000000) :
    Calls Tryz.prog 81 #[.pointer (some ⟨b, 0, none⟩), .slice p n cap] w fun e w' => RdR W0 b (rdLink x r) e w' := by
  have hlen := hv.len
  subst hlen
  obtain ⟨hb0, hb1, ns, ls, vn, vl, vf, hR⟩ := h
  have hx1 := hR.hl; have hle := hsz.lk; have hfl := hsz.ch
  have HR := Lib.hid hR; have HV := Lib.hid hv; have H0 := Lib.hid hb0; have H1 := Lib.hid hb1; have HL := Lib.hid hl
  obtain ⟨bw, off, hp, s0, lw⟩ := HV.out.str (Only.refl [] w) (k := 0) (by simp)
  subst hp
  simp only [Nat.add_zero, List.getD_cons_zero] at s0
  have tO : (bstr wLink).toList = [108, 105, 110, 107] := by rw [Lib.toList_data]; rfl
  generalize bstr wLink = S0 at s0 tO
  have hcap := HV.out.le
  have HLN : Hid (ls.length ≤ 100000) := Lib.hid (by rw [hx1, List.length_map] at hle; exact hle)
  clear hR hv hl hb0 hb1 hsz hfl hx1 hle
  by_cases h9 : (wLink :: r).length = 9
  · obtain ⟨a0, a1, a2, a3, a4, a5, a6, a7, rfl⟩ : ∃ a0 a1 a2 a3 a4 a5 a6 a7, r = [a0, a1, a2, a3, a4, a5, a6, a7] := by
      rcases r with _ | ⟨a0, _ | ⟨a1, _ | ⟨a2, _ | ⟨a3, _ | ⟨a4, _ | ⟨a5, _ | ⟨a6, _ | ⟨a7, _ | ⟨q, r⟩⟩⟩⟩⟩⟩⟩⟩⟩
      · simp at h9
      · simp at h9
      · simp at h9
      · simp at h9
      · simp at h9
      · simp at h9
      · simp at h9
      · simp at h9
      · exact ⟨a0, a1, a2, a3, a4, a5, a6, a7, rfl⟩
      · simp at h9
    obtain ⟨_, _, hp8, t8, _⟩ := HV.out.str (Only.refl [] w) (k := 8) (by simp)
    cases hp8
    have t8 : w.cell? ⟨bw, off + 8, none⟩ = some (.string (bstr a7)) := t8
    have HN := Lib.hid (rNumbers (w := w) 1 (by simp) (HV.out.take 8 (by simp)) (by simp) (fun y hy => HL.out y (List.mem_of_mem_take hy)))
    rw [show ((wLink :: [a0, a1, a2, a3, a4, a5, a6, a7]).take 8).drop 1 = [a0, a1, a2, a3, a4, a5, a6] from rfl] at HN
    have I8 := Lib.hid (fun w' => rNatural (bstr a7) w' (by rw [bstr_size]; exact HL.out a7 (by simp)))
    simp only [bstr_data] at I8
    unfold NatP at I8
    have HRD : Hid (rdLink x [a0, a1, a2, a3, a4, a5, a6, a7] = if whole x.at_ = true ∧ x.at_ ≠ 7 then
      (match numsO [a0, a1, a2, a3, a4, a5, a6] with
       | some [a, b, c, d, e, f, g] => (natO a7).map fun (n : Nat) => (⟨{ x.sc with lk := x.sc.lk ++ [⟨a, b, c, d, e, f, g, (n : Int), []⟩] }, 6⟩ : SSt)
       | _ => none) else none) := Lib.hid rfl
    generalize rdLink x [a0, a1, a2, a3, a4, a5, a6, a7] = res at HRD ⊢
    rw [h9] at hcap ⊢
    have k8 : (8 : Int) ≤ (cap : Int) := by omega
    have k8n : 8 ≤ cap := by omega
    have q5 := cell_got HR.out.box 5; have lq := got_lt HR.out.box
    clear h9 hn
    by_cases h2 : x.at_ < 2
    · have HQ : Hid (res = none) := Lib.hid (by rw [HRD.out, if_neg (fun q => by have := q.1; unfold whole at this; rw [decide_eq_true_eq] at this; omega)])
      have fa1 : decide ((x.at_ : Int) < 2) = true := decide_eq_true (by omega)
      go_enter Tryz.func81, Tryz.ntmps81
      go_wp2
      go_ret
      rw [HQ.out]
      exact ⟨rfl, H1.out⟩
    · have fa1 : decide ((x.at_ : Int) < 2) = false := decide_eq_false (by omega)
      by_cases h3 : x.at_ = 3
      · have HQ : Hid (res = none) := Lib.hid (by rw [HRD.out, if_neg (fun q => by have := q.1; unfold whole at this; rw [decide_eq_true_eq] at this; omega)])
        have fa2 : ((x.at_ : Int) == 3) = true := by rw [beq_iff_eq]; omega
        go_enter Tryz.func81, Tryz.ntmps81
        go_wp2
        go_ret
        rw [HQ.out]
        exact ⟨rfl, H1.out⟩
      · have fa2 : ((x.at_ : Int) == 3) = false := by rw [beq_eq_false_iff_ne]; omega
        by_cases h7 : x.at_ = 7
        · have HQ : Hid (res = none) := Lib.hid (by rw [HRD.out, if_neg (fun q => q.2 h7)])
          have fa3 : decide ((x.at_ : Int) > 6) = true := decide_eq_true (by omega)
          have fa4 : decide (6 < (x.at_ : Int)) = true := decide_eq_true (by omega)
          go_enter Tryz.func81, Tryz.ntmps81
          go_wp2
          go_ret
          rw [HQ.out]
          exact ⟨rfl, H1.out⟩
        · have fa3 : decide ((x.at_ : Int) > 6) = false := decide_eq_false (by omega)
          have fa4 : decide (6 < (x.at_ : Int)) = false := decide_eq_false (by omega)
          have HM := Lib.hid (HRD.out.trans (if_pos ⟨by unfold whole; rw [decide_eq_true_eq]; omega, h7⟩))
          clear HRD h2 h3 h7 hat
          go_enter Tryz.func81, Tryz.ntmps81
          go_wp2_with fail
          refine HN.out.mono ?_
          rintro e w2 ⟨hv4, ho2⟩
          have R2 := Lib.hid (HR.out.kept ho2); have O2 := Lib.hid (H1.out.nil_trans ho2)
          have t8' : w2.cell? ⟨bw, off + 8, none⟩ = some (.string (bstr a7)) := by rw [ho2.cell lw (by simp)]; exact t8
          have lw2 : bw < w2.heap.size := Nat.lt_of_lt_of_le lw ho2.size
          clear HN q5 lq s0 t8 lw
          cases hq : numsO [a0, a1, a2, a3, a4, a5, a6] with
          | none =>
            rw [hq] at hv4
            have he : e = .returned (.tuple #[.slice none 0 0, .bool false]) := hv4
            subst he
            have HQ : Hid (res = none) := Lib.hid (by rw [HM.out, hq])
            clear hv4 hq HM ho2 HR fa1 fa2 fa3 fa4
            go_wp2_with fail
            refine (I8.out w2).mono ?_
            rintro e w3 ⟨rfl, rfl⟩
            go_wp2
            go_ret
            rw [HQ.out]
            exact ⟨rfl, O2.out⟩
          | some ms =>
            rw [hq] at hv4
            obtain ⟨v, he, hown⟩ : ∃ v, e = .returned (.tuple #[v, .bool true]) ∧ Own itC 3 1 w.heap.size w2 v ms := hv4
            subst he
            have hml := numsO_len hq
            obtain ⟨m0, m1, m2, m3, m4, m5, m6, rfl⟩ : ∃ m0 m1 m2 m3 m4 m5 m6, ms = [m0, m1, m2, m3, m4, m5, m6] := by
              rcases ms with _ | ⟨m0, _ | ⟨m1, _ | ⟨m2, _ | ⟨m3, _ | ⟨m4, _ | ⟨m5, _ | ⟨m6, _ | ⟨q, r⟩⟩⟩⟩⟩⟩⟩⟩
              · simp at hml
              · simp at hml
              · simp at hml
              · simp at hml
              · simp at hml
              · simp at hml
              · simp at hml
              · exact ⟨m0, m1, m2, m3, m4, m5, m6, rfl⟩
              · simp at hml
            have HM2 : Hid (res = (natO a7).map fun (n : Nat) => (⟨{ x.sc with lk := x.sc.lk ++ [⟨m0, m1, m2, m3, m4, m5, m6, (n : Int), []⟩] }, 6⟩ : SSt)) := Lib.hid (by rw [HM.out, hq])
            obtain ⟨g, capg, rfl, hgw, hrow⟩ : ∃ g capg, v = .slice (some ⟨g, 0, none⟩) 7 capg ∧ w.heap.size ≤ g ∧ RowAt itC 3 1 w2 g capg [m0, m1, m2, m3, m4, m5, m6] := by
              rcases hown with ⟨_, h⟩ | h
              · cases h
              · exact h
            have HGW := Lib.hid hgw
            have M2 := Lib.hid hrow
            have HVL : Hid (∀ k ∈ vl.ownBlock.toList, k < w.heap.size) := Lib.hid (fun k hk => by obtain ⟨_, _, hq⟩ := HR.out.lk.block (by simpa using hk); exact hq.lt)
            clear hown hgw hrow hml hq HM ho2 HR fa1 fa2 fa3 fa4
            go_wp2_with fail
            refine (I8.out w2).mono ?_
            rintro e w3 ⟨rfl, rfl⟩
            clear I8 t8' lw2
            generalize natO a7 = o at HM2 ⊢
            rcases o with _ | u
            · have HQ : Hid (res = none) := HM2
              simp only [Option.isSome_none, Option.getD_none]
              go_wp2
              go_ret
              rw [HQ.out]
              exact ⟨rfl, O2.out⟩
            · have HQ : Hid (res = some (⟨{ x.sc with lk := x.sc.lk ++ [⟨m0, m1, m2, m3, m4, m5, m6, (u : Int), []⟩] }, 6⟩ : SSt)) := HM2
              simp only [Option.isSome_some, Option.getD_some]
              clear HM2
              have c0 : w2.cell? ⟨g, 0, none⟩ = some (.int .i64 m0) := M2.out.cell (i := 0) (j := 0) itC_len rfl (by decide)
              have c1 : w2.cell? ⟨g, 1, none⟩ = some (.int .i64 m1) := M2.out.cell (i := 1) (j := 0) itC_len rfl (by decide)
              have c2 : w2.cell? ⟨g, 2, none⟩ = some (.int .i64 m2) := M2.out.cell (i := 2) (j := 0) itC_len rfl (by decide)
              have c3 : w2.cell? ⟨g, 3, none⟩ = some (.int .i64 m3) := M2.out.cell (i := 3) (j := 0) itC_len rfl (by decide)
              have c4 : w2.cell? ⟨g, 4, none⟩ = some (.int .i64 m4) := M2.out.cell (i := 4) (j := 0) itC_len rfl (by decide)
              have c5 : w2.cell? ⟨g, 5, none⟩ = some (.int .i64 m5) := M2.out.cell (i := 5) (j := 0) itC_len rfl (by decide)
              have c6 : w2.cell? ⟨g, 6, none⟩ = some (.int .i64 m6) := M2.out.cell (i := 6) (j := 0) itC_len rfl (by decide)
              have lg := M2.out.lt
              have q1 := cell_got R2.out.box 1; have lq := got_lt R2.out.box
              obtain ⟨S, hS⟩ : ∃ S, S = vl.ownBlock.toList := ⟨_, rfl⟩
              have hbS : b ∉ S := fun hm => by rw [hS] at hm; exact R2.out.lk.ne_box R2.out.box (by decide) (by simpa using hm)
              have hgS : g ∉ S := fun hm => by rw [hS] at hm; have h1 := HVL.out g hm; have h2 := HGW.out; omega
              have HSE := Lib.hid hS
              clear hS
              go_upto_region 14 with (fail)
              refine wp_region_calm2 [0, 1, 2, 3, 4, 5, 6, 7, 8, 9, 10, 11, 12, 13, 14, 15, 16, 17, 18, 19, 20, 21, 22, 23, 24, 25, 26, 27, 28, 29, 30, 31] [34, 35, 36, 37] (OnlyC S w2) (by kernel_rfl) (by kernel_rfl) ?_
              simp only [pick, List.map_cons, List.map_nil, List.getD_cons_succ, List.getD_cons_zero]
              iterate 32 (refine wpCalm_step (fun K hK => ?_); go_simp; refine hK _ ?_; clear hK K)
              refine wpCalm_nil ?_
              clear q1 lq c0 c1 c2 c3 c4 c5 c6 lg
              refine Rest.by (X := Nat × Nat) (fun y a => ((((a.put (some 178) (.slice (some ⟨w2.heap.size, 0, none⟩) 1 1)).put (some 179) (.slice (some ⟨y.1, 0, none⟩) (ls.length + 1) y.2)).put (some 180) (.pointer (some ⟨b, 0, none⟩))).put (some 181) (.pointer (some ⟨b, 0, none⟩))).put (some 182) (.pointer (some ⟨b, 1, none⟩)))
                (fun y w' => Ob b W0 w' ∧ RdW W0.heap.size b w' (⟨{ x.sc with lk := x.sc.lk ++ [⟨m0, m1, m2, m3, m4, m5, m6, (u : Int), []⟩] }, x.at_⟩ : SSt) ns (ls ++ [⟨⟨m0, m1, m2, m3, m4, m5, m6, (u : Int), []⟩, none, 0⟩]) vn (.slice (some ⟨y.1, 0, none⟩) (ls.length + 1) y.2) vf) ?_ ?_
              · rintro ⟨g9, cap9⟩ w9 ⟨ho9, hr9⟩
                simp only [Act.put, List.setIfInBounds_toArray, List.set_cons_succ, List.set_cons_zero]
                have O9 := Lib.hid ho9; have R9 := Lib.hid hr9
                clear ho9 hr9
                have BP := Lib.hid R9.out.box
                have lp := got_lt BP.out; have q5 := cell_got BP.out 5; have f5 := frozen_got BP.out 5
                go_wp2
                go_ret
                rw [HQ.out]
                refine ⟨rfl, H0.out, O9.out.setCell (.inl (by simp)) _, ns, ls ++ [⟨⟨m0, m1, m2, m3, m4, m5, m6, (u : Int), []⟩, none, 0⟩], vn, .slice (some ⟨g9, 0, none⟩) (ls.length + 1) cap9, vf, ?_⟩
                exact R9.out.cell (x' := (⟨{ x.sc with lk := x.sc.lk ++ [⟨m0, m1, m2, m3, m4, m5, m6, (u : Int), []⟩] }, 6⟩ : SSt)) ((Only.refl [b] w9).setCell (.inl (by simp)) _) (setCell_got _ BP.out) rfl rfl rfl
              · refine wpAnyC_next [32] (by kernel_rfl) (by simp) (.inr (onlyC (Only.refl S w2).drew)) ?_
                simp only [List.mem_cons, List.not_mem_nil, or_false, forall_eq]
                refine wpOp_one rfl ?_
                go_wp2
                simp only [nrm]
                refine allocd_abs (G := wpAnyC _ _ _ _ _ _ _ _ _) ?_
                intro wa hna hoa hsa
                have MA := Lib.hid hna; have oA := Lib.hid hoa; have RA := Lib.hid (R2.out.kept hoa); have OA := Lib.hid (O2.out.nil_trans hoa)
                clear hna hsa hoa
                refine wpAnyC_next [33] (by kernel_rfl) (by simp) (.inr (onlyC (oA.out.mono (by simp)))) ?_
                simp only [List.mem_cons, List.not_mem_nil, or_false, forall_eq]
                refine wpOp_one rfl ?_
                refine wpList_append_B (B := W0.heap.size) rfl _ _ 23 rfl 54 (.agg #[.int .i64 0, .int .i64 0, .int .i64 0, .int .i64 0, .int .i64 0, .int .i64 0, .int .i64 0, .int .u64 0, .slice none 0 0]) 9 88 Tryz.underlying23 (by kernel_rfl) rfl (by decide) lkC_len lkC_one ls vl rfl RA.out.lk w2.heap.size (⟨⟨m0, m1, m2, m3, m4, m5, m6, (u : Int), []⟩, none, 0⟩ : LkW) rfl (fun j u' hj => ?_) (by have := HLN.out; simp [maxLen]; omega) (by have := HLN.out; omega) (Nat.le_trans (by have := OA.out.size; omega) (Nat.le_refl _)) ?_
                · rw [cell_got MA.out]; rw [← hj]; simp [lkC]
                · intro g9 cap9 wb hown hob _
                  rw [← HSE.out] at hob
                  have WB := Lib.hid hown; have oB := Lib.hid hob; have oS := Lib.hid ((oA.out.mono (S' := S) (by simp)).trans hob (fun x h => .inl h))
                  clear hown hob
                  simp only [wpList, nrm]
                  refine wpAnyC_next [34] (by kernel_rfl) (by simp) (.inr (onlyC oS.out)) ?_
                  simp only [List.mem_cons, List.not_mem_nil, or_false, forall_eq]
                  refine wpOp_one rfl ?_
                  go_wp2
                  simp only [nrm]
                  refine wpAnyC_next [35] (by kernel_rfl) (by simp) (.inr (onlyC oS.out)) ?_
                  simp only [List.mem_cons, List.not_mem_nil, or_false, forall_eq]
                  refine wpOp_one rfl ?_
                  go_wp2
                  simp only [nrm]
                  refine wpAnyC_next [36] (by kernel_rfl) (by simp) (.inr (onlyC oS.out)) ?_
                  simp only [List.mem_cons, List.not_mem_nil, or_false, forall_eq]
                  refine wpOp_one rfl ?_
                  go_wp2
                  simp only [nrm]
                  refine wpAnyC_next [37] (by kernel_rfl) (by simp) (.inr (onlyC oS.out)) ?_
                  simp only [List.mem_cons, List.not_mem_nil, or_false, forall_eq]
                  refine wpOp_one rfl ?_
                  have BP := Lib.hid (oS.out.got R2.out.box hbS)
                  have lp := got_lt BP.out
                  have qc := cell_got BP.out 1; have fq := frozen_got BP.out 1
                  go_wp2
                  simp only [nrm]
                  refine wpAnyC_done (by kernel_rfl) (.inl (late_of (by kernel_rfl))) ?_
                  have hA := (Ob.row (S := S) OA.out oB.out (fun k hk => by
                    rw [HSE.out] at hk
                    exact RA.out.lk.blockC (by simpa using hk))).setCell (p := ⟨b, 1, none⟩) (.inl (by simp)) (.slice (some ⟨g9, 0, none⟩) (ls.length + 1) cap9)
                  have oB' : Only vl.ownBlock.toList wa wb := by have := oB.out; rwa [HSE.out] at this
                  have hB := RA.out.addL (x' := (⟨{ x.sc with lk := x.sc.lk ++ [⟨m0, m1, m2, m3, m4, m5, m6, (u : Int), []⟩] }, x.at_⟩ : SSt)) oB' WB.out ⟨rfl, rfl, rfl⟩ ((Only.refl [b] wb).setCell (p := ⟨b, 1, none⟩) (.inl (by simp)) _) (setCell_got _ BP.out) rfl rfl rfl
                  first | exact ⟨(g9, cap9), rfl, hA, hB⟩ | exact ⟨g9, cap9, rfl, hA, hB⟩
  · have HQ : Hid (rdLink x r = none) := Lib.hid (by
      rcases r with _ | ⟨_, _ | ⟨_, _ | ⟨_, _ | ⟨_, _ | ⟨_, _ | ⟨_, _ | ⟨_, _ | ⟨_, _ | ⟨q, r⟩⟩⟩⟩⟩⟩⟩⟩⟩
      · rfl
      · rfl
      · rfl
      · rfl
      · rfl
      · rfl
      · rfl
      · rfl
      · exact absurd rfl h9
      · rfl)
    generalize rdLink x r = res at HQ ⊢
    have z9 : (((wLink :: r).length : Int) != 9) = true := by rw [bne_iff_ne]; omega
    have z9' : (((wLink :: r).length : Int) == 9) = false := by rw [beq_eq_false_iff_ne]; omega
    have hwp : (0 : Int) < ((wLink :: r).length : Int) := by simp
    clear h9
    generalize (wLink :: r).length = nn at z9 z9' hwp hn ⊢
    go_enter Tryz.func81, Tryz.ntmps81
    go_wp2
    go_ret
    rw [HQ.out]
    exact ⟨rfl, H1.out⟩
theorem rdC_none {x : SSt} {r : List (List UInt8)} (h : numsO r = none) : rdChange x r = none := by
  unfold rdChange
  split
  · split
    · rename_i h'; rw [h] at h'; cases h'
    · rfl
  · rfl
theorem rdC_len {x : SSt} {r : List (List UInt8)} {ms : List Int} (h : numsO r = some ms) (hm : ms.length ≠ 5) : rdChange x r = none := by
  unfold rdChange
  split
  · split
    · rename_i h'; rw [h] at h'; cases h'; exact absurd rfl hm
    · rfl
  · rfl
theorem rdC_at {x : SSt} {r : List (List UInt8)} (h : x.at_ ≠ 6) : rdChange x r = none := if_neg h
theorem rdC_yes {x : SSt} {r : List (List UInt8)} {m0 m1 m2 m3 m4 : Int} {rl : List Lk} {y : Lk} (h : numsO r = some [m0, m1, m2, m3, m4]) (h6 : x.at_ = 6) (hl : x.sc.lk = rl ++ [y]) :
    rdChange x r = if m0 = y.A ∧ m1 = y.B then some ⟨{ x.sc with lk := lastL x.sc.lk (fun l => { l with ch := l.ch ++ [⟨m2, m3, m4⟩] }) }, 6⟩ else none := by
  unfold rdChange
  rw [if_pos h6, h]
  dsimp only
  rw [hl, List.getLast?_append]
  simp
set_option maxRecDepth 100000 in
set_option maxHeartbeats 4000000 in
theorem change {W0 : Two} {w : World} {b : Nat} {x : SSt} {p : Option Addr} {n cap : Nat} {r : List (List UInt8)} (h : RdX W0 b w x) (hsz : SLe 100000 x) (hlk : x.at_ = 6 → 0 < x.sc.lk.length) (hv : VRow strC 1 w p n cap (wChange :: r)) (hn : n ≤ 100000) (hl : ∀ y ∈ wChange :: r, y.length ≤ 1000000) :
    Calls Tryz.prog 81 #[.pointer (some ⟨b, 0, none⟩), .slice p n cap] w fun e w' => RdR W0 b (rdChange x r) e w' := by
  have hlen := hv.len
  subst hlen
  obtain ⟨hb0, hb1, ns, ls, vn, vl, vf, hR⟩ := h
  have hx1 := hR.hl; have hle := hsz.lk; have hfl := hsz.ch
  have HR := Lib.hid hR; have HV := Lib.hid hv; have H0 := Lib.hid hb0; have H1 := Lib.hid hb1; have HL := Lib.hid hl
  obtain ⟨bw, off, hp, s0, lw⟩ := HV.out.str (Only.refl [] w) (k := 0) (by simp)
  subst hp
  simp only [Nat.add_zero, List.getD_cons_zero] at s0
  have tO : (bstr wChange).toList = [99, 104, 97, 110, 103, 101] := by rw [Lib.toList_data]; rfl
  generalize bstr wChange = S0 at s0 tO
  have HN := Lib.hid (rNumbers 1 (by simp) hv hn hl)
  rw [show (wChange :: r).drop 1 = r from rfl] at HN
  have hwp : 0 < (wChange :: r).length := by simp
  generalize (wChange :: r).length = nn at hn hwp ⊢ HN
  have hwp2 : (0 : Int) < (nn : Int) := by omega
  clear hR hv hl hb0 hb1 hsz
  obtain ⟨res, hres⟩ : ∃ res, res = rdChange x r := ⟨_, rfl⟩
  rw [← hres]
  go_enter Tryz.func81, Tryz.ntmps81
  go_wp2_with fail
  refine HN.out.mono ?_
  rintro e w2 ⟨hv4, ho2⟩
  have R2 := Lib.hid (HR.out.kept ho2); have O2 := Lib.hid (H1.out.nil_trans ho2)
  clear HN H1 HV lw s0
  rcases snoc_or ls with hls | ⟨rl, y, hls⟩
  · subst hls
    have h6 : x.at_ ≠ 6 := fun e => by have := hlk e; rw [hx1] at this; simp at this
    have HQ : Hid (res = none) := Lib.hid (by rw [hres]; exact rdC_at h6)
    have d6 : ((x.at_ : Int) != 6) = true := by rw [bne_iff_ne]; omega
    have d6' : ((x.at_ : Int) == 6) = false := by rw [beq_eq_false_iff_ne]; omega
    obtain ⟨pl0, cl0, hvl0, _⟩ := HR.out.lk.vrow lkC_len
    subst hvl0
    simp only [List.length_nil] at R2
    have q1 := cell_got R2.out.box 1; have q5 := cell_got R2.out.box 5; have lq := got_lt R2.out.box
    clear hres ho2 HR hx1 hfl hle hlk h6
    cases hq : numsO r with
    | none =>
      rw [hq] at hv4
      have he : e = .returned (.tuple #[.slice none 0 0, .bool false]) := hv4
      subst he
      clear hv4 hq
      go_upto_region 4 with (fail)
      refine wp_region_grown [0, 1, 2, 3, 4, 5, 6, 7, 8, 9, 10, 11, 12, 13, 14, 15, 16, 17, 18, 19, 20, 21, 22, 23, 24, 25, 26, 27, 28, 29, 30, 31, 32, 33, 34, 35, 36, 37, 38, 39, 40, 41, 42, 43] [] (by kernel_rfl) (by kernel_rfl) ?_
      simp only [pick, List.map_cons, List.map_nil, List.getD_cons_succ, List.getD_cons_zero]
      iterate 1 (refine wpQuiet_step (fun K hK => ?_); go_simp; refine hK _ ?_; clear hK K)
      repeat (go_big_quiet_step (fail))
      refine wpQuiet_nil ?_
      intro w4 hw4
      have o4 := only_of_plus hw4
      clear hw4
      have O4 := Lib.hid (O2.out.nil_trans o4)
      clear o4
      go_wp2
      go_ret
      rw [HQ.out]
      exact ⟨rfl, O4.out⟩
    | some ms =>
      rw [hq] at hv4
      obtain ⟨v, he, hown⟩ : ∃ v, e = .returned (.tuple #[v, .bool true]) ∧ Own itC 3 1 w.heap.size w2 v ms := hv4
      subst he
      obtain ⟨p', cap', rfl, _⟩ := hown.vrow itC_len
      clear hown hq
      generalize ms.length = L
      obtain ⟨bL, hbL⟩ : ∃ bL, ((L : Int) != 5) = bL := ⟨_, rfl⟩
      cases bL
      · have hbL' : ((L : Int) == 5) = true := by rw [bne_eq_false_iff_eq] at hbL; rw [beq_iff_eq]; exact hbL
        go_upto_region 4 with (fail)
        refine wp_region_grown [0, 1, 2, 3, 4, 5, 6, 7, 8, 9, 10, 11, 12, 13, 14, 15, 16, 17, 18, 19, 20, 21, 22, 23, 24, 25, 26, 27, 28, 29, 30, 31, 32, 33, 34, 35, 36, 37, 38, 39, 40, 41, 42, 43] [] (by kernel_rfl) (by kernel_rfl) ?_
        simp only [pick, List.map_cons, List.map_nil, List.getD_cons_succ, List.getD_cons_zero]
        iterate 1 (refine wpQuiet_step (fun K hK => ?_); go_simp; refine hK _ ?_; clear hK K)
        repeat (go_big_quiet_step (fail))
        refine wpQuiet_nil ?_
        intro w4 hw4
        have o4 := only_of_plus hw4
        clear hw4
        have O4 := Lib.hid (O2.out.nil_trans o4)
        clear o4
        go_wp2
        go_ret
        rw [HQ.out]
        exact ⟨rfl, O4.out⟩
      · have hbL' : ((L : Int) == 5) = false := by rw [bne_iff_ne] at hbL; rw [beq_eq_false_iff_ne]; exact hbL
        go_upto_region 4 with (fail)
        refine wp_region_grown [0, 1, 2, 3, 4, 5, 6, 7, 8, 9, 10, 11, 12, 13, 14, 15, 16, 17, 18, 19, 20, 21, 22, 23, 24, 25, 26, 27, 28, 29, 30, 31, 32, 33, 34, 35, 36, 37, 38, 39, 40, 41, 42, 43] [] (by kernel_rfl) (by kernel_rfl) ?_
        simp only [pick, List.map_cons, List.map_nil, List.getD_cons_succ, List.getD_cons_zero]
        iterate 1 (refine wpQuiet_step (fun K hK => ?_); go_simp; refine hK _ ?_; clear hK K)
        repeat (go_big_quiet_step (fail))
        refine wpQuiet_nil ?_
        intro w4 hw4
        have o4 := only_of_plus hw4
        clear hw4
        have O4 := Lib.hid (O2.out.nil_trans o4)
        clear o4
        go_wp2
        go_ret
        rw [HQ.out]
        exact ⟨rfl, O4.out⟩
  · subst hls
    have hrl : rl.length ≤ 100000 := by rw [hx1] at hle; simp at hle; omega
    have hyc := hfl y.l (by rw [hx1]; simp)
    obtain ⟨gn, capn, hvn, hgB, hrown⟩ := own_at HR.out.lk
    subst hvn
    have N2 := Lib.hid (hrown.kept ho2 (by simp))
    have HCH : Hid (∀ k, (Value.slice y.p y.l.ch.length y.c).ownBlock = some k → k < w.heap.size) := Lib.hid (fun k hk => by obtain ⟨_, _, hq⟩ := (HR.out.ch y (by simp)).block hk; exact hq.lt)
    have HRES := Lib.hid hres
    have hwl : IntKind.i64.wrap (rl.length : Int) = (rl.length : Int) := by rw [IntKind.wrap_i64]; omega
    have hsub : ((rl.length : Int) + 1 - 1) = rl.length := by omega
    have hwl2 : IntKind.i64.wrap ((rl.length : Int) + 1 - 1) = (rl.length : Int) := by rw [hsub]; exact hwl
    have hkl : (rl.length : Int) < (rl.length : Int) + 1 := by omega
    have hkn : (0 : Int) ≤ (rl.length : Int) := by omega
    have HX1 := Lib.hid hx1
    clear hres hfl hle hrown hx1 ho2 HR hlk
    have q1 := cell_got R2.out.box 1; have q5 := cell_got R2.out.box 5; have lq := got_lt R2.out.box
    have cA : w2.cell? ⟨gn, rl.length * 9, none⟩ = some (.int .i64 y.l.A) := N2.out.cell (i := rl.length) (j := 0) lkC_len row_last (by decide)
    have cB : w2.cell? ⟨gn, rl.length * 9 + 1, none⟩ = some (.int .i64 y.l.B) := N2.out.cell (i := rl.length) (j := 1) lkC_len row_last (by decide)
    have lP := N2.out.lt
    cases hq : numsO r with
    | none =>
      rw [hq] at hv4
      have he : e = .returned (.tuple #[.slice none 0 0, .bool false]) := hv4
      subst he
      have HQ : Hid (res = none) := Lib.hid (by rw [HRES.out]; exact rdC_none hq)
      clear hv4 hq HRES
      go_upto_region 4 with (fail)
      refine wp_region_grown [0, 1, 2, 3, 4, 5, 6, 7, 8, 9, 10, 11, 12, 13, 14, 15, 16, 17, 18, 19, 20, 21, 22, 23, 24, 25, 26, 27, 28, 29, 30, 31, 32, 33, 34, 35, 36, 37, 38, 39, 40, 41, 42, 43] [] (by kernel_rfl) (by kernel_rfl) ?_
      simp only [pick, List.map_cons, List.map_nil, List.getD_cons_succ, List.getD_cons_zero]
      iterate 1 (refine wpQuiet_step (fun K hK => ?_); go_simp; refine hK _ ?_; clear hK K)
      repeat (go_big_quiet_step (fail))
      refine wpQuiet_nil ?_
      intro w4 hw4
      have o4 := only_of_plus hw4
      clear hw4
      have O4 := Lib.hid (O2.out.nil_trans o4)
      clear o4
      go_wp2
      go_ret
      rw [HQ.out]
      exact ⟨rfl, O4.out⟩
    | some ms =>
      rw [hq] at hv4
      obtain ⟨v, he, hown⟩ : ∃ v, e = .returned (.tuple #[v, .bool true]) ∧ Own itC 3 1 w.heap.size w2 v ms := hv4
      subst he
      by_cases hL : ms.length = 5
      · obtain ⟨m0, m1, m2, m3, m4, rfl⟩ : ∃ m0 m1 m2 m3 m4, ms = [m0, m1, m2, m3, m4] := by
          rcases ms with _ | ⟨m0, _ | ⟨m1, _ | ⟨m2, _ | ⟨m3, _ | ⟨m4, _ | ⟨q, r⟩⟩⟩⟩⟩⟩
          · simp at hL
          · simp at hL
          · simp at hL
          · simp at hL
          · simp at hL
          · exact ⟨m0, m1, m2, m3, m4, rfl⟩
          · simp at hL
        obtain ⟨g, capg, rfl, hgw, hrow⟩ : ∃ g capg, v = .slice (some ⟨g, 0, none⟩) 5 capg ∧ w.heap.size ≤ g ∧ RowAt itC 3 1 w2 g capg [m0, m1, m2, m3, m4] := by
          rcases hown with ⟨_, h⟩ | h
          · cases h
          · exact h
        have HGW := Lib.hid hgw
        have M2 := Lib.hid hrow
        have c0 : w2.cell? ⟨g, 0, none⟩ = some (.int .i64 m0) := hrow.cell (i := 0) (j := 0) itC_len rfl (by decide)
        have c1 : w2.cell? ⟨g, 1, none⟩ = some (.int .i64 m1) := hrow.cell (i := 1) (j := 0) itC_len rfl (by decide)
        have lg := hrow.lt
        clear hown hgw hrow hL
        by_cases h6 : x.at_ = 6
        · have d6 : ((x.at_ : Int) != 6) = false := by rw [bne_eq_false_iff_eq]; omega
          have d6' : ((x.at_ : Int) == 6) = true := by rw [beq_iff_eq]; omega
          have HY := Lib.hid (HRES.out.trans (rdC_yes (rl := rl.map LkW.l) (y := y.l) hq h6 (by rw [HX1.out, List.map_append]; rfl)))
          clear hq HRES
          by_cases hA : m0 = y.l.A
          · have dA : (m0 != y.l.A) = false := by simp [hA]
            have dA' : (m0 == y.l.A) = true := by simp [hA]
            by_cases hB : m1 = y.l.B
            · have dB : (m1 != y.l.B) = false := by simp [hB]
              have dB' : (m1 == y.l.B) = true := by simp [hB]
              have HQ : Hid (res = some ⟨{ x.sc with lk := lastL x.sc.lk (fun l => { l with ch := l.ch ++ [⟨m2, m3, m4⟩] }) }, 6⟩) := Lib.hid (by rw [HY.out]; exact if_pos ⟨hA, hB⟩)
              clear HY hA hB
              go_upto_region 4 with (fail)
              refine wp_region_grown [0, 1, 2, 3, 4, 5, 6, 7, 8, 9, 10, 11, 12, 13, 14, 15, 16, 17, 18, 19, 20, 21, 22, 23, 24, 25, 26, 27, 28, 29, 30, 31, 32, 33, 34, 35, 36, 37, 38, 39, 40, 41, 42, 43] [] (by kernel_rfl) (by kernel_rfl) ?_
              simp only [pick, List.map_cons, List.map_nil, List.getD_cons_succ, List.getD_cons_zero]
              iterate 1 (refine wpQuiet_step (fun K hK => ?_); go_simp; refine hK _ ?_; clear hK K)
              repeat (go_big_quiet_step (fail))
              refine wpQuiet_nil ?_
              intro w4 hw4
              have o4 := only_of_plus hw4
              clear hw4
              have R4 := Lib.hid (R2.out.kept o4); have O4 := Lib.hid (O2.out.nil_trans o4); have N4 := Lib.hid (N2.out.kept o4 (by simp)); have M4 := Lib.hid (M2.out.kept o4 (by simp))
              clear o4 c0 c1 lg q1 q5 lq cA cB lP R2 O2 N2 M2
              have q1 := cell_got R4.out.box 1; have lq := got_lt R4.out.box
              have c2 : w4.cell? ⟨g, 2, none⟩ = some (.int .i64 m2) := M4.out.cell (i := 2) (j := 0) itC_len rfl (by decide)
              have c3 : w4.cell? ⟨g, 3, none⟩ = some (.int .i64 m3) := M4.out.cell (i := 3) (j := 0) itC_len rfl (by decide)
              have c4 : w4.cell? ⟨g, 4, none⟩ = some (.int .i64 m4) := M4.out.cell (i := 4) (j := 0) itC_len rfl (by decide)
              have lg := M4.out.lt
              go_upto_region 6 with (fail)
              have cS : w4.cell? ⟨gn, rl.length * 9 + 8, none⟩ = some (Value.slice y.p y.l.ch.length y.c) := N4.out.cell (i := rl.length) (j := 8) lkC_len row_last (by decide)
              have lP := N4.out.lt
              have HCO := Lib.hid (R4.out.ch y (by simp))
              obtain ⟨T, hT⟩ : ∃ T, T = (Value.slice y.p y.l.ch.length y.c).ownBlock.toList := ⟨_, rfl⟩
              have hbT : b ∉ T := fun hm => by rw [hT] at hm; exact HCO.out.ne_box R4.out.box (by decide) (by simpa using hm)
              have hnT : gn ∉ T := fun hm => by
                rw [hT] at hm
                obtain ⟨_, _, hq⟩ := HCO.out.block (by simpa using hm)
                exact hq.ne N4.out (by decide) rfl
              have hgT : g ∉ T := fun hm => by
                rw [hT] at hm
                have h1 := HCH.out g (by simpa using hm); have h2 := HGW.out
                omega
              have HTE := Lib.hid hT
              clear hT
              refine wp_region_calm2 [0, 1, 2, 3, 4, 5, 6, 7, 8, 9, 10, 11, 12, 13, 14, 15, 16, 17, 18, 19, 20, 21, 22, 23, 24, 25] [28, 29, 30, 31] (OnlyC T w4) (by kernel_rfl) (by kernel_rfl) ?_
              simp only [pick, List.map_cons, List.map_nil, List.getD_cons_succ, List.getD_cons_zero]
              iterate 26 (refine wpCalm_step (fun K hK => ?_); go_simp; refine hK _ ?_; clear hK K)
              refine wpCalm_nil ?_
              clear cS lP c2 c3 c4 lg q1 lq
              refine Rest.by (X := Nat × Nat) (fun q a => ((((a.put (some 98) (.slice (some ⟨w4.heap.size, 0, none⟩) 1 1)).put (some 99) (.slice (some ⟨q.1, 0, none⟩) (y.l.ch.length + 1) q.2)).put (some 100) (.pointer (some ⟨gn, rl.length * 9, none⟩))).put (some 101) (.pointer (some ⟨gn, rl.length * 9 + 2, none⟩))).put (some 102) (.pointer (some ⟨gn, rl.length * 9 + 8, none⟩)))
                (fun q w' => Ob b W0 w' ∧ RdW W0.heap.size b w' (⟨{ x.sc with lk := lastL x.sc.lk (fun l => { l with ch := l.ch ++ [⟨m2, m3, m4⟩] }) }, 6⟩ : SSt) ns (rl ++ [⟨{ y.l with ch := y.l.ch ++ [⟨m2, m3, m4⟩] }, some ⟨q.1, 0, none⟩, q.2⟩]) vn (.slice (some ⟨gn, 0, none⟩) (rl.length + 1) capn) vf) ?_ ?_
              · rintro ⟨g9, cap9⟩ w9 ⟨ho9, hr9⟩
                simp only [Act.put, List.setIfInBounds_toArray, List.set_cons_succ, List.set_cons_zero]
                have O9 := Lib.hid ho9; have R9 := Lib.hid hr9
                clear ho9 hr9
                go_wp2
                go_ret
                rw [HQ.out]
                exact ⟨rfl, H0.out, O9.out, ns, _, vn, _, vf, R9.out⟩
              · refine wpAnyC_next [26] (by kernel_rfl) (by simp) (.inr (onlyC (Only.refl T w4).drew)) ?_
                simp only [List.mem_cons, List.not_mem_nil, or_false, forall_eq]
                refine wpOp_one rfl ?_
                go_wp2
                simp only [nrm]
                refine allocd_abs (G := wpAnyC _ _ _ _ _ _ _ _ _) ?_
                intro wa hna hoa hsa
                have MA := Lib.hid hna; have oA := Lib.hid hoa; have RA := Lib.hid (R4.out.kept hoa); have OA := Lib.hid (O4.out.nil_trans hoa); have CA := Lib.hid (HCO.out.kept hoa)
                clear hna hsa hoa
                refine wpAnyC_next [27] (by kernel_rfl) (by simp) (.inr (onlyC (oA.out.mono (by simp)))) ?_
                simp only [List.mem_cons, List.not_mem_nil, or_false, forall_eq]
                refine wpOp_one rfl ?_
                refine wpList_append_B (B := W0.heap.size) rfl _ _ 50 rfl 98 (.agg #[.int .i64 0, .int .i64 0, .int .i64 0]) 3 24 Tryz.underlying50 (by kernel_rfl) rfl (by decide) chC_len chC_one y.l.ch (.slice y.p y.l.ch.length y.c) rfl CA.out w4.heap.size (⟨m2, m3, m4⟩ : Ch) rfl (fun j u hj => ?_) (by simp [maxLen]; omega) (by omega) (by have := OA.out.size; omega) ?_
                · rw [cell_got MA.out]; rw [← hj]; simp [chC]
                · intro g9 cap9 wb hown hob hg9
                  rw [← HTE.out] at hob
                  have WB := Lib.hid hown; have oB := Lib.hid hob; have oS := Lib.hid ((oA.out.mono (S' := T) (by simp)).trans hob (fun x h => .inl h)); have HG9 := Lib.hid hg9
                  clear hown hob hg9
                  simp only [wpList, nrm]
                  refine wpAnyC_next [28] (by kernel_rfl) (by simp) (.inr (onlyC oS.out)) ?_
                  simp only [List.mem_cons, List.not_mem_nil, or_false, forall_eq]
                  refine wpOp_one rfl ?_
                  go_wp2
                  simp only [nrm]
                  refine wpAnyC_next [29] (by kernel_rfl) (by simp) (.inr (onlyC oS.out)) ?_
                  simp only [List.mem_cons, List.not_mem_nil, or_false, forall_eq]
                  refine wpOp_one rfl ?_
                  go_wp2
                  simp only [nrm]
                  refine wpAnyC_next [30] (by kernel_rfl) (by simp) (.inr (onlyC oS.out)) ?_
                  simp only [List.mem_cons, List.not_mem_nil, or_false, forall_eq]
                  refine wpOp_one rfl ?_
                  go_wp2
                  simp only [nrm]
                  refine wpAnyC_next [31] (by kernel_rfl) (by simp) (.inr (onlyC oS.out)) ?_
                  simp only [List.mem_cons, List.not_mem_nil, or_false, forall_eq]
                  refine wpOp_one rfl ?_
                  have NB := Lib.hid (N4.out.kept oS.out hnT)
                  have cD : wb.cell? ⟨gn, rl.length * 9 + 8, none⟩ = some (Value.slice y.p y.l.ch.length y.c) := NB.out.cell (i := rl.length) (j := 8) lkC_len row_last (by decide)
                  have fD := NB.out.frozen (rl.length * 9 + 8); have lD := NB.out.lt
                  go_wp2
                  simp only [nrm]
                  clear cD fD lD
                  have hz := oA.out.size
                  have hSt := RA.out.setL (y' := ⟨{ y.l with ch := y.l.ch ++ [⟨m2, m3, m4⟩] }, some ⟨g9, 0, none⟩, cap9⟩) (x' := (⟨{ x.sc with lk := lastL x.sc.lk (fun l => { l with ch := l.ch ++ [⟨m2, m3, m4⟩] }) }, 6⟩ : SSt)) (j := 8) (u := .slice (some ⟨g9, 0, none⟩) (y.l.ch.length + 1) cap9) oB.out hbT
                    (fun k hk => by rw [HTE.out] at hk; exact RA.out.nd.ne_of CA.out (by decide) k hk) (fun k hk => by rw [HTE.out] at hk; exact RA.out.lk.ne_of CA.out (by decide) k hk) (fun k hk => by rw [HTE.out] at hk; exact RA.out.ft.ne_of CA.out (by decide) k hk)
                    (fun z hz k hk => by rw [HTE.out] at hk; exact ptr_ne (RA.out.ch z (by simp [hz])) CA.out (RA.out.apL rl y rfl z hz) hk)
                    (fun z hz k hk => by rw [HTE.out] at hk; exact (RA.out.sg z hz).ne_of CA.out (by decide) k hk) (fun z hz k hk => by rw [HTE.out] at hk; exact (RA.out.sv z hz).ne_of CA.out (by decide) k hk)
                    (by simpa using WB.out) (fun z hz => .inl (ptr_new (RA.out.ch z (by simp [hz])) CA.out (RA.out.apL rl y rfl z hz) (Nat.le_refl _) HG9.out)) (by decide) (by simp [lkC]) rfl (by rw [show ((⟨{ x.sc with lk := lastL x.sc.lk (fun l => { l with ch := l.ch ++ [⟨m2, m3, m4⟩] }) }, 6⟩ : SSt)).sc.lk = lastL x.sc.lk (fun l => { l with ch := l.ch ++ [⟨m2, m3, m4⟩] }) from rfl, HX1.out, List.map_append]; exact lastL_snoc _ _ _) rfl rfl rfl h6.symm
                  obtain ⟨gn', capn', he1, hgB', hgs, hRd⟩ := hSt
                  cases he1
                  have hOn : Ob b W0 wb := Ob.row (S := T) OA.out oB.out (fun k hk => by
                    rw [HTE.out] at hk
                    exact CA.out.blockC (by simpa using hk))
                  have hfin := hOn.setCell (p := ⟨gn, rl.length * 9 + 8, none⟩) (.inr hgB') (.slice (some ⟨g9, 0, none⟩) (y.l.ch.length + 1) cap9)
                  refine wpAnyC_done (by kernel_rfl) (.inl (late_of (by kernel_rfl))) ?_
                  first | exact ⟨(g9, cap9), rfl, hfin, hRd⟩ | exact ⟨g9, cap9, rfl, hfin, hRd⟩
            · have dB : (m1 != y.l.B) = true := by simp [hB]
              have dB' : (m1 == y.l.B) = false := by simp [hB]
              have HQ : Hid (res = none) := Lib.hid (by rw [HY.out]; exact if_neg (fun q => hB q.2))
              clear HY hA hB
              go_upto_region 4 with (fail)
              refine wp_region_grown [0, 1, 2, 3, 4, 5, 6, 7, 8, 9, 10, 11, 12, 13, 14, 15, 16, 17, 18, 19, 20, 21, 22, 23, 24, 25, 26, 27, 28, 29, 30, 31, 32, 33, 34, 35, 36, 37, 38, 39, 40, 41, 42, 43] [] (by kernel_rfl) (by kernel_rfl) ?_
              simp only [pick, List.map_cons, List.map_nil, List.getD_cons_succ, List.getD_cons_zero]
              iterate 1 (refine wpQuiet_step (fun K hK => ?_); go_simp; refine hK _ ?_; clear hK K)
              repeat (go_big_quiet_step (fail))
              refine wpQuiet_nil ?_
              intro w4 hw4
              have o4 := only_of_plus hw4
              clear hw4
              have O4 := Lib.hid (O2.out.nil_trans o4)
              clear o4
              go_wp2
              go_ret
              rw [HQ.out]
              exact ⟨rfl, O4.out⟩
          · have dA : (m0 != y.l.A) = true := by simp [hA]
            have dA' : (m0 == y.l.A) = false := by simp [hA]
            have HQ : Hid (res = none) := Lib.hid (by rw [HY.out]; exact if_neg (fun q => hA q.1))
            clear HY hA
            go_upto_region 4 with (fail)
            refine wp_region_grown [0, 1, 2, 3, 4, 5, 6, 7, 8, 9, 10, 11, 12, 13, 14, 15, 16, 17, 18, 19, 20, 21, 22, 23, 24, 25, 26, 27, 28, 29, 30, 31, 32, 33, 34, 35, 36, 37, 38, 39, 40, 41, 42, 43] [] (by kernel_rfl) (by kernel_rfl) ?_
            simp only [pick, List.map_cons, List.map_nil, List.getD_cons_succ, List.getD_cons_zero]
            iterate 1 (refine wpQuiet_step (fun K hK => ?_); go_simp; refine hK _ ?_; clear hK K)
            repeat (go_big_quiet_step (fail))
            refine wpQuiet_nil ?_
            intro w4 hw4
            have o4 := only_of_plus hw4
            clear hw4
            have O4 := Lib.hid (O2.out.nil_trans o4)
            clear o4
            go_wp2
            go_ret
            rw [HQ.out]
            exact ⟨rfl, O4.out⟩
        · have d6 : ((x.at_ : Int) != 6) = true := by rw [bne_iff_ne]; omega
          have d6' : ((x.at_ : Int) == 6) = false := by rw [beq_eq_false_iff_ne]; omega
          have HQ : Hid (res = none) := Lib.hid (by rw [HRES.out]; exact rdC_at h6)
          clear hq HRES h6
          go_upto_region 4 with (fail)
          refine wp_region_grown [0, 1, 2, 3, 4, 5, 6, 7, 8, 9, 10, 11, 12, 13, 14, 15, 16, 17, 18, 19, 20, 21, 22, 23, 24, 25, 26, 27, 28, 29, 30, 31, 32, 33, 34, 35, 36, 37, 38, 39, 40, 41, 42, 43] [] (by kernel_rfl) (by kernel_rfl) ?_
          simp only [pick, List.map_cons, List.map_nil, List.getD_cons_succ, List.getD_cons_zero]
          iterate 1 (refine wpQuiet_step (fun K hK => ?_); go_simp; refine hK _ ?_; clear hK K)
          repeat (go_big_quiet_step (fail))
          refine wpQuiet_nil ?_
          intro w4 hw4
          have o4 := only_of_plus hw4
          clear hw4
          have O4 := Lib.hid (O2.out.nil_trans o4)
          clear o4
          go_wp2
          go_ret
          rw [HQ.out]
          exact ⟨rfl, O4.out⟩
      · have HQ : Hid (res = none) := Lib.hid (by rw [HRES.out]; exact rdC_len hq hL)
        obtain ⟨p', cap', rfl, _⟩ := hown.vrow itC_len
        have hbL : ((ms.length : Int) != 5) = true := by rw [bne_iff_ne]; omega
        have hbL' : ((ms.length : Int) == 5) = false := by rw [beq_eq_false_iff_ne]; omega
        clear hown hq hL HRES
        generalize ms.length = L at hbL hbL' ⊢
        go_upto_region 4 with (fail)
        refine wp_region_grown [0, 1, 2, 3, 4, 5, 6, 7, 8, 9, 10, 11, 12, 13, 14, 15, 16, 17, 18, 19, 20, 21, 22, 23, 24, 25, 26, 27, 28, 29, 30, 31, 32, 33, 34, 35, 36, 37, 38, 39, 40, 41, 42, 43] [] (by kernel_rfl) (by kernel_rfl) ?_
        simp only [pick, List.map_cons, List.map_nil, List.getD_cons_succ, List.getD_cons_zero]
        iterate 1 (refine wpQuiet_step (fun K hK => ?_); go_simp; refine hK _ ?_; clear hK K)
        repeat (go_big_quiet_step (fail))
        refine wpQuiet_nil ?_
        intro w4 hw4
        have o4 := only_of_plus hw4
        clear hw4
        have O4 := Lib.hid (O2.out.nil_trans o4)
        clear o4
        go_wp2
        go_ret
        rw [HQ.out]
        exact ⟨rfl, O4.out⟩
end Rf
end Go.Proofs.YthmeifdgkodjlaaGreatDoor
