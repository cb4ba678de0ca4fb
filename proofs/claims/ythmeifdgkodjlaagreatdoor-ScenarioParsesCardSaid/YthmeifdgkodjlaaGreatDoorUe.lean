/- timesyncref56's state.faultLine reads the line of a fault. Condition: the lengths. -/
import Derived.Test.YthmeifdgkodjlaaGreatDoorUa
import Derived.Test.YthmeifdgkodjlaaGreatDoorU6
namespace Go.Proofs.YthmeifdgkodjlaaGreatDoor
open Go.RowKit
namespace Rf

def FlJ (w : World) (w4 : List UInt8) (vi : Value) (wr : World) : Prop :=
  ∃ q : Nat, 1 ≤ q ∧ q ≤ 10 ∧ vi = .int .i64 q ∧ idxW w4 kinds9 1 = idxW w4 (kinds9.drop (q - 1)) q ∧ Only [] w wr
theorem numsO_four (a b c d : List UInt8) : numsO [a, b, c, d] = match numsO [a, b, c], numO d with
  | some l, some n => some (l ++ [n])
  | _, _ => none := by
  cases h1 : numO a <;> cases h2 : numO b <;> cases h3 : numO c <;> cases h4 : numO d <;> simp [numsO, h1, h2, h3, h4]
set_option maxRecDepth 100000 in
set_option maxHeartbeats 4000000 in
theorem fault {W0 : Two} {w : World} {b : Nat} {x : SSt} {p : Option Addr} {n cap : Nat} {r : List (List UInt8)} (h : RdX W0 b w x) (hsz : SLe 100000 x) (hv : VRow strC 1 w p n cap (wFault :: r)) (hn : n ≤ 100000) (hl : ∀ y ∈ wFault :: r, y.length ≤ 1000000) :
    Calls Tryz.prog 82 #[.pointer (some ⟨b, 0, none⟩), .slice p n cap] w fun e w' => RdR W0 b (rdFault x r) e w' := by
  have hlen := hv.len
  subst hlen
  obtain ⟨hb0, hb1, ns, ls, vn, vl, vf, hR⟩ := h
  have hfl := hsz.ft
  have HR := Lib.hid hR; have HV := Lib.hid hv; have H0 := Lib.hid hb0; have H1 := Lib.hid hb1; have HL := Lib.hid hl
  obtain ⟨bw, off, hp, _, lw⟩ := HV.out.str (Only.refl [] w) (k := 0) (by simp)
  subst hp
  have hcap := HV.out.le
  clear hR hv hl hb0 hb1 hsz
  have q5 := cell_got HR.out.box 5; have lq := got_lt HR.out.box
  by_cases h6 : (wFault :: r).length = 6
  · obtain ⟨a, bb, c, w4, d, rfl⟩ : ∃ a bb c w4 d, r = [a, bb, c, w4, d] := by
      rcases r with _ | ⟨a, _ | ⟨bb, _ | ⟨c, _ | ⟨w4, _ | ⟨d, _ | ⟨q, r⟩⟩⟩⟩⟩⟩
      · simp at h6
      · simp at h6
      · simp at h6
      · simp at h6
      · simp at h6
      · exact ⟨a, bb, c, w4, d, rfl⟩
      · simp at h6
    have T4 : ∀ w', Only [] w w' → w'.cell? ⟨bw, off + 4, none⟩ = some (.string (bstr w4)) := fun w' ho => by
      obtain ⟨_, _, hp4, t4, _⟩ := HV.out.str ho (k := 4) (by simp)
      cases hp4
      exact t4
    have T5 : ∀ w', Only [] w w' → w'.cell? ⟨bw, off + 5, none⟩ = some (.string (bstr d)) := fun w' ho => by
      obtain ⟨_, _, hp4, t4, _⟩ := HV.out.str ho (k := 5) (by simp)
      cases hp4
      exact t4
    have HT4 := Lib.hid T4; have HT5 := Lib.hid T5
    clear T4 T5
    have HN := Lib.hid (rNumbers (w := w) 1 (by simp) (HV.out.take 4 (by simp)) (by simp) (fun y hy => HL.out y (List.mem_of_mem_take hy)))
    rw [show ((wFault :: [a, bb, c, w4, d]).take 4).drop 1 = [a, bb, c] from rfl] at HN
    have I5 := Lib.hid (fun w' => rInteger (bstr d) w' (by rw [bstr_size]; exact HL.out d (by simp)))
    simp only [bstr_data] at I5
    unfold IntP at I5
    have HRD : Hid (rdFault x [a, bb, c, w4, d] = if whole x.at_ = true then (match numsO [a, bb, c, d] with
      | some [a, b, c, d] => (idxW w4 kinds9 1).map fun (k : Nat) => (⟨{ x.sc with ft := x.sc.ft ++ [⟨a, b, c, (k : Int), d⟩] }, 7⟩ : SSt)
      | _ => none) else none) := Lib.hid rfl
    have HN4 := Lib.hid (numsO_four a bb c d)
    generalize rdFault x [a, bb, c, w4, d] = res at HRD ⊢
    rw [h6] at hcap ⊢
    have k4 : (4 : Int) ≤ (cap : Int) := by omega
    have k4n : 4 ≤ cap := by omega
    clear h6 hn
    by_cases h2 : x.at_ < 2
    · have HQ : Hid (res = none) := Lib.hid (by rw [HRD.out, if_neg (fun q => by have := q; unfold whole at this; rw [decide_eq_true_eq] at this; omega)])
      have fa1 : decide ((x.at_ : Int) < 2) = true := decide_eq_true (by omega)
      go_enter Tryz.func82, Tryz.ntmps82
      go_wp2
      go_ret
      rw [HQ.out]
      exact ⟨rfl, H1.out⟩
    · have fa1 : decide ((x.at_ : Int) < 2) = false := decide_eq_false (by omega)
      by_cases h3 : x.at_ = 3
      · have HQ : Hid (res = none) := Lib.hid (by rw [HRD.out, if_neg (fun q => by have := q; unfold whole at this; rw [decide_eq_true_eq] at this; omega)])
        have fa2 : ((x.at_ : Int) == 3) = true := by rw [beq_iff_eq]; omega
        go_enter Tryz.func82, Tryz.ntmps82
        go_wp2
        go_ret
        rw [HQ.out]
        exact ⟨rfl, H1.out⟩
      · have fa2 : ((x.at_ : Int) == 3) = false := by rw [beq_eq_false_iff_ne]; omega
        have HM := Lib.hid (HRD.out.trans (if_pos (by unfold whole; rw [decide_eq_true_eq]; omega)))
        rw [HN4.out] at HM
        clear HRD h2 h3 HN4
        go_enter Tryz.func82, Tryz.ntmps82
        go_wp2_with fail
        refine HN.out.mono ?_
        rintro e w2 ⟨hv4, ho2⟩
        have R2 := Lib.hid (HR.out.kept ho2); have O2 := Lib.hid (H1.out.nil_trans ho2); have P2 := Lib.hid ho2
        have t5 := HT5.out w2 ho2
        have lw2 : bw < w2.heap.size := Nat.lt_of_lt_of_le lw ho2.size
        have LW := Lib.hid lw
        clear HN q5 lq lw
        cases hq : numsO [a, bb, c] with
        | none =>
          rw [hq] at hv4 HM
          have he : e = .returned (.tuple #[.slice none 0 0, .bool false]) := hv4
          subst he
          have HQ : Hid (res = none) := Lib.hid HM.out
          clear hv4 hq HM ho2 HR fa1 fa2
          go_wp2_with fail
          refine (I5.out w2).mono ?_
          rintro e w3 ⟨rfl, rfl⟩
          go_wp2
          go_ret
          rw [HQ.out]
          exact ⟨rfl, O2.out⟩
        | some ms =>
          rw [hq] at hv4 HM
          obtain ⟨v, he, hown⟩ : ∃ v, e = .returned (.tuple #[v, .bool true]) ∧ Own itC 3 1 w.heap.size w2 v ms := hv4
          subst he
          have hml := numsO_len hq
          obtain ⟨m0, m1, m2, rfl⟩ : ∃ m0 m1 m2, ms = [m0, m1, m2] := by
            rcases ms with _ | ⟨m0, _ | ⟨m1, _ | ⟨m2, _ | ⟨q, r⟩⟩⟩⟩
            · simp at hml
            · simp at hml
            · simp at hml
            · exact ⟨m0, m1, m2, rfl⟩
            · simp at hml
          obtain ⟨g, capg, rfl, hgw, hrow⟩ : ∃ g capg, v = .slice (some ⟨g, 0, none⟩) 3 capg ∧ w.heap.size ≤ g ∧ RowAt itC 3 1 w2 g capg [m0, m1, m2] := by
            rcases hown with ⟨_, h⟩ | h
            · cases h
            · exact h
          have HGW := Lib.hid hgw
          have M2 := Lib.hid hrow
          have HVL : Hid (∀ k ∈ vf.ownBlock.toList, k < w.heap.size) := Lib.hid (fun k hk => by obtain ⟨_, _, hq⟩ := HR.out.ft.block (by simpa using hk); exact hq.lt)
          clear hown hgw hrow hml hq ho2 HR fa1 fa2
          go_wp2_with fail
          refine (I5.out w2).mono ?_
          rintro e w3 ⟨rfl, rfl⟩
          clear I5 t5 lw2
          generalize numO d = o at HM ⊢
          rcases o with _ | m3
          · have HQ : Hid (res = none) := Lib.hid HM.out
            simp only [Option.isSome_none, Option.getD_none]
            clear HM
            go_wp2
            go_ret
            rw [HQ.out]
            exact ⟨rfl, O2.out⟩
          · have HX : Hid (res = (idxW w4 kinds9 1).map fun (k : Nat) => (⟨{ x.sc with ft := x.sc.ft ++ [⟨m0, m1, m2, (k : Int), m3⟩] }, 7⟩ : SSt)) := Lib.hid HM.out
            simp only [Option.isSome_some, Option.getD_some]
            clear HM
            go_wp2
            go_loopw [9] (fun vi wr => FlJ w2 w4 vi wr) (fun vi _ => 10 - (intOf vi).toNat)
            case atStart => exact ⟨1, by decide, by decide, rfl, rfl, Only.refl _ _⟩
            case round =>
              obtain ⟨q, hq1, hq10, rfl, hix, ho⟩ := hrel
              have HIX := Lib.hid hix; have RR := Lib.hid (R2.out.kept ho); have OR := Lib.hid (O2.out.nil_trans ho); have PR := Lib.hid (P2.out.nil_trans ho); have MR := Lib.hid (M2.out.kept ho (by simp)); have QR := Lib.hid ho
              clear hix ho
              by_cases hlt : q ≤ 9
              · have hdr := idxW_drop (w := w4) (k := q - 1) (by omega)
                rw [show q - 1 + 1 = q by omega] at hdr
                have l1 : decide ((q : Int) ≤ 9) = true := decide_eq_true (by omega)
                have l2 : decide (q ≤ 9) = true := decide_eq_true (by omega)
                have t4 := HT4.out wr PR.out
                have lw4 : bw < wr.heap.size := Nat.lt_of_lt_of_le LW.out PR.out.size
                have RK := Lib.hid (rKind q hq1 hlt)
                have heq : ((bstr (kinds9.getD (q - 1) [])).toList == (bstr w4).toList) = decide (kinds9.getD (q - 1) [] = w4) := str_eq _ _
                have HDR := Lib.hid hdr
                clear hdr
                generalize bstr w4 = S4 at t4 heq
                generalize bstr (kinds9.getD (q - 1) []) = K4 at RK heq
                by_cases hk : kinds9.getD (q - 1) [] = w4
                · rw [decide_eq_true hk] at heq
                  go_upto_region 10 with (fail)
                  refine wp_region_grown [0, 1, 2, 3, 4, 5] [] (by kernel_rfl) (by kernel_rfl) ?_
                  simp only [pick, List.map_cons, List.map_nil, List.getD_cons_succ, List.getD_cons_zero]
                  iterate 1 (refine wpQuiet_step (fun K hK => ?_); go_simp; refine hK _ ?_; clear hK K)
                  refine wpQuiet_enter_w (by kernel_rfl) 64 #[.int .i64 q] (fun _ => by kernel_rfl) (.string K4) (grown_only2 fun w' _ => RK.out w') ?_
                  iterate 4 (refine wpQuiet_step (fun K hK => ?_); go_simp; refine hK _ ?_; clear hK K)
                  refine wpQuiet_nil ?_
                  intro w5 hw5
                  have o5 := only_of_plus hw5
                  have R5 := Lib.hid (RR.out.kept o5); have O5 := Lib.hid (OR.out.nil_trans o5); have M5 := Lib.hid (MR.out.kept o5 (by simp)); have Q5 := Lib.hid (QR.out.nil_trans o5)
                  clear hw5 o5 t4 lw4
                  have HQ : Hid (res = some (⟨{ x.sc with ft := x.sc.ft ++ [⟨m0, m1, m2, (q : Int), m3⟩] }, 7⟩ : SSt)) := Lib.hid (by rw [HX.out, HIX.out, HDR.out, if_pos hk]; rfl)
                  clear hk HX
                  have c0 : w5.cell? ⟨g, 0, none⟩ = some (.int .i64 m0) := M5.out.cell (i := 0) (j := 0) itC_len rfl (by decide)
                  have c1 : w5.cell? ⟨g, 1, none⟩ = some (.int .i64 m1) := M5.out.cell (i := 1) (j := 0) itC_len rfl (by decide)
                  have c2 : w5.cell? ⟨g, 2, none⟩ = some (.int .i64 m2) := M5.out.cell (i := 2) (j := 0) itC_len rfl (by decide)
                  have lg := M5.out.lt
                  have q2 := cell_got R5.out.box 2; have lq := got_lt R5.out.box
                  obtain ⟨S, hS⟩ : ∃ S, S = vf.ownBlock.toList := ⟨_, rfl⟩
                  have hbS : b ∉ S := fun hm => by rw [hS] at hm; exact R5.out.ft.ne_box R5.out.box (by decide) (by simpa using hm)
                  have hgS : g ∉ S := fun hm => by rw [hS] at hm; have h1 := HVL.out g hm; have h2 := HGW.out; omega
                  have HSE := Lib.hid hS
                  clear hS
                  go_wp2_with fail
                  refine wp_region_calm2 [0, 1, 2, 3, 4, 5, 6, 7, 8, 9, 10, 11, 12, 13, 14, 15, 16, 17] [20, 21, 22, 23] (OnlyC S w5) (by kernel_rfl) (by kernel_rfl) ?_
                  simp only [pick, List.map_cons, List.map_nil, List.getD_cons_succ, List.getD_cons_zero]
                  iterate 18 (refine wpCalm_step (fun K hK => ?_); go_simp; refine hK _ ?_; clear hK K)
                  refine wpCalm_nil ?_
                  clear q2 lq c0 c1 c2 lg
                  refine Rest.by (X := Nat × Nat) (fun y a => ((((a.put (some 74) (.slice (some ⟨w5.heap.size, 0, none⟩) 1 1)).put (some 75) (.slice (some ⟨y.1, 0, none⟩) (x.sc.ft.length + 1) y.2)).put (some 76) (.pointer (some ⟨b, 0, none⟩))).put (some 77) (.pointer (some ⟨b, 0, none⟩))).put (some 78) (.pointer (some ⟨b, 2, none⟩)))
                    (fun y w' => Ob b W0 w' ∧ RdW W0.heap.size b w' (⟨{ x.sc with ft := x.sc.ft ++ [⟨m0, m1, m2, (q : Int), m3⟩] }, x.at_⟩ : SSt) ns ls vn vl (.slice (some ⟨y.1, 0, none⟩) (x.sc.ft.length + 1) y.2)) ?_ ?_
                  · rintro ⟨g9, cap9⟩ w9 ⟨ho9, hr9⟩
                    simp only [Act.put, List.setIfInBounds_toArray, List.set_cons_succ, List.set_cons_zero]
                    have O9 := Lib.hid ho9; have R9 := Lib.hid hr9
                    clear ho9 hr9
                    have BP := Lib.hid R9.out.box
                    have lp := got_lt BP.out; have q5 := cell_got BP.out 5; have f5 := frozen_got BP.out 5
                    go_wp2
                    go_ret
                    rw [HQ.out]
                    refine ⟨rfl, H0.out, O9.out.setCell (.inl (by simp)) _, ns, ls, vn, vl, .slice (some ⟨g9, 0, none⟩) (x.sc.ft.length + 1) cap9, ?_⟩
                    exact R9.out.cell (x' := (⟨{ x.sc with ft := x.sc.ft ++ [⟨m0, m1, m2, (q : Int), m3⟩] }, 7⟩ : SSt)) ((Only.refl [b] w9).setCell (.inl (by simp)) _) (setCell_got _ BP.out) rfl rfl rfl
                  · refine wpAnyC_next [18] (by kernel_rfl) (by simp) (.inr (onlyC (Only.refl S w5).drew)) ?_
                    simp only [List.mem_cons, List.not_mem_nil, or_false, forall_eq]
                    refine wpOp_one rfl ?_
                    go_wp2
                    simp only [nrm]
                    refine allocd_abs (G := wpAnyC _ _ _ _ _ _ _ _ _) ?_
                    intro wa hna hoa hsa
                    have MA := Lib.hid hna; have oA := Lib.hid hoa; have RA := Lib.hid (R5.out.kept hoa); have OA := Lib.hid (O5.out.nil_trans hoa)
                    clear hna hsa hoa
                    refine wpAnyC_next [19] (by kernel_rfl) (by simp) (.inr (onlyC (oA.out.mono (by simp)))) ?_
                    simp only [List.mem_cons, List.not_mem_nil, or_false, forall_eq]
                    refine wpOp_one rfl ?_
                    refine wpList_append_B (B := W0.heap.size) rfl _ _ 24 rfl 60 (.agg #[.int .i64 0, .int .i64 0, .int .i64 0, .int .i64 0, .int .i64 0]) 5 40 Tryz.underlying24 (by kernel_rfl) rfl (by decide) ftC_len ftC_one x.sc.ft vf rfl RA.out.ft w5.heap.size (⟨m0, m1, m2, (q : Int), m3⟩ : Ft) rfl (fun j u' hj => ?_) (by simp [maxLen]; omega) (by omega) (Nat.le_trans (by have := OA.out.size; omega) (Nat.le_refl _)) ?_
                    · rw [cell_got MA.out]; rw [← hj]; simp [ftC]
                    · intro g9 cap9 wb hown hob _
                      rw [← HSE.out] at hob
                      have WB := Lib.hid hown; have oB := Lib.hid hob; have oS := Lib.hid ((oA.out.mono (S' := S) (by simp)).trans hob (fun x h => .inl h))
                      clear hown hob
                      simp only [wpList, nrm]
                      refine wpAnyC_next [20] (by kernel_rfl) (by simp) (.inr (onlyC oS.out)) ?_
                      simp only [List.mem_cons, List.not_mem_nil, or_false, forall_eq]
                      refine wpOp_one rfl ?_
                      go_wp2
                      simp only [nrm]
                      refine wpAnyC_next [21] (by kernel_rfl) (by simp) (.inr (onlyC oS.out)) ?_
                      simp only [List.mem_cons, List.not_mem_nil, or_false, forall_eq]
                      refine wpOp_one rfl ?_
                      go_wp2
                      simp only [nrm]
                      refine wpAnyC_next [22] (by kernel_rfl) (by simp) (.inr (onlyC oS.out)) ?_
                      simp only [List.mem_cons, List.not_mem_nil, or_false, forall_eq]
                      refine wpOp_one rfl ?_
                      go_wp2
                      simp only [nrm]
                      refine wpAnyC_next [23] (by kernel_rfl) (by simp) (.inr (onlyC oS.out)) ?_
                      simp only [List.mem_cons, List.not_mem_nil, or_false, forall_eq]
                      refine wpOp_one rfl ?_
                      have BP := Lib.hid (oS.out.got R5.out.box hbS)
                      have lp := got_lt BP.out
                      have qc := cell_got BP.out 2; have fq := frozen_got BP.out 2
                      go_wp2
                      simp only [nrm]
                      refine wpAnyC_done (by kernel_rfl) (.inl (late_of (by kernel_rfl))) ?_
                      have hA := (Ob.row (S := S) OA.out oB.out (fun k hk => by
                        rw [HSE.out] at hk
                        exact RA.out.ft.blockC (by simpa using hk))).setCell (p := ⟨b, 2, none⟩) (.inl (by simp)) (.slice (some ⟨g9, 0, none⟩) (x.sc.ft.length + 1) cap9)
                      have oB' : Only vf.ownBlock.toList wa wb := by have := oB.out; rwa [HSE.out] at this
                      have hB := RA.out.addF (x' := (⟨{ x.sc with ft := x.sc.ft ++ [⟨m0, m1, m2, (q : Int), m3⟩] }, x.at_⟩ : SSt)) oB' WB.out ((Only.refl [b] wb).setCell (p := ⟨b, 2, none⟩) (.inl (by simp)) _) (setCell_got _ BP.out) rfl rfl rfl
                      first | exact ⟨(g9, cap9), rfl, hA, hB⟩ | exact ⟨g9, cap9, rfl, hA, hB⟩
                · rw [decide_eq_false hk] at heq
                  go_upto_region 10 with (fail)
                  refine wp_region_grown [0, 1, 2, 3, 4, 5] [] (by kernel_rfl) (by kernel_rfl) ?_
                  simp only [pick, List.map_cons, List.map_nil, List.getD_cons_succ, List.getD_cons_zero]
                  iterate 1 (refine wpQuiet_step (fun K hK => ?_); go_simp; refine hK _ ?_; clear hK K)
                  refine wpQuiet_enter_w (by kernel_rfl) 64 #[.int .i64 q] (fun _ => by kernel_rfl) (.string K4) (grown_only2 fun w' _ => RK.out w') ?_
                  iterate 4 (refine wpQuiet_step (fun K hK => ?_); go_simp; refine hK _ ?_; clear hK K)
                  refine wpQuiet_nil ?_
                  intro w5 hw5
                  have o5 := only_of_plus hw5
                  have R5 := Lib.hid (RR.out.kept o5); have O5 := Lib.hid (OR.out.nil_trans o5); have M5 := Lib.hid (MR.out.kept o5 (by simp)); have Q5 := Lib.hid (QR.out.nil_trans o5)
                  clear hw5 o5 t4 lw4
                  have HI2 := Lib.hid (HIX.out.trans (HDR.out.trans (if_neg hk)))
                  clear hk
                  go_wp2
                  go_roundw
                  case rel => exact ⟨q + 1, by omega, by omega, by go_num, by rw [HI2.out, Nat.add_sub_cancel], Q5.out⟩
                  case measure => first | (simp [intOf]; done) | (simp [intOf]; omega)
              · have HQ : Hid (res = none) := Lib.hid (by
                  rw [HX.out, HIX.out, show q - 1 = 9 by omega]; rfl)
                have l1 : decide ((q : Int) ≤ 9) = false := decide_eq_false (by omega)
                have l2 : decide (q ≤ 9) = false := decide_eq_false (by omega)
                go_wp2
                go_ret
                rw [HQ.out]
                exact ⟨rfl, OR.out⟩
  · have HQ : Hid (rdFault x r = none) := Lib.hid (by
      rcases r with _ | ⟨_, _ | ⟨_, _ | ⟨_, _ | ⟨_, _ | ⟨_, _ | ⟨q, r⟩⟩⟩⟩⟩⟩
      · rfl
      · rfl
      · rfl
      · rfl
      · rfl
      · exact absurd rfl h6
      · rfl)
    generalize rdFault x r = res at HQ ⊢
    have z9 : (((wFault :: r).length : Int) != 6) = true := by rw [bne_iff_ne]; omega
    have z9' : (((wFault :: r).length : Int) == 6) = false := by rw [beq_eq_false_iff_ne]; omega
    clear h6
    generalize (wFault :: r).length = nn at z9 z9' hn ⊢
    go_enter Tryz.func82, Tryz.ntmps82
    go_wp2
    go_ret
    rw [HQ.out]
    exact ⟨rfl, H1.out⟩
end Rf
end Go.Proofs.YthmeifdgkodjlaaGreatDoor
