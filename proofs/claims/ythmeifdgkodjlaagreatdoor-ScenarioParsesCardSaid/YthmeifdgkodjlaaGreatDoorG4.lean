/- Texts of one chain: XSr XSs XSu XSv. -/
import Derived.Test.YthmeifdgkodjlaaGreatDoorG3
import Derived.Test.YthmeifdgkodjlaaGreatDoorG1
/- fault of the reader. Conditions: the library's variables are laid; the lengths. -/
namespace Go.Proofs.YthmeifdgkodjlaaGreatDoor
open Go.RowKit

/-- the parts of the scene that is read are not more than so many -/
structure SLe (n : Nat) (x : SSt) : Prop where
  nd : x.sc.nd.length ≤ n
  lk : x.sc.lk.length ≤ n
  ft : x.sc.ft.length ≤ n
  sg : ∀ y ∈ x.sc.nd, y.sg.length ≤ n ∧ y.sv.length ≤ n
  ch : ∀ y ∈ x.sc.lk, y.ch.length ≤ n
theorem idxW_drop {w : List UInt8} {k : Nat} (hk : k < 9) : idxW w (kinds9.drop k) (k + 1) = if kinds9.getD k [] = w then some (k + 1) else idxW w (kinds9.drop (k + 1)) (k + 1 + 1) := by
  have hk' : k < kinds9.length := hk
  rw [List.drop_eq_getElem_cons hk', show kinds9.getD k [] = kinds9[k] by rw [List.getD_eq_getElem?_getD, List.getElem?_eq_getElem hk']; rfl]
  rfl
theorem numsR_form {r : Option (List Int)} {w w' : World} {e : Ending} (h : NumsR r w e w') : ∃ v0 v1, e = .returned (.tuple #[v0, v1]) := by
  cases r with
  | none => exact ⟨_, _, h⟩
  | some ns => obtain ⟨g, _, rfl, _⟩ := h; exact ⟨_, _, rfl⟩
theorem NumsR.back {r : Option (List Int)} {w0 w w' : World} {e : Ending} (h : NumsR r w e w') (ho : Only [] w0 w) : NumsR r w0 e w' := by
  cases r with
  | none => exact h
  | some ns => obtain ⟨g, h1, h2, h3⟩ := h; exact ⟨g, Nat.le_trans ho.size h1, h2, h3⟩
theorem numsR_no {w w' : World} {v0 v1 : Value} (h : NumsR none w (.returned (.tuple #[v0, v1])) w') : v0 = .slice none 0 0 ∧ v1 = .bool false := by
  have h' : Ending.returned (.tuple #[v0, v1]) = .returned (.tuple #[.slice none 0 0, .bool false]) := h
  simpa using h'
theorem numsR_yes {ns : List Int} {w w' : World} {v0 v1 : Value} (h : NumsR (some ns) w (.returned (.tuple #[v0, v1])) w') : ∃ g, v0 = .slice (some ⟨g, 0, none⟩) ns.length ns.length ∧ v1 = .bool true ∧ RowAt itC 3 1 w' g ns.length ns := by
  obtain ⟨g, _, h2, h3⟩ := h
  have h' : v0 = .slice (some ⟨g, 0, none⟩) ns.length ns.length ∧ v1 = .bool true := by simpa using h2
  exact ⟨g, h'.1, h'.2, h3⟩
def FlI (w : World) (w4 : List UInt8) (vi : Value) (wr : World) : Prop :=
  ∃ k : Nat, k ≤ 9 ∧ vi = .int .i64 k ∧ idxW w4 kinds9 1 = idxW w4 (kinds9.drop k) (k + 1) ∧ Only [] w wr
set_option maxRecDepth 100000 in
set_option maxHeartbeats 8000000 in
theorem kFault {W0 : Two} {w : World} {b : Nat} {x : SSt} {p : Option Addr} {n cap : Nat} {wd : List UInt8} {r : List (List UInt8)} (h : RdX W0 b w x) (hsz : SLe 100000 x) (hv : VRow strC 1 w p n cap (wd :: r)) (hn : n ≤ 100000) (hl : ∀ y ∈ wd :: r, y.length ≤ 1000000) (he : Env w) :
    Calls Tryz.prog 74 #[.pointer (some ⟨b, 0, none⟩), .slice p n cap] w fun e w' => RdR W0 b (rdFault x r) e w' := by
  have hlen := hv.len
  subst hlen
  obtain ⟨hb0, hb1, ns, ls, vn, vl, vf, hR⟩ := h
  have hfl := hsz.ft
  have HR := Lib.hid hR; have HV := Lib.hid hv; have HE := Lib.hid he; have HL := Lib.hid hl; have H0 := Lib.hid hb0; have H1 := Lib.hid hb1
  clear hR hv he hl hb0 hb1 hsz
  have HW := Lib.hid (kWhole HR.out.box)
  by_cases h0 : whole x.at_ = true
  · rw [h0] at HW
    by_cases h2 : (wd :: r).length = 6
    · obtain ⟨a, bb, c, w4, d, rfl⟩ : ∃ a bb c w4 d, r = [a, bb, c, w4, d] := by
        rcases r with _ | ⟨a, _ | ⟨bb, _ | ⟨c, _ | ⟨w4, _ | ⟨d, _ | ⟨q, r⟩⟩⟩⟩⟩⟩
        · simp at h2
        · simp at h2
        · simp at h2
        · simp at h2
        · simp at h2
        · exact ⟨a, bb, c, w4, d, rfl⟩
        · simp at h2
      have HRD : Hid (rdFault x [a, bb, c, w4, d] = (match numsO [a, bb, c, d] with
        | some [a, b, c, d] => (idxW w4 kinds9 1).map fun (k : Nat) => (⟨{ x.sc with ft := x.sc.ft ++ [⟨a, b, c, (k : Int), d⟩] }, 7⟩ : SSt)
        | _ => none)) := Lib.hid (if_pos h0)
      generalize rdFault x [a, bb, c, w4, d] = res at HRD ⊢
      have z2 : ((([wd, a, bb, c, w4, d] : List (List UInt8)).length : Int) != 6) = false := rfl
      have hla := HL.out a (by simp); have hlb := HL.out bb (by simp); have hlc := HL.out c (by simp); have hld := HL.out d (by simp)
      clear h0 h2
      go_enter Tryz.func74, Tryz.ntmps74
      go_wp2_with fail
      refine HW.out.mono ?_
      rintro e w1 ⟨rfl, ho1⟩
      have R1 := Lib.hid (HR.out.kept ho1); have O1 := Lib.hid (H1.out.nil_trans ho1); have V1 := Lib.hid (HV.out.kept ho1); have E1 := Lib.hid (HE.out.kept ho1)
      clear ho1 HW HR H1 HV HE
      go_upto_region 3 with (fail)
      obtain ⟨bw, off, hp, s1, lw⟩ := V1.out.str (Only.refl [] w1) (k := 1) (by simp)
      obtain ⟨_, _, hp2, s2, _⟩ := V1.out.str (Only.refl [] w1) (k := 2) (by simp)
      obtain ⟨_, _, hp3, s3, _⟩ := V1.out.str (Only.refl [] w1) (k := 3) (by simp)
      obtain ⟨_, _, hp5, s5, _⟩ := V1.out.str (Only.refl [] w1) (k := 5) (by simp)
      subst hp
      cases hp2; cases hp3; cases hp5
      have t1 : w1.cell? ⟨bw, off + 1, none⟩ = some (.string (bstr a)) := s1
      have t2 : w1.cell? ⟨bw, off + 2, none⟩ = some (.string (bstr bb)) := s2
      have t3 : w1.cell? ⟨bw, off + 3, none⟩ = some (.string (bstr c)) := s3
      have t5 : w1.cell? ⟨bw, off + 5, none⟩ = some (.string (bstr d)) := s5
      clear s1 s2 s3 s5 z2
      refine wp_region_calm2 [0, 1, 2, 3, 4, 5, 6, 7, 8, 9, 10, 11] [12, 13, 14, 15, 16, 17, 18] (OnlyC ([] : List Nat) w1) (by kernel_rfl) (by kernel_rfl) ?_
      simp only [pick, List.map_cons, List.map_nil, List.getD_cons_succ, List.getD_cons_zero]
      iterate 12 (refine wpCalm_step (fun K hK => ?_); go_simp; refine hK _ ?_; clear hK K)
      refine wpCalm_nil ?_
      clear t1 t2 t3 t5 lw
      refine Rest.by (X := Value × Value) (fun y a => ((((((a.put (some 31) (.slice (some ⟨w1.heap.size, 0, none⟩) 4 4)).put (some 32) (.tuple #[y.1, y.2])).put (some 18) (.tuple #[y.1, y.2])).put (some 33) y.1).put (some 34) y.2).put (some 5) y.1).put (some 6) y.2) (fun y w' => NumsR (numsO [a, bb, c, d]) w1 (.returned (.tuple #[y.1, y.2])) w' ∧ Only [] w1 w') ?_ ?_
      · rintro ⟨v0, v1⟩ wc ⟨hv4, ho4⟩
        simp only [Act.put, List.setIfInBounds_toArray, List.set_cons_succ, List.set_cons_zero]
        dsimp only at hv4
        have R4 := Lib.hid (R1.out.kept ho4); have O4 := Lib.hid (O1.out.nil_trans ho4); have V4 := Lib.hid (V1.out.kept ho4)
        clear ho4 R1 O1 V1 E1
        cases hx : numsO [a, bb, c, d] with
        | none =>
          rw [hx] at hv4 HRD
          obtain ⟨rfl, rfl⟩ := numsR_no hv4
          have HX : Hid (res = none) := HRD
          go_wp2
          go_ret
          rw [HX.out]
          exact ⟨rfl, O4.out⟩
        | some ms =>
          rw [hx] at hv4 HRD
          obtain ⟨g, rfl, rfl, hrow⟩ := numsR_yes hv4
          have hml := numsO_len hx
          obtain ⟨m0, m1, m2, m3, rfl⟩ : ∃ m0 m1 m2 m3, ms = [m0, m1, m2, m3] := by
            rcases ms with _ | ⟨m0, _ | ⟨m1, _ | ⟨m2, _ | ⟨m3, _ | ⟨q, r⟩⟩⟩⟩⟩
            · simp at hml
            · simp at hml
            · simp at hml
            · simp at hml
            · exact ⟨m0, m1, m2, m3, rfl⟩
            · simp at hml
          have HX : Hid (res = (idxW w4 kinds9 1).map fun (k : Nat) => (⟨{ x.sc with ft := x.sc.ft ++ [⟨m0, m1, m2, (k : Int), m3⟩] }, 7⟩ : SSt)) := HRD
          have RW := Lib.hid hrow
          clear hrow hml hx hv4 HRD
          go_wp2_with fail
          refine (pKinds _).mono ?_
          rintro e w5 ⟨rfl, hrow5, ho5⟩
          have K5 := Lib.hid hrow5; have R5 := Lib.hid (R4.out.kept ho5); have O5 := Lib.hid (O4.out.nil_trans ho5); have V5 := Lib.hid (V4.out.kept ho5); have N5 := Lib.hid (RW.out.kept ho5 (by simp))
          clear hrow5 ho5 R4 O4 V4 RW
          generalize wc.heap.size = kg at K5
          go_wp2
          go_loopw [39] (fun vi wr => FlI w5 w4 vi wr) (fun vi _ => 9 - (intOf vi).toNat)
          case atStart => exact ⟨0, Nat.zero_le _, rfl, rfl, Only.refl _ _⟩
          case round =>
            obtain ⟨k, hk, rfl, hix, ho⟩ := hrel
            have HI := Lib.hid hix; have OO := Lib.hid ho
            have K6 := Lib.hid (K5.out.kept ho (by simp)); have R6 := Lib.hid (R5.out.kept ho); have O6 := Lib.hid (O5.out.nil_trans ho); have V6 := Lib.hid (V5.out.kept ho); have N6 := Lib.hid (N5.out.kept ho (by simp))
            clear hix ho
            by_cases hlt : k < 9
            · have hkc := cell_kind K6.out hlt
              have lk := K6.out.lt
              obtain ⟨_, _, hp4, s4, lw⟩ := V6.out.str (Only.refl [] wr) (k := 4) (by simp)
              cases hp4
              have t4 : wr.cell? ⟨bw, off + 4, none⟩ = some (.string (bstr w4)) := s4
              have hdr := idxW_drop (w := w4) hlt
              have heq : ((bstr (kinds9.getD k [])).toList == (bstr w4).toList) = decide (kinds9.getD k [] = w4) := by
                rw [Lib.toList_data, Lib.toList_data, Bool.eq_iff_iff, beq_iff_eq, decide_eq_true_eq]
                exact Iff.rfl
              have hkk : (k : Int) < 9 := by omega
              clear s4
              by_cases hkw : kinds9.getD k [] = w4
              · rw [decide_eq_true hkw] at heq
                have HQ : Hid (res = some ⟨{ x.sc with ft := x.sc.ft ++ [⟨m0, m1, m2, (k : Int) + 1, m3⟩] }, 7⟩) := Lib.hid (by rw [HX.out, HI.out, hdr, if_pos hkw]; rfl)
                clear hkw hdr
                generalize bstr (kinds9.getD k []) = S1 at hkc heq
                generalize bstr w4 = S2 at t4 heq
                have c0 : wr.cell? ⟨g, 0, none⟩ = some (.int .i64 m0) := N6.out.cell (i := 0) (j := 0) itC_len rfl (by decide)
                have c1 : wr.cell? ⟨g, 1, none⟩ = some (.int .i64 m1) := N6.out.cell (i := 1) (j := 0) itC_len rfl (by decide)
                have c2 : wr.cell? ⟨g, 2, none⟩ = some (.int .i64 m2) := N6.out.cell (i := 2) (j := 0) itC_len rfl (by decide)
                have c3 : wr.cell? ⟨g, 3, none⟩ = some (.int .i64 m3) := N6.out.cell (i := 3) (j := 0) itC_len rfl (by decide)
                have lg := N6.out.lt
                have hwk : IntKind.i64.wrap ((k : Int) + 1) = (k : Int) + 1 := by rw [IntKind.wrap_i64]; omega
                go_upto_region 10 with (fail)
                refine wp_region_calm2 [0, 1, 2, 3, 4, 5, 6, 7, 8, 9, 10, 11, 12, 13, 14] [16] (OnlyC ([] : List Nat) wr) (by kernel_rfl) (by kernel_rfl) ?_
                simp only [pick, List.map_cons, List.map_nil, List.getD_cons_succ, List.getD_cons_zero]
                iterate 15 (refine wpCalm_step (fun K hK => ?_); go_simp; refine hK _ ?_; clear hK K)
                refine wpCalm_nil ?_
                refine Rest.by (X := Nat) (fun y a => a.put (some 9) (.pointer (some ⟨y, 0, none⟩))) (fun y w' => w'.heap[y]? = some (.cells #[.int .i64 m0, .int .i64 m1, .int .i64 m2, .int .i64 ((k : Int) + 1), .int .i64 m3] 60 (0, 0)) ∧ Only [] wr w' ∧ wr.heap.size ≤ y) ?_ ?_
                · rintro eb w6 ⟨hbn, hon, hyn⟩
                  simp only [Act.put, List.setIfInBounds_toArray, List.set_cons_succ, List.set_cons_zero]
                  have EB := Lib.hid hbn; have PE := Lib.hid hon; have YE := Lib.hid hyn
                  clear hbn hon hyn c0 c1 c2 c3 lg hkc lk t4 lw heq hkk hwk
                  have R6b := Lib.hid (R6.out.kept PE.out); have O6b := Lib.hid (O6.out.nil_trans PE.out)
                  clear K6 V6 N6
                  have q2 := cell_got R6b.out.box 2; have lq := got_lt R6b.out.box
                  have e0 := cell_got EB.out 0; have e1 := cell_got EB.out 1; have e2 := cell_got EB.out 2; have e3 := cell_got EB.out 3; have e4 := cell_got EB.out 4; have le := got_lt EB.out
                  obtain ⟨S, hS⟩ : ∃ S, S = vf.ownBlock.toList := ⟨_, rfl⟩
                  have hbS : b ∉ S := fun hm => by rw [hS] at hm; exact R6b.out.ft.ne_box R6b.out.box (by decide) (by simpa using hm)
                  have heS : eb ∉ S := fun hm => by
                    rw [hS] at hm
                    obtain ⟨_, _, hq⟩ := R6.out.ft.block (by simpa using hm)
                    have h1 := hq.lt; have h2 := YE.out; omega
                  have HSE := Lib.hid hS
                  clear R6 O6 hS
                  have R6 := R6b; have O6 := O6b
                  clear R6b O6b
                  go_wp2_with fail
                  refine wp_region_calm2 [0, 1, 2, 3, 4, 5, 6] [9, 10, 11, 12] (OnlyC S w6) (by kernel_rfl) (by kernel_rfl) ?_
                  simp only [pick, List.map_cons, List.map_nil, List.getD_cons_succ, List.getD_cons_zero]
                  iterate 7 (refine wpCalm_step (fun K hK => ?_); go_simp; refine hK _ ?_; clear hK K)
                  refine wpCalm_nil ?_
                  clear q2 lq e0 e1 e2 e3 e4 le
                  refine Rest.by (X := Nat × Nat) (fun y a => ((((a.put (some 71) (.slice (some ⟨w6.heap.size, 0, none⟩) 1 1)).put (some 72) (.slice (some ⟨y.1, 0, none⟩) (x.sc.ft.length + 1) y.2)).put (some 73) (.pointer (some ⟨b, 0, none⟩))).put (some 74) (.pointer (some ⟨b, 0, none⟩))).put (some 75) (.pointer (some ⟨b, 2, none⟩)))
                    (fun y w' => Ob b W0 w' ∧ RdW W0.heap.size b w' (⟨{ x.sc with ft := x.sc.ft ++ [⟨m0, m1, m2, (k : Int) + 1, m3⟩] }, x.at_⟩ : SSt) ns ls vn vl (.slice (some ⟨y.1, 0, none⟩) (x.sc.ft.length + 1) y.2)) ?_ ?_
                  · rintro ⟨g9, cap9⟩ w9 ⟨ho9, hr9⟩
                    simp only [Act.put, List.setIfInBounds_toArray, List.set_cons_succ, List.set_cons_zero]
                    have O9 := Lib.hid ho9; have R9 := Lib.hid hr9
                    clear ho9 hr9
                    have BP := Lib.hid R9.out.box
                    have lp := got_lt BP.out; have q5 := cell_got BP.out 5; have f5 := frozen_got BP.out 5
                    go_wp2
                    go_ret
                    rw [HQ.out]
                    refine ⟨rfl, H0.out, O9.out.setCell (.inl (by simp)) _, ns, ls, vn, vl, .slice (some ⟨g9, 0, none⟩) (x.sc.ft.length + 1) cap9, ?_⟩
                    exact R9.out.cell ((Only.refl [b] w9).setCell (.inl (by simp)) _) (setCell_got _ BP.out) rfl rfl rfl
                  · refine wpAnyC_next [7] (by kernel_rfl) (by simp) (.inr (onlyC (Only.refl S w6).drew)) ?_
                    simp only [List.mem_cons, List.not_mem_nil, or_false, forall_eq]
                    refine wpOp_one rfl ?_
                    go_wp2
                    simp only [nrm]
                    refine allocd_abs (G := wpAnyC _ _ _ _ _ _ _ _ _) ?_
                    intro wa hna hoa hsa
                    have MA := Lib.hid hna; have oA := Lib.hid hoa; have RA := Lib.hid (R6.out.kept hoa); have OA := Lib.hid (O6.out.nil_trans hoa)
                    clear hna hsa hoa
                    refine wpAnyC_next [8] (by kernel_rfl) (by simp) (.inr (onlyC (oA.out.mono (by simp)))) ?_
                    simp only [List.mem_cons, List.not_mem_nil, or_false, forall_eq]
                    refine wpOp_one rfl ?_
                    refine wpList_append_B (B := W0.heap.size) rfl _ _ 24 rfl 60 (.agg #[.int .i64 0, .int .i64 0, .int .i64 0, .int .i64 0, .int .i64 0]) 5 40 Tryz.underlying24 (by kernel_rfl) rfl (by decide) ftC_len ftC_one x.sc.ft vf rfl RA.out.ft w6.heap.size (⟨m0, m1, m2, (k : Int) + 1, m3⟩ : Ft) rfl (fun j u hj => ?_) (by simp [maxLen]; omega) (by omega) (Nat.le_trans (by have := OA.out.size; omega) (Nat.le_refl _)) ?_
                    · rw [cell_got MA.out]; rw [← hj]; simp [ftC]
                    · intro g9 cap9 wb hown hob _
                      rw [← HSE.out] at hob
                      have WB := Lib.hid hown; have oB := Lib.hid hob; have oS := Lib.hid ((oA.out.mono (S' := S) (by simp)).trans hob (fun x h => .inl h))
                      clear hown hob
                      simp only [wpList, nrm]
                      refine wpAnyC_next [9] (by kernel_rfl) (by simp) (.inr (onlyC oS.out)) ?_
                      simp only [List.mem_cons, List.not_mem_nil, or_false, forall_eq]
                      refine wpOp_one rfl ?_
                      go_wp2
                      simp only [nrm]
                      refine wpAnyC_next [10] (by kernel_rfl) (by simp) (.inr (onlyC oS.out)) ?_
                      simp only [List.mem_cons, List.not_mem_nil, or_false, forall_eq]
                      refine wpOp_one rfl ?_
                      go_wp2
                      simp only [nrm]
                      refine wpAnyC_next [11] (by kernel_rfl) (by simp) (.inr (onlyC oS.out)) ?_
                      simp only [List.mem_cons, List.not_mem_nil, or_false, forall_eq]
                      refine wpOp_one rfl ?_
                      go_wp2
                      simp only [nrm]
                      refine wpAnyC_next [12] (by kernel_rfl) (by simp) (.inr (onlyC oS.out)) ?_
                      simp only [List.mem_cons, List.not_mem_nil, or_false, forall_eq]
                      refine wpOp_one rfl ?_
                      have BP := Lib.hid (oS.out.got R6.out.box hbS)
                      have lp := got_lt BP.out
                      have qc := cell_got BP.out 2; have fq := frozen_got BP.out 2
                      go_wp2
                      simp only [nrm]
                      refine wpAnyC_done (by kernel_rfl) (.inl (late_of (by kernel_rfl))) ⟨(g9, cap9), rfl, ?_, ?_⟩
                      · refine (Ob.row (S := S) OA.out oB.out (fun k hk => ?_)).setCell (.inl (by simp)) _
                        rw [HSE.out] at hk
                        exact RA.out.ft.blockC (by simpa using hk)
                      · rw [HSE.out] at oB
                        exact RA.out.addF (x' := (⟨{ x.sc with ft := x.sc.ft ++ [⟨m0, m1, m2, (k : Int) + 1, m3⟩] }, x.at_⟩ : SSt)) oB.out WB.out ((Only.refl [b] wb).setCell (.inl (by simp)) _) (setCell_got _ BP.out) rfl rfl rfl
                · refine wpAnyC_next [15] (by kernel_rfl) (by simp) (.inr (onlyC (Only.refl [] wr).drew)) ?_
                  simp only [List.mem_cons, List.not_mem_nil, or_false, forall_eq]
                  refine wpOp_one rfl ?_
                  go_wp2
                  simp only [nrm]
                  refine allocd_abs (G := wpAnyC _ _ _ _ _ _ _ _ _) ?_
                  intro w5 hn5 ho5 hs5
                  have M5 := Lib.hid hn5; have o25 := Lib.hid ho5
                  clear hn5 hs5 ho5
                  refine wpAnyC_next [16] (by kernel_rfl) (by simp) (.inr (onlyC o25.out)) ?_
                  simp only [List.mem_cons, List.not_mem_nil, or_false, forall_eq]
                  refine wpOp_one rfl ?_
                  have la := got_lt M5.out
                  have fa0 := frozen_got M5.out 0; have ca0 := cell_got M5.out 0
                  have fa1 := frozen_got M5.out 1; have ca1 := cell_got M5.out 1
                  have fa2 := frozen_got M5.out 2; have ca2 := cell_got M5.out 2
                  have fa3 := frozen_got M5.out 3; have ca3 := cell_got M5.out 3
                  have fa4 := frozen_got M5.out 4; have ca4 := cell_got M5.out 4
                  go_wp2
                  simp only [nrm]
                  clear la fa0 ca0 fa1 ca1 fa2 ca2 fa3 ca3 fa4 ca4
                  have o2 : Only [wr.heap.size] w5 (((((w5.setCell ⟨wr.heap.size, 0, none⟩ (.int .i64 m0)).setCell ⟨wr.heap.size, 1, none⟩ (.int .i64 m1)).setCell ⟨wr.heap.size, 2, none⟩ (.int .i64 m2)).setCell ⟨wr.heap.size, 3, none⟩ (.int .i64 ((k : Int) + 1))).setCell ⟨wr.heap.size, 4, none⟩ (.int .i64 m3)) := ((((((Only.refl _ w5).setCell (.inl (by simp)) _).setCell (.inl (by simp)) _).setCell (.inl (by simp)) _).setCell (.inl (by simp)) _).setCell (.inl (by simp)) _)
                  have o3 := o25.out.trans o2 (by simp)
                  exact wpAnyC_done (by kernel_rfl) (.inr (onlyC o3)) ⟨wr.heap.size, rfl, (setCell_got _ (setCell_got _ (setCell_got _ (setCell_got _ (setCell_got _ M5.out))))), o3, Nat.le_refl _⟩
              · rw [decide_eq_false hkw] at heq
                have HQ := Lib.hid (HI.out.trans (by rw [hdr, if_neg hkw]))
                clear hkw hdr
                generalize bstr (kinds9.getD k []) = S1 at hkc heq
                generalize bstr w4 = S2 at t4 heq
                go_wp2
                go_roundw
                case rel => exact ⟨k + 1, by omega, by go_num, HQ.out, OO.out⟩
                case measure => first | (simp [intOf]; done) | (simp [intOf]; omega)
            · obtain rfl : k = 9 := by omega
              have HQ : Hid (res = none) := Lib.hid (by rw [HX.out, HI.out]; rfl)
              go_wp2
              go_ret
              rw [HQ.out]
              exact ⟨rfl, O6.out⟩
      · refine wpAnyC_next [12] (by kernel_rfl) (by simp) (.inr (onlyC (Only.refl [] w1).drew)) ?_
        simp only [List.mem_cons, List.not_mem_nil, or_false, forall_eq]
        refine wpOp_one rfl ?_
        go_wp2
        simp only [nrm]
        refine allocd_abs (G := wpAnyC _ _ _ _ _ _ _ _ _) ?_
        intro wa hna hoa hsa
        have hrow : RowAt strC 9 1 wa w1.heap.size 4 [a, bb, c, d] := ⟨_, hna, rfl, Nat.le_refl _, by decide, rfl⟩
        have HN := Lib.hid (pNumbers (hrow.vrow strC_len rfl) (by simp) (by intro y hy; simp only [List.mem_cons, List.not_mem_nil, or_false] at hy; rcases hy with rfl | rfl | rfl | rfl <;> assumption) (E1.out.kept hoa))
        have oA := Lib.hid hoa
        clear hna hsa hoa hrow
        refine wpAnyC_next [13] (by kernel_rfl) (by simp) (.inl (late_of (by kernel_rfl))) ?_
        simp only [List.mem_cons, List.not_mem_nil, or_false, forall_eq]
        refine wpOp_one rfl ?_
        go_wp2_with fail
        refine HN.out.mono ?_
        rintro e wc ⟨hv4, ho4⟩
        obtain ⟨v0, v1, rfl⟩ := numsR_form hv4
        have HV4 : Hid (NumsR (numsO [a, bb, c, d]) w1 (.returned (.tuple #[v0, v1])) wc) := Lib.hid (hv4.back oA.out)
        have HO4 := Lib.hid (oA.out.nil_trans ho4)
        clear hv4 ho4 HN
        go_wp2
        simp only [nrm]
        refine wpAnyC_next [14] (by kernel_rfl) (by simp) (.inl (late_of (by kernel_rfl))) ?_
        simp only [List.mem_cons, List.not_mem_nil, or_false, forall_eq]
        refine wpOp_one rfl ?_
        go_wp2
        simp only [nrm]
        refine wpAnyC_next [15, 16] (by kernel_rfl) (by simp) (.inl (late_of (by kernel_rfl))) ?_
        simp only [List.mem_cons, List.not_mem_nil, or_false, forall_eq_or_imp, forall_eq]
        refine ⟨?_, ?_⟩
        · refine wpOp_one rfl ?_
          go_wp2
          simp only [nrm]
          refine wpAnyC_next [16, 17] (by kernel_rfl) (by simp) (.inl (late_of (by kernel_rfl))) ?_
          simp only [List.mem_cons, List.not_mem_nil, or_false, forall_eq_or_imp, forall_eq]
          refine ⟨?_, ?_⟩
          · refine wpOp_one rfl ?_
            go_wp2
            simp only [nrm]
            refine wpAnyC_next [17] (by kernel_rfl) (by simp) (.inl (late_of (by kernel_rfl))) ?_
            simp only [List.mem_cons, List.not_mem_nil, or_false, forall_eq]
            refine wpOp_one rfl ?_
            go_wp2
            simp only [nrm]
            refine wpAnyC_next [18] (by kernel_rfl) (by simp) (.inl (late_of (by kernel_rfl))) ?_
            simp only [List.mem_cons, List.not_mem_nil, or_false, forall_eq]
            refine wpOp_one rfl ?_
            go_wp2
            simp only [nrm]
            refine wpAnyC_done (by kernel_rfl) (.inl (late_of (by kernel_rfl))) ⟨(v0, v1), ?_, HV4.out, HO4.out⟩
            simp only [Act.put, List.setIfInBounds_toArray, List.set_cons_succ, List.set_cons_zero]
          · refine wpOp_one rfl ?_
            go_wp2
            simp only [nrm]
            refine wpAnyC_next [16] (by kernel_rfl) (by simp) (.inl (late_of (by kernel_rfl))) ?_
            simp only [List.mem_cons, List.not_mem_nil, or_false, forall_eq]
            refine wpOp_one rfl ?_
            go_wp2
            simp only [nrm]
            refine wpAnyC_next [18] (by kernel_rfl) (by simp) (.inl (late_of (by kernel_rfl))) ?_
            simp only [List.mem_cons, List.not_mem_nil, or_false, forall_eq]
            refine wpOp_one rfl ?_
            go_wp2
            simp only [nrm]
            refine wpAnyC_done (by kernel_rfl) (.inl (late_of (by kernel_rfl))) ⟨(v0, v1), ?_, HV4.out, HO4.out⟩
            simp only [Act.put, List.setIfInBounds_toArray, List.set_cons_succ, List.set_cons_zero]
        · refine wpOp_one rfl ?_
          go_wp2
          simp only [nrm]
          refine wpAnyC_next [15] (by kernel_rfl) (by simp) (.inl (late_of (by kernel_rfl))) ?_
          simp only [List.mem_cons, List.not_mem_nil, or_false, forall_eq]
          refine wpOp_one rfl ?_
          go_wp2
          simp only [nrm]
          refine wpAnyC_next [17] (by kernel_rfl) (by simp) (.inl (late_of (by kernel_rfl))) ?_
          simp only [List.mem_cons, List.not_mem_nil, or_false, forall_eq]
          refine wpOp_one rfl ?_
          go_wp2
          simp only [nrm]
          refine wpAnyC_next [18] (by kernel_rfl) (by simp) (.inl (late_of (by kernel_rfl))) ?_
          simp only [List.mem_cons, List.not_mem_nil, or_false, forall_eq]
          refine wpOp_one rfl ?_
          go_wp2
          simp only [nrm]
          refine wpAnyC_done (by kernel_rfl) (.inl (late_of (by kernel_rfl))) ⟨(v0, v1), ?_, HV4.out, HO4.out⟩
          simp only [Act.put, List.setIfInBounds_toArray, List.set_cons_succ, List.set_cons_zero]
    · have HX : Hid (rdFault x r = none) := Lib.hid (by
        rcases r with _ | ⟨a, _ | ⟨bb, _ | ⟨c, _ | ⟨w4, _ | ⟨d, _ | ⟨q, r⟩⟩⟩⟩⟩⟩
        · rfl
        · rfl
        · rfl
        · rfl
        · rfl
        · exact absurd rfl h2
        · rfl)
      generalize rdFault x r = res at HX ⊢
      have z2 : (((wd :: r).length : Int) != 6) = true := by rw [bne_iff_ne]; omega
      have z2' : (((wd :: r).length : Int) == 6) = false := by rw [beq_eq_false_iff_ne]; omega
      clear h0 h2
      generalize (wd :: r).length = nn at z2 z2' hn ⊢
      go_enter Tryz.func74, Tryz.ntmps74
      go_wp2_with fail
      refine HW.out.mono ?_
      rintro e w1 ⟨rfl, ho1⟩
      have O1 := Lib.hid (H1.out.nil_trans ho1)
      go_wp2
      go_ret
      rw [HX.out]
      exact ⟨rfl, O1.out⟩
  · have hw : whole x.at_ = false := by simpa using h0
    rw [hw] at HW
    have HX : Hid (rdFault x r = none) := Lib.hid (by
      rcases r with _ | ⟨a, _ | ⟨bb, _ | ⟨c, _ | ⟨w4, _ | ⟨d, _ | ⟨q, r⟩⟩⟩⟩⟩⟩
      · rfl
      · rfl
      · rfl
      · rfl
      · rfl
      · exact if_neg h0
      · rfl)
    generalize rdFault x r = res at HX ⊢
    clear h0 hw
    generalize (wd :: r).length = nn at hn ⊢
    go_enter Tryz.func74, Tryz.ntmps74
    go_wp2_with fail
    refine HW.out.mono ?_
    rintro e w1 ⟨rfl, ho1⟩
    have O1 := Lib.hid (H1.out.nil_trans ho1)
    go_wp2
    go_ret
    rw [HX.out]
    exact ⟨rfl, O1.out⟩
end Go.Proofs.YthmeifdgkodjlaaGreatDoor

/- link of the reader. Conditions: the library's variables are laid; the lengths. -/
namespace Go.Proofs.YthmeifdgkodjlaaGreatDoor
open Go.RowKit

theorem VRow.sub {α : Type} {ec : α → List Value} {w : World} {bw off n cap : Nat} {l : List α} (h : VRow ec 1 w (some ⟨bw, off, none⟩) n cap l) (i j : Nat) (hij : i ≤ j) (hj : j ≤ n) : VRow ec 1 w (some ⟨bw, off + i, none⟩) (j - i) (cap - i) ((l.take j).drop i) := by
  have hl := h.len; have hle := h.le; have hcm := h.cm
  refine ⟨by rw [List.length_drop, List.length_take]; omega, by omega, by omega, by simp, fun k x hx => ?_⟩
  rw [List.getElem?_drop, List.getElem?_take] at hx
  by_cases hk : i + k < j
  · rw [if_pos hk] at hx
    obtain ⟨b', off', hp, hb, hc⟩ := h.cell (i + k) x hx
    cases hp
    refine ⟨bw, off + i, rfl, hb, fun q v hv => ?_⟩
    have := hc q v hv
    rw [Nat.mul_one] at this ⊢
    rw [← this]
    congr 2; omega
  · rw [if_neg hk] at hx; cases hx
theorem rd_other {B b eb : Nat} {w w' : World} {x : SSt} {ns : List NdW} {ls : List LkW} {vn vl vf : Value} {c : Array Value} {t : TypeId} (h : RdW B b w x ns ls vn vl vf) (he : w.heap[eb]? = some (.cells c t (0, 0))) (ho : Only [eb] w w') (hb : b ≠ eb)
    (ht : 48 ≠ t ∧ 54 ≠ t ∧ 60 ≠ t ∧ 96 ≠ t ∧ 3 ≠ t ∧ 98 ≠ t) : RdW B b w' x ns ls vn vl vf :=
  ⟨ho.got h.box (by simpa using hb), h.hn, h.hl, own_setB h.nd he ht.1 ho, own_setB h.lk he ht.2.1 ho, own_setB h.ft he ht.2.2.1 ho, fun y hy => own_setB (h.sg y hy) he ht.2.2.2.1 ho, fun y hy => own_setB (h.sv y hy) he ht.2.2.2.2.1 ho, fun y hy => own_setB (h.ch y hy) he ht.2.2.2.2.2 ho, h.apN, h.apL⟩
set_option maxRecDepth 100000 in
set_option maxHeartbeats 8000000 in
theorem kLink {W0 : Two} {w : World} {b : Nat} {x : SSt} {p : Option Addr} {n cap : Nat} {wd : List UInt8} {r : List (List UInt8)} (h : RdX W0 b w x) (hsz : SLe 100000 x) (hv : VRow strC 1 w p n cap (wd :: r)) (hn : n ≤ 100000) (hl : ∀ y ∈ wd :: r, y.length ≤ 1000000) (he : Env w) :
    Calls Tryz.prog 72 #[.pointer (some ⟨b, 0, none⟩), .slice p n cap] w fun e w' => RdR W0 b (rdLink x r) e w' := by
  have hlen := hv.len
  subst hlen
  obtain ⟨hb0, hb1, ns, ls, vn, vl, vf, hR⟩ := h
  have hfl := hsz.lk
  rw [hR.hl, List.length_map] at hfl
  have HR := Lib.hid hR; have HV := Lib.hid hv; have HE := Lib.hid he; have HL := Lib.hid hl; have H0 := Lib.hid hb0; have H1 := Lib.hid hb1
  clear hR hv he hl hb0 hb1 hsz
  have HW := Lib.hid (kWhole HR.out.box)
  by_cases h0 : whole x.at_ = true
  · by_cases h7 : x.at_ = 7
    · rw [h0] at HW
      have HX : Hid (rdLink x r = none) := Lib.hid (by
        rcases r with _ | ⟨a0, _ | ⟨a1, _ | ⟨a2, _ | ⟨a3, _ | ⟨a4, _ | ⟨a5, _ | ⟨a6, _ | ⟨a7, _ | ⟨q, r⟩⟩⟩⟩⟩⟩⟩⟩⟩
        · rfl
        · rfl
        · rfl
        · rfl
        · rfl
        · rfl
        · rfl
        · rfl
        · exact if_neg (fun q => q.2 h7)
        · rfl)
      generalize rdLink x r = res at HX ⊢
      have d7 : ((x.at_ : Int) == 7) = true := by rw [h7]; rfl
      clear h0 h7
      generalize (wd :: r).length = nn at hn ⊢ 
      go_enter Tryz.func72, Tryz.ntmps72
      go_wp2_with fail
      refine HW.out.mono ?_
      rintro e w1 ⟨rfl, ho1⟩
      have O1 := Lib.hid (H1.out.nil_trans ho1); have R1 := Lib.hid (HR.out.kept ho1)
      have q5 := cell_got R1.out.box 5; have lq := got_lt R1.out.box
      go_wp2
      go_ret
      rw [HX.out]
      exact ⟨rfl, O1.out⟩
    · rw [h0] at HW
      by_cases h2 : (wd :: r).length = 9
      · obtain ⟨a0, a1, a2, a3, a4, a5, a6, a7, rfl⟩ : ∃ a0 a1 a2 a3 a4 a5 a6 a7, r = [a0, a1, a2, a3, a4, a5, a6, a7] := by
          rcases r with _ | ⟨a0, _ | ⟨a1, _ | ⟨a2, _ | ⟨a3, _ | ⟨a4, _ | ⟨a5, _ | ⟨a6, _ | ⟨a7, _ | ⟨q, r⟩⟩⟩⟩⟩⟩⟩⟩⟩
          · simp at h2
          · simp at h2
          · simp at h2
          · simp at h2
          · simp at h2
          · simp at h2
          · simp at h2
          · simp at h2
          · exact ⟨a0, a1, a2, a3, a4, a5, a6, a7, rfl⟩
          · simp at h2
        have HRD : Hid (rdLink x [a0, a1, a2, a3, a4, a5, a6, a7] = (match numsO [a0, a1, a2, a3, a4, a5, a6] with
          | some [a, b, c, d, e, f, g] => (natO a7).map fun (n : Nat) => (⟨{ x.sc with lk := x.sc.lk ++ [⟨a, b, c, d, e, f, g, (n : Int), []⟩] }, 6⟩ : SSt)
          | _ => none)) := Lib.hid (if_pos ⟨h0, h7⟩)
        generalize rdLink x [a0, a1, a2, a3, a4, a5, a6, a7] = res at HRD ⊢
        have d7 : ((x.at_ : Int) == 7) = false := by rw [beq_eq_false_iff_ne]; omega
        have z2 : ((([wd, a0, a1, a2, a3, a4, a5, a6, a7] : List (List UInt8)).length : Int) != 9) = false := rfl
        have hla := HL.out a7 (by simp)
        obtain ⟨bw, off, hp, _, lw⟩ := HV.out.str (Only.refl [] w) (k := 8) (by simp)
        subst hp
        have hcp : 9 ≤ cap := HV.out.le
        have HSUB := Lib.hid (HV.out.sub 1 8 (by decide) (by simp))
        have hsl : ∀ y ∈ ([a0, a1, a2, a3, a4, a5, a6] : List (List UInt8)), y.length ≤ 1000000 := fun y hy => HL.out y (by simp only [List.mem_cons, List.not_mem_nil, or_false] at hy ⊢; rcases hy with h | h | h | h | h | h | h <;> simp [h])
        have HSL := Lib.hid hsl
        clear h0 h2 h7 hsl
        go_enter Tryz.func72, Tryz.ntmps72
        go_wp2_with fail
        refine HW.out.mono ?_
        rintro e w1 ⟨rfl, ho1⟩
        have R1 := Lib.hid (HR.out.kept ho1); have O1 := Lib.hid (H1.out.nil_trans ho1); have V1 := Lib.hid (HV.out.kept ho1); have E1 := Lib.hid (HE.out.kept ho1)
        have HN := Lib.hid (pNumbers (HSUB.out.kept ho1) (by simp) HSL.out E1.out)
        clear ho1 HW HR H1 HV HE HSUB HSL
        have q5 := cell_got R1.out.box 5; have lq := got_lt R1.out.box
        go_wp2_with fail
        refine HN.out.mono ?_
        rintro e w2 ⟨hv4, ho2⟩
        have R2 := Lib.hid (R1.out.kept ho2); have O2 := Lib.hid (O1.out.nil_trans ho2); have V2 := Lib.hid (V1.out.kept ho2); have E2 := Lib.hid (E1.out.kept ho2)
        clear ho2 HN R1 O1 V1 E1 q5 lq z2 d7
        obtain ⟨v0, v1, rfl⟩ := numsR_form hv4
        have hv4 : NumsR (numsO [a0, a1, a2, a3, a4, a5, a6]) w1 (.returned (.tuple #[v0, v1])) w2 := hv4
        cases hx : numsO [a0, a1, a2, a3, a4, a5, a6] with
        | none =>
          rw [hx] at hv4 HRD
          obtain ⟨rfl, rfl⟩ := numsR_no hv4
          have HX : Hid (res = none) := HRD
          go_wp2
          go_ret
          rw [HX.out]
          exact ⟨rfl, O2.out⟩
        | some ms =>
          rw [hx] at hv4 HRD
          obtain ⟨g, rfl, rfl, hrow⟩ := numsR_yes hv4
          have hml := numsO_len hx
          obtain ⟨m0, m1, m2, m3, m4, m5, m6, rfl⟩ : ∃ m0 m1 m2 m3 m4 m5 m6, ms = [m0, m1, m2, m3, m4, m5, m6] := by
            rcases ms with _ | ⟨m0, _ | ⟨m1, _ | ⟨m2, _ | ⟨m3, _ | ⟨m4, _ | ⟨m5, _ | ⟨m6, _ | ⟨q, r⟩⟩⟩⟩⟩⟩⟩⟩
            · simp at hml
            · simp at hml
            · simp at hml
            · simp at hml
            · simp at hml
            · simp at hml
            · simp at hml
            · exact ⟨m0, m1, m2, m3, m4, m5, m6, rfl⟩
            · simp at hml
          have HX : Hid (res = (natO a7).map fun (n : Nat) => (⟨{ x.sc with lk := x.sc.lk ++ [⟨m0, m1, m2, m3, m4, m5, m6, (n : Int), []⟩] }, 6⟩ : SSt)) := HRD
          have c0 : w2.cell? ⟨g, 0, none⟩ = some (.int .i64 m0) := hrow.cell (i := 0) (j := 0) itC_len rfl (by decide)
          have c1 : w2.cell? ⟨g, 1, none⟩ = some (.int .i64 m1) := hrow.cell (i := 1) (j := 0) itC_len rfl (by decide)
          have c2 : w2.cell? ⟨g, 2, none⟩ = some (.int .i64 m2) := hrow.cell (i := 2) (j := 0) itC_len rfl (by decide)
          have c3 : w2.cell? ⟨g, 3, none⟩ = some (.int .i64 m3) := hrow.cell (i := 3) (j := 0) itC_len rfl (by decide)
          have c4 : w2.cell? ⟨g, 4, none⟩ = some (.int .i64 m4) := hrow.cell (i := 4) (j := 0) itC_len rfl (by decide)
          have c5 : w2.cell? ⟨g, 5, none⟩ = some (.int .i64 m5) := hrow.cell (i := 5) (j := 0) itC_len rfl (by decide)
          have c6 : w2.cell? ⟨g, 6, none⟩ = some (.int .i64 m6) := hrow.cell (i := 6) (j := 0) itC_len rfl (by decide)
          have lg := hrow.lt
          have N2 := Lib.hid hrow
          clear hrow hml hx hv4 HRD
          go_upto_region 6 with (fail)
          refine wp_region_calm2 [0, 1, 2, 3, 4, 5, 6, 7, 8, 9, 10, 11, 12, 13, 14, 15, 16, 17] [19] (OnlyC ([] : List Nat) w2) (by kernel_rfl) (by kernel_rfl) ?_
          simp only [pick, List.map_cons, List.map_nil, List.getD_cons_succ, List.getD_cons_zero]
          iterate 18 (refine wpCalm_step (fun K hK => ?_); go_simp; refine hK _ ?_; clear hK K)
          refine wpCalm_nil ?_
          refine Rest.by (X := Nat) (fun y a => a.put (some 7) (.pointer (some ⟨y, 0, none⟩))) (fun y w' => w'.heap[y]? = some (.cells #[.int .i64 m2, .int .i64 m3, .int .i64 m4, .int .i64 m5, .int .i64 m6, .int .u64 0, .slice none 0 0] 52 (0, 0)) ∧ Only [] w2 w' ∧ w2.heap.size ≤ y) ?_ ?_
          · rintro eb w3 ⟨hbn, hon, hyn⟩
            simp only [Act.put, List.setIfInBounds_toArray, List.set_cons_succ, List.set_cons_zero]
            have EB := Lib.hid hbn; have PE := Lib.hid hon; have YE := Lib.hid hyn
            clear hbn hon hyn c0 c1 c2 c3 c4 c5 c6 lg lw
            have R6b := Lib.hid (R2.out.kept PE.out); have O6b := Lib.hid (O2.out.nil_trans PE.out); have N6 := Lib.hid (N2.out.kept PE.out (by simp)); have E6 := Lib.hid (E2.out.kept PE.out)
            have hz3 : w3.heap.size = w3.heap.size := rfl
            obtain ⟨_, _, hp8, s8, lw⟩ := V2.out.str PE.out (k := 8) (by simp)
            cases hp8
            have t8 : w3.cell? ⟨bw, off + 8, none⟩ = some (.string (bstr a7)) := s8
            have HC := Lib.hid (pSeed a7 hla w3 E6.out)
            have hsz2 := YE.out
            clear s8 hz3
            go_wp2_with fail
            refine HC.out.mono ?_
            rintro e w4 ⟨hvs, ho4⟩
            have R4 := Lib.hid (R6b.out.kept ho4); have O4 := Lib.hid (O6b.out.nil_trans ho4); have N4 := Lib.hid (N6.out.kept ho4 (by simp)); have E4 := Lib.hid (ho4.got EB.out (by simp))
            have hg0 := N2.out.lt
            have hge : g ≠ eb := by omega
            have hbe : b ≠ eb := by have := got_lt R2.out.box; omega
            have hvlt : ∀ k ∈ vl.ownBlock.toList, k < w2.heap.size := fun k hk => by obtain ⟨_, _, hq⟩ := R2.out.lk.block (by simpa using hk); exact hq.lt
            clear ho4 t8 lw HC R6b O6b N6 EB E6
            obtain ⟨V, ok, rfl, hok⟩ : ∃ (V : Int) (ok : Bool), e = .returned (.tuple #[.int .u64 V, .bool ok]) ∧ ((ok = true ∧ ∃ u : Nat, V = u ∧ natO a7 = some u) ∨ (ok = false ∧ natO a7 = none)) := by
              cases hq : natO a7 with
              | none => rw [hq] at hvs; obtain ⟨V, h⟩ := hvs; exact ⟨V, false, h, .inr ⟨rfl, rfl⟩⟩
              | some u => rw [hq] at hvs; exact ⟨u, true, hvs, .inl ⟨rfl, u, rfl, rfl⟩⟩
            have HOK := Lib.hid hok
            clear hok hvs
            have fe5 := frozen_got E4.out 5; have ce5 := cell_got E4.out 5; have lee := got_lt E4.out
            go_upto_region 8 with (fail)
            refine wabs (G := fun w0 => Code.wp _ _ _ _ w0) (R := fun w0 => w0.heap[eb]? = some (.cells #[.int .i64 m2, .int .i64 m3, .int .i64 m4, .int .i64 m5, .int .i64 m6, .int .u64 V, .slice none 0 0] 52 (0, 0)) ∧ Only [eb] w4 w0) ⟨setCell_got _ E4.out, (Only.refl _ _).setCell (.inl (by simp)) _⟩ ?_
            rintro w6 ⟨hE6, hO6⟩
            have E6 := Lib.hid hE6
            have R6 : Hid (RdW W0.heap.size b w6 x ns ls vn vl vf) := Lib.hid (rd_other R4.out E4.out hO6 hbe (by decide))
            have O6 : Hid (Ob b W0 w6) := Lib.hid (O4.out.row hO6 (fun k hk => by rw [List.mem_singleton] at hk; subst hk; exact ⟨by have := O2.out.size; omega, _, _, E4.out⟩))
            have N6 := Lib.hid (N4.out.kept hO6 (by simpa using hge))
            clear hE6 hO6 fe5 ce5 lee R4 O4 N4 E4
            have c0 : w6.cell? ⟨g, 0, none⟩ = some (.int .i64 m0) := N6.out.cell (i := 0) (j := 0) itC_len rfl (by decide)
            have c1 : w6.cell? ⟨g, 1, none⟩ = some (.int .i64 m1) := N6.out.cell (i := 1) (j := 0) itC_len rfl (by decide)
            have lg := N6.out.lt
            have q1 := cell_got R6.out.box 1; have lq := got_lt R6.out.box
            have e0 := cell_got E6.out 0
            have e1 := cell_got E6.out 1
            have e2 := cell_got E6.out 2
            have e3 := cell_got E6.out 3
            have e4 := cell_got E6.out 4
            have e5 := cell_got E6.out 5
            have e6 := cell_got E6.out 6
            have le := got_lt E6.out
            obtain ⟨S, hS⟩ : ∃ S, S = vl.ownBlock.toList := ⟨_, rfl⟩
            have hbS : b ∉ S := fun hm => by rw [hS] at hm; exact R6.out.lk.ne_box R6.out.box (by decide) (by simpa using hm)
            have heS : eb ∉ S := fun hm => by rw [hS] at hm; have := hvlt eb hm; omega
            have hgS : g ∉ S := fun hm => by
              rw [hS] at hm
              obtain ⟨_, _, hq⟩ := R6.out.lk.block (by simpa using hm)
              exact hq.ne N6.out (by decide) rfl
            have HSE := Lib.hid hS
            clear hS hvlt
            refine wp_region_calm2 [0, 1, 2, 3, 4, 5, 6, 7, 8, 9, 10, 11, 12, 13] [16, 17, 18, 19] (OnlyC S w6) (by kernel_rfl) (by kernel_rfl) ?_
            simp only [pick, List.map_cons, List.map_nil, List.getD_cons_succ, List.getD_cons_zero]
            iterate 14 (refine wpCalm_step (fun K hK => ?_); go_simp; refine hK _ ?_; clear hK K)
            refine wpCalm_nil ?_
            clear c0 c1 lg q1 lq e0 e1 e2 e3 e4 e5 e6 le
            refine Rest.by (X := Nat × Nat) (fun y a => ((((a.put (some 71) (.slice (some ⟨w6.heap.size, 0, none⟩) 1 1)).put (some 72) (.slice (some ⟨y.1, 0, none⟩) (ls.length + 1) y.2)).put (some 73) (.pointer (some ⟨b, 0, none⟩))).put (some 74) (.pointer (some ⟨b, 0, none⟩))).put (some 75) (.pointer (some ⟨b, 1, none⟩)))
              (fun y w' => Ob b W0 w' ∧ RdW W0.heap.size b w' (⟨{ x.sc with lk := x.sc.lk ++ [⟨m0, m1, m2, m3, m4, m5, m6, V, []⟩] }, x.at_⟩ : SSt) ns (ls ++ [⟨⟨m0, m1, m2, m3, m4, m5, m6, V, []⟩, none, 0⟩]) vn (.slice (some ⟨y.1, 0, none⟩) (ls.length + 1) y.2) vf) ?_ ?_
            · rintro ⟨g9, cap9⟩ w9 ⟨ho9, hr9⟩
              simp only [Act.put, List.setIfInBounds_toArray, List.set_cons_succ, List.set_cons_zero]
              have O9 := Lib.hid ho9; have R9 := Lib.hid hr9
              clear ho9 hr9
              have BP := Lib.hid R9.out.box
              have lp := got_lt BP.out; have q5 := cell_got BP.out 5; have f5 := frozen_got BP.out 5
              rcases HOK.out with ⟨rfl, u, rfl, hq⟩ | ⟨rfl, hq⟩
              · have HQ : Hid (res = some ⟨{ x.sc with lk := x.sc.lk ++ [⟨m0, m1, m2, m3, m4, m5, m6, (u : Int), []⟩] }, 6⟩) := Lib.hid (by rw [HX.out, hq]; rfl)
                clear hq HOK
                go_wp2
                go_ret
                rw [HQ.out]
                refine ⟨rfl, H0.out, O9.out.setCell (.inl (by simp)) _, ns, ls ++ [⟨⟨m0, m1, m2, m3, m4, m5, m6, u, []⟩, none, 0⟩], vn, .slice (some ⟨g9, 0, none⟩) (ls.length + 1) cap9, vf, ?_⟩
                exact R9.out.cell ((Only.refl [b] w9).setCell (.inl (by simp)) _) (setCell_got _ BP.out) rfl rfl rfl
              · have HQ : Hid (res = none) := Lib.hid (by rw [HX.out, hq]; rfl)
                clear hq HOK
                go_wp2
                go_ret
                rw [HQ.out]
                exact ⟨rfl, O9.out.setCell (.inl (by simp)) _⟩
            · refine wpAnyC_next [14] (by kernel_rfl) (by simp) (.inr (onlyC (Only.refl S w6).drew)) ?_
              simp only [List.mem_cons, List.not_mem_nil, or_false, forall_eq]
              refine wpOp_one rfl ?_
              go_wp2
              simp only [nrm]
              refine allocd_abs (G := wpAnyC _ _ _ _ _ _ _ _ _) ?_
              intro wa hna hoa hsa
              have MA := Lib.hid hna; have oA := Lib.hid hoa; have RA := Lib.hid (R6.out.kept hoa); have OA := Lib.hid (O6.out.nil_trans hoa)
              clear hna hsa hoa
              refine wpAnyC_next [15] (by kernel_rfl) (by simp) (.inr (onlyC (oA.out.mono (by simp)))) ?_
              simp only [List.mem_cons, List.not_mem_nil, or_false, forall_eq]
              refine wpOp_one rfl ?_
              refine wpList_append_B (B := W0.heap.size) rfl _ _ 23 rfl 54 (.agg #[.int .i64 0, .int .i64 0, .int .i64 0, .int .i64 0, .int .i64 0, .int .i64 0, .int .i64 0, .int .u64 0, .slice none 0 0]) 9 88 Tryz.underlying23 (by kernel_rfl) rfl (by decide) lkC_len lkC_one ls vl rfl RA.out.lk w6.heap.size (⟨⟨m0, m1, m2, m3, m4, m5, m6, V, []⟩, none, 0⟩ : LkW) rfl (fun j u hj => ?_) (by simp [maxLen]; omega) (by omega) (Nat.le_trans (by have := OA.out.size; omega) (Nat.le_refl _)) ?_
              · rw [cell_got MA.out]; rw [← hj]; simp [lkC]
              · intro g9 cap9 wb hown hob _
                rw [← HSE.out] at hob
                have WB := Lib.hid hown; have oB := Lib.hid hob; have oS := Lib.hid ((oA.out.mono (S' := S) (by simp)).trans hob (fun x h => .inl h))
                clear hown hob
                simp only [wpList, nrm]
                refine wpAnyC_next [16] (by kernel_rfl) (by simp) (.inr (onlyC oS.out)) ?_
                simp only [List.mem_cons, List.not_mem_nil, or_false, forall_eq]
                refine wpOp_one rfl ?_
                go_wp2
                simp only [nrm]
                refine wpAnyC_next [17] (by kernel_rfl) (by simp) (.inr (onlyC oS.out)) ?_
                simp only [List.mem_cons, List.not_mem_nil, or_false, forall_eq]
                refine wpOp_one rfl ?_
                go_wp2
                simp only [nrm]
                refine wpAnyC_next [18] (by kernel_rfl) (by simp) (.inr (onlyC oS.out)) ?_
                simp only [List.mem_cons, List.not_mem_nil, or_false, forall_eq]
                refine wpOp_one rfl ?_
                go_wp2
                simp only [nrm]
                refine wpAnyC_next [19] (by kernel_rfl) (by simp) (.inr (onlyC oS.out)) ?_
                simp only [List.mem_cons, List.not_mem_nil, or_false, forall_eq]
                refine wpOp_one rfl ?_
                have BP := Lib.hid (oS.out.got R6.out.box hbS)
                have lp := got_lt BP.out
                have qc := cell_got BP.out 1; have fq := frozen_got BP.out 1
                go_wp2
                simp only [nrm]
                refine wpAnyC_done (by kernel_rfl) (.inl (late_of (by kernel_rfl))) ⟨(g9, cap9), rfl, ?_, ?_⟩
                · refine (Ob.row (S := S) OA.out oB.out (fun k hk => ?_)).setCell (.inl (by simp)) _
                  rw [HSE.out] at hk
                  exact RA.out.lk.blockC (by simpa using hk)
                · rw [HSE.out] at oB
                  exact RA.out.addL (x' := (⟨{ x.sc with lk := x.sc.lk ++ [⟨m0, m1, m2, m3, m4, m5, m6, V, []⟩] }, x.at_⟩ : SSt)) oB.out WB.out ⟨rfl, rfl, rfl⟩ ((Only.refl [b] wb).setCell (.inl (by simp)) _) (setCell_got _ BP.out) rfl rfl rfl
          · refine wpAnyC_next [18] (by kernel_rfl) (by simp) (.inr (onlyC (Only.refl [] w2).drew)) ?_
            simp only [List.mem_cons, List.not_mem_nil, or_false, forall_eq]
            refine wpOp_one rfl ?_
            go_wp2
            simp only [nrm]
            refine allocd_abs (G := wpAnyC _ _ _ _ _ _ _ _ _) ?_
            intro w5 hn5 ho5 hs5
            have M5 := Lib.hid hn5; have o25 := Lib.hid ho5
            clear hn5 hs5 ho5
            refine wpAnyC_next [19] (by kernel_rfl) (by simp) (.inr (onlyC o25.out)) ?_
            simp only [List.mem_cons, List.not_mem_nil, or_false, forall_eq]
            refine wpOp_one rfl ?_
            have la := got_lt M5.out
            have fa0 := frozen_got M5.out 0; have ca0 := cell_got M5.out 0
            have fa1 := frozen_got M5.out 1; have ca1 := cell_got M5.out 1
            have fa2 := frozen_got M5.out 2; have ca2 := cell_got M5.out 2
            have fa3 := frozen_got M5.out 3; have ca3 := cell_got M5.out 3
            have fa4 := frozen_got M5.out 4; have ca4 := cell_got M5.out 4
            have fa5 := frozen_got M5.out 5; have ca5 := cell_got M5.out 5
            have fa6 := frozen_got M5.out 6; have ca6 := cell_got M5.out 6
            go_wp2
            simp only [nrm]
            clear la fa0 ca0 fa1 ca1 fa2 ca2 fa3 ca3 fa4 ca4 fa5 ca5 fa6 ca6
            have o2 : Only [w2.heap.size] w5 (((((((w5.setCell ⟨w2.heap.size, 0, none⟩ (.int .i64 m2)).setCell ⟨w2.heap.size, 1, none⟩ (.int .i64 m3)).setCell ⟨w2.heap.size, 2, none⟩ (.int .i64 m4)).setCell ⟨w2.heap.size, 3, none⟩ (.int .i64 m5)).setCell ⟨w2.heap.size, 4, none⟩ (.int .i64 m6)).setCell ⟨w2.heap.size, 5, none⟩ (.int .u64 0)).setCell ⟨w2.heap.size, 6, none⟩ (.slice none 0 0)) := ((((((((Only.refl _ w5).setCell (.inl (by simp)) _).setCell (.inl (by simp)) _).setCell (.inl (by simp)) _).setCell (.inl (by simp)) _).setCell (.inl (by simp)) _).setCell (.inl (by simp)) _).setCell (.inl (by simp)) _)
            have o3 := o25.out.trans o2 (by simp)
            exact wpAnyC_done (by kernel_rfl) (.inr (onlyC o3)) ⟨w2.heap.size, rfl, (setCell_got _ (setCell_got _ (setCell_got _ (setCell_got _ (setCell_got _ (setCell_got _ (setCell_got _ M5.out))))))), o3, Nat.le_refl _⟩
      · have HX : Hid (rdLink x r = none) := Lib.hid (by
          rcases r with _ | ⟨a0, _ | ⟨a1, _ | ⟨a2, _ | ⟨a3, _ | ⟨a4, _ | ⟨a5, _ | ⟨a6, _ | ⟨a7, _ | ⟨q, r⟩⟩⟩⟩⟩⟩⟩⟩⟩
          · rfl
          · rfl
          · rfl
          · rfl
          · rfl
          · rfl
          · rfl
          · rfl
          · exact absurd rfl h2
          · rfl)
        generalize rdLink x r = res at HX ⊢
        have d7 : ((x.at_ : Int) == 7) = false := by rw [beq_eq_false_iff_ne]; omega
        have z2 : (((wd :: r).length : Int) != 9) = true := by rw [bne_iff_ne]; omega
        have z2p : (((wd :: r).length : Int) == 9) = false := by rw [beq_eq_false_iff_ne]; omega
        clear h0 h7 h2
        generalize (wd :: r).length = nn at hn ⊢ z2 z2p
        go_enter Tryz.func72, Tryz.ntmps72
        go_wp2_with fail
        refine HW.out.mono ?_
        rintro e w1 ⟨rfl, ho1⟩
        have O1 := Lib.hid (H1.out.nil_trans ho1); have R1 := Lib.hid (HR.out.kept ho1)
        have q5 := cell_got R1.out.box 5; have lq := got_lt R1.out.box
        go_wp2
        go_ret
        rw [HX.out]
        exact ⟨rfl, O1.out⟩
  · have hw : whole x.at_ = false := by simpa using h0
    rw [hw] at HW
    have HX : Hid (rdLink x r = none) := Lib.hid (by
      rcases r with _ | ⟨a0, _ | ⟨a1, _ | ⟨a2, _ | ⟨a3, _ | ⟨a4, _ | ⟨a5, _ | ⟨a6, _ | ⟨a7, _ | ⟨q, r⟩⟩⟩⟩⟩⟩⟩⟩⟩
      · rfl
      · rfl
      · rfl
      · rfl
      · rfl
      · rfl
      · rfl
      · rfl
      · exact if_neg (fun q => h0 q.1)
      · rfl)
    generalize rdLink x r = res at HX ⊢
    clear hw
    clear h0 
    generalize (wd :: r).length = nn at hn ⊢ 
    go_enter Tryz.func72, Tryz.ntmps72
    go_wp2_with fail
    refine HW.out.mono ?_
    rintro e w1 ⟨rfl, ho1⟩
    have O1 := Lib.hid (H1.out.nil_trans ho1); have R1 := Lib.hid (HR.out.kept ho1)
    have q5 := cell_got R1.out.box 5; have lq := got_lt R1.out.box
    go_wp2
    go_ret
    rw [HX.out]
    exact ⟨rfl, O1.out⟩
end Go.Proofs.YthmeifdgkodjlaaGreatDoor

/- change of the reader. Conditions: the library's variables are laid; the lengths. -/
namespace Go.Proofs.YthmeifdgkodjlaaGreatDoor
open Go.RowKit

theorem snoc_or {α : Type} (l : List α) : l = [] ∨ ∃ r y, l = r ++ [y] := by
  rcases List.eq_nil_or_concat l with h | ⟨r, y, h⟩
  · exact .inl h
  · exact .inr ⟨r, y, by simpa using h⟩
theorem own_ptr {α : Type} {enc : α → List Value} {e : TypeId} {s B n c k : Nat} {w : World} {p : Option Addr} {l : List α} (h : Own enc e s B w (.slice p n c) l) (hk : (Value.slice p n c).ownBlock = some k) : p = some ⟨k, 0, none⟩ := by
  rcases h with ⟨h, _⟩ | ⟨g, cap, h, _, _⟩
  · rw [h] at hk; simp [Value.ownBlock] at hk
  · rw [h] at hk
    simp only [Value.ownBlock, Option.some.injEq] at hk
    cases h
    rw [hk]
theorem ptr_ne {α : Type} {enc : α → List Value} {e : TypeId} {s B n c n' c' k : Nat} {w : World} {p p' : Option Addr} {l l' : List α} (h : Own enc e s B w (.slice p n c) l) (h' : Own enc e s B w (.slice p' n' c') l') (hne : p ≠ p' ∨ p' = none) (hk : k ∈ (Value.slice p' n' c').ownBlock.toList) : (Value.slice p n c).ownBlock ≠ some k := by
  intro hq
  have h1 := own_ptr h hq; have h2 := own_ptr h' (by simpa using hk)
  rcases hne with h3 | h3
  · exact h3 (by rw [h1, h2])
  · rw [h3] at h2; cases h2
/-- the new slice's block is another one than that of an element's slice -/
theorem ptr_new {α : Type} {enc : α → List Value} {e : TypeId} {s B n c n' c' g : Nat} {w wa : World} {p p' : Option Addr} {l l' : List α} (h : Own enc e s B w (.slice p n c) l) (h' : Own enc e s B w (.slice p' n' c') l') (hne : p ≠ p' ∨ p' = none) (hw : w.heap.size ≤ wa.heap.size)
    (hg : (Value.slice p' n' c').ownBlock = some g ∨ g = wa.heap.size) : p ≠ some ⟨g, 0, none⟩ := by
  intro hp
  rcases hg with hg | hg
  · have h2 := own_ptr h' hg
    rcases hne with h3 | h3
    · exact h3 (by rw [hp, h2])
    · rw [h3] at h2; cases h2
  · have hk : (Value.slice p n c).ownBlock = some g := by rw [hp]; rfl
    obtain ⟨_, _, hq⟩ := h.block hk
    have := hq.lt; omega
set_option maxRecDepth 100000 in
set_option maxHeartbeats 8000000 in
theorem kChange {W0 : Two} {w : World} {b : Nat} {x : SSt} {p : Option Addr} {n cap : Nat} {wd : List UInt8} {r : List (List UInt8)} (h : RdX W0 b w x) (hsz : SLe 100000 x) (hlk : x.at_ = 6 → 0 < x.sc.lk.length) (hv : VRow strC 1 w p n cap (wd :: r)) (hn : n ≤ 100000) (hl : ∀ y ∈ wd :: r, y.length ≤ 1000000) (he : Env w) :
    Calls Tryz.prog 73 #[.pointer (some ⟨b, 0, none⟩), .slice p n cap] w fun e w' => RdR W0 b (rdChange x r) e w' := by
  have hlen := hv.len
  subst hlen
  obtain ⟨hb0, hb1, ns, ls, vn, vl, vf, hR⟩ := h
  have hfl := hsz.ch
  have HR := Lib.hid hR; have HV := Lib.hid hv; have HE := Lib.hid he; have HL := Lib.hid hl; have H0 := Lib.hid hb0; have H1 := Lib.hid hb1
  have hx1 := hR.hl; have hle := hsz.lk
  clear hR hv he hl hb0 hb1 hsz
  have q5 := cell_got HR.out.box 5; have lq := got_lt HR.out.box
  by_cases h6 : x.at_ = 6
  · by_cases h2 : (wd :: r).length = 6
    · obtain ⟨a0, a1, a2, a3, a4, rfl⟩ : ∃ a0 a1 a2 a3 a4, r = [a0, a1, a2, a3, a4] := by
        rcases r with _ | ⟨a0, _ | ⟨a1, _ | ⟨a2, _ | ⟨a3, _ | ⟨a4, _ | ⟨q, r⟩⟩⟩⟩⟩⟩
        · simp at h2
        · simp at h2
        · simp at h2
        · simp at h2
        · simp at h2
        · exact ⟨a0, a1, a2, a3, a4, rfl⟩
        · simp at h2
      obtain ⟨rl, y, hls⟩ : ∃ rl y, ls = rl ++ [y] := by
        rcases snoc_or ls with h | h
        · exact absurd (hlk h6) (by rw [hx1, h]; simp)
        · exact h
      subst hls
      have hrl : rl.length ≤ 100000 := by rw [hx1] at hle; simp at hle; omega
      have hgl : x.sc.lk.getLast? = some y.l := by rw [hx1]; simp
      have hyc : y.l.ch.length ≤ 100000 := hfl y.l (by rw [hx1]; simp)
      have HRD : Hid (rdChange x [a0, a1, a2, a3, a4] = (match numsO [a0, a1, a2, a3, a4] with
        | some [a, b, t, d, q] => (if a = y.l.A ∧ b = y.l.B then some ⟨{ x.sc with lk := lastL x.sc.lk (fun l => { l with ch := l.ch ++ [⟨t, d, q⟩] }) }, 6⟩ else none)
        | _ => none)) := Lib.hid (by
        unfold rdChange
        rw [if_pos h6, hgl]
        rcases numsO [a0, a1, a2, a3, a4] with _ | ms
        · rfl
        · rcases ms with _ | ⟨m0, _ | ⟨m1, _ | ⟨m2, _ | ⟨m3, _ | ⟨m4, _ | ⟨q, ms⟩⟩⟩⟩⟩⟩ <;> rfl)
      generalize rdChange x [a0, a1, a2, a3, a4] = res at HRD ⊢
      have d6 : ((x.at_ : Int) != 6) = false := by rw [h6]; rfl
      have z2 : ((([wd, a0, a1, a2, a3, a4] : List (List UInt8)).length : Int) != 6) = false := rfl
      obtain ⟨bw, off, hp, _, lw⟩ := HV.out.str (Only.refl [] w) (k := 5) (by simp)
      subst hp
      have hcp : 6 ≤ cap := HV.out.le
      have HSUB := Lib.hid (HV.out.sub 1 6 (by decide) (by simp))
      have hsl : ∀ y ∈ ([a0, a1, a2, a3, a4] : List (List UInt8)), y.length ≤ 1000000 := fun y hy => HL.out y (by simp only [List.mem_cons, List.not_mem_nil, or_false] at hy ⊢; rcases hy with h | h | h | h | h <;> simp [h])
      have HSL := Lib.hid hsl
      clear h2 hsl hfl hlk hle hgl
      have HN := Lib.hid (pNumbers HSUB.out (by simp) HSL.out HE.out)
      clear HSUB HSL HE
      go_enter Tryz.func73, Tryz.ntmps73
      go_wp2_with fail
      refine HN.out.mono ?_
      rintro e w2 ⟨hv4, ho2⟩
      have R2 := Lib.hid (HR.out.kept ho2); have O2 := Lib.hid (H1.out.nil_trans ho2)
      clear ho2 HN HR H1 HV q5 lq z2 d6
      obtain ⟨v0, v1, rfl⟩ := numsR_form hv4
      have hv4 : NumsR (numsO [a0, a1, a2, a3, a4]) w (.returned (.tuple #[v0, v1])) w2 := hv4
      obtain ⟨gl, capl, hvl, hglB, hrowl⟩ := own_at R2.out.lk
      subst hvl
      have HRL := Lib.hid hrowl
      have q1 := cell_got R2.out.box 1; have lq := got_lt R2.out.box
      have hsub : ((rl.length : Int) + 1 - 1) = rl.length := by omega
      have hwl : IntKind.i64.wrap (rl.length : Int) = (rl.length : Int) := by rw [IntKind.wrap_i64]; omega
      have hwl2 : IntKind.i64.wrap ((rl.length : Int) + 1 - 1) = (rl.length : Int) := by rw [hsub]; exact hwl
      have hlt2 : (rl.length : Int) < (rl.length : Int) + 1 := by omega
      clear hrowl
      go_wp2_with fail
      refine wp_region_grown [0, 1, 2, 3, 4, 5, 6, 7, 8, 9, 10, 11, 12, 13] [] (by kernel_rfl) (by kernel_rfl) ?_
      simp only [pick, List.map_cons, List.map_nil, List.getD_cons_succ, List.getD_cons_zero]
      iterate 14 (refine wpQuiet_step (fun K hK => ?_); go_simp; refine hK _ ?_; clear hK K)
      refine wpQuiet_nil ?_
      intro w3 hw3
      have o3 := only_of_plus hw3
      have R3 := Lib.hid (R2.out.kept o3); have O3 := Lib.hid (O2.out.nil_trans o3); have L3 := Lib.hid (HRL.out.kept o3 (by simp))
      clear hw3 q1 lq R2 O2 HRL
      go_wp2_with fail
      obtain ⟨gv, hv1', hrest⟩ : ∃ okb : Bool, v1 = .bool okb ∧ ((okb = false ∧ numsO [a0, a1, a2, a3, a4] = none) ∨ (okb = true ∧ ∃ g m0 m1 m2 m3 m4, v0 = .slice (some ⟨g, 0, none⟩) 5 5 ∧ RowAt itC 3 1 w2 g 5 [m0, m1, m2, m3, m4] ∧ numsO [a0, a1, a2, a3, a4] = some [m0, m1, m2, m3, m4])) := by
        cases hx : numsO [a0, a1, a2, a3, a4] with
        | none => rw [hx] at hv4; exact ⟨false, (numsR_no hv4).2, .inl ⟨rfl, rfl⟩⟩
        | some ms =>
          rw [hx] at hv4
          obtain ⟨g, e0, e1, hrow⟩ := numsR_yes hv4
          have hml := numsO_len hx
          rcases ms with _ | ⟨m0, _ | ⟨m1, _ | ⟨m2, _ | ⟨m3, _ | ⟨m4, _ | ⟨q, ms⟩⟩⟩⟩⟩⟩
          · simp at hml
          · simp at hml
          · simp at hml
          · simp at hml
          · simp at hml
          · exact ⟨true, e1, .inr ⟨rfl, g, m0, m1, m2, m3, m4, e0, hrow, rfl⟩⟩
          · simp at hml
      subst hv1'
      rcases hrest with ⟨rfl, hx⟩ | ⟨rfl, g, m0, m1, m2, m3, m4, rfl, hrow, hx⟩
      · have HQ : Hid (res = none) := Lib.hid (by rw [HRD.out, hx])
        clear hx hv4 HRD hsub hwl hwl2 hlt2
        refine wp_region_grown [0, 1, 2, 3, 4, 5, 6, 7, 8, 9, 10, 11, 12, 13, 14, 15, 16, 17, 18, 19, 20, 21] [] (by kernel_rfl) (by kernel_rfl) ?_
        simp only [pick, List.map_cons, List.map_nil, List.getD_cons_succ, List.getD_cons_zero]
        iterate 1 (refine wpQuiet_step (fun K hK => ?_); go_simp; refine hK _ ?_; clear hK K)
        repeat (go_big_quiet_step (fail))
        refine wpQuiet_nil ?_
        intro w4 hw4
        have o4 := only_of_plus hw4
        have O4 := Lib.hid (O3.out.nil_trans o4)
        clear hw4 o4
        go_wp2
        go_ret
        rw [HQ.out]
        exact ⟨rfl, O4.out⟩
      · have HX : Hid (res = if m0 = y.l.A ∧ m1 = y.l.B then some ⟨{ x.sc with lk := lastL x.sc.lk (fun l => { l with ch := l.ch ++ [⟨m2, m3, m4⟩] }) }, 6⟩ else none) := Lib.hid (by rw [HRD.out, hx])
        have N3 := Lib.hid (hrow.kept o3 (by simp))
        clear hx hv4 HRD hsub hwl hwl2 hlt2 hrow o3
        have c0 : w3.cell? ⟨g, 0, none⟩ = some (.int .i64 m0) := N3.out.cell (i := 0) (j := 0) itC_len rfl (by decide)
        have c1 : w3.cell? ⟨g, 1, none⟩ = some (.int .i64 m1) := N3.out.cell (i := 1) (j := 0) itC_len rfl (by decide)
        have lg := N3.out.lt
        have cA : w3.cell? ⟨gl, rl.length * 9, none⟩ = some (.int .i64 y.l.A) := L3.out.cell (i := rl.length) (j := 0) lkC_len row_last (by decide)
        have cB : w3.cell? ⟨gl, rl.length * 9 + 1, none⟩ = some (.int .i64 y.l.B) := L3.out.cell (i := rl.length) (j := 1) lkC_len row_last (by decide)
        have ll := L3.out.lt
        by_cases hA : m0 = y.l.A
        · have dA : (m0 != y.l.A) = false := by simp [hA]
          have dA' : (m0 == y.l.A) = true := by simp [hA]
          by_cases hB : m1 = y.l.B
          · have dB : (m1 != y.l.B) = false := by simp [hB]
            have dB' : (m1 == y.l.B) = true := by simp [hB]
            have HQ : Hid (res = some ⟨{ x.sc with lk := lastL x.sc.lk (fun l => { l with ch := l.ch ++ [⟨m2, m3, m4⟩] }) }, 6⟩) := Lib.hid (by rw [HX.out, if_pos ⟨hA, hB⟩])
            clear HX hA hB
            refine wp_region_grown [0, 1, 2, 3, 4, 5, 6, 7, 8, 9, 10, 11, 12, 13, 14, 15, 16, 17, 18, 19, 20, 21] [] (by kernel_rfl) (by kernel_rfl) ?_
            simp only [pick, List.map_cons, List.map_nil, List.getD_cons_succ, List.getD_cons_zero]
            iterate 1 (refine wpQuiet_step (fun K hK => ?_); go_simp; refine hK _ ?_; clear hK K)
            repeat (go_big_quiet_step (fail))
            refine wpQuiet_nil ?_
            intro w4 hw4
            have o4 := only_of_plus hw4
            have R4 := Lib.hid (R3.out.kept o4); have O4 := Lib.hid (O3.out.nil_trans o4); have L4 := Lib.hid (L3.out.kept o4 (by simp)); have N4 := Lib.hid (N3.out.kept o4 (by simp))
            clear hw4 o4 c0 c1 lg cA cB ll dA dA' dB dB' R3 O3 L3 N3
            go_wp2_with fail
            have c2 : w4.cell? ⟨g, 2, none⟩ = some (.int .i64 m2) := N4.out.cell (i := 2) (j := 0) itC_len rfl (by decide)
            have c3 : w4.cell? ⟨g, 3, none⟩ = some (.int .i64 m3) := N4.out.cell (i := 3) (j := 0) itC_len rfl (by decide)
            have c4 : w4.cell? ⟨g, 4, none⟩ = some (.int .i64 m4) := N4.out.cell (i := 4) (j := 0) itC_len rfl (by decide)
            have lg := N4.out.lt
            have cC : w4.cell? ⟨gl, rl.length * 9 + 8, none⟩ = some (.slice y.p y.l.ch.length y.c) := L4.out.cell (i := rl.length) (j := 8) lkC_len row_last (by decide)
            have ll := L4.out.lt
            have HCO := Lib.hid (R4.out.ch y (by simp))
            obtain ⟨S, hS⟩ : ∃ S, S = (Value.slice y.p y.l.ch.length y.c).ownBlock.toList := ⟨_, rfl⟩
            have hbS : b ∉ S := fun hm => by rw [hS] at hm; exact HCO.out.ne_box R4.out.box (by decide) (by simpa using hm)
            have hlS : gl ∉ S := fun hm => by
              rw [hS] at hm
              obtain ⟨_, _, hq⟩ := HCO.out.block (by simpa using hm)
              exact hq.ne L4.out (by decide) rfl
            have hgS : g ∉ S := fun hm => by
              rw [hS] at hm
              obtain ⟨_, _, hq⟩ := HCO.out.block (by simpa using hm)
              exact hq.ne N4.out (by decide) rfl
            have HSE := Lib.hid hS
            clear hS
            refine wp_region_calm2 [0, 1, 2, 3, 4, 5, 6, 7, 8, 9, 10, 11, 12, 13, 14, 15] [18, 19, 20, 21] (OnlyC S w4) (by kernel_rfl) (by kernel_rfl) ?_
            simp only [pick, List.map_cons, List.map_nil, List.getD_cons_succ, List.getD_cons_zero]
            iterate 16 (refine wpCalm_step (fun K hK => ?_); go_simp; refine hK _ ?_; clear hK K)
            refine wpCalm_nil ?_
            clear c2 c3 c4 lg cC ll
            refine Rest.by (X := Nat × Nat) (fun q a => ((((a.put (some 75) (.slice (some ⟨w4.heap.size, 0, none⟩) 1 1)).put (some 76) (.slice (some ⟨q.1, 0, none⟩) (y.l.ch.length + 1) q.2)).put (some 77) (.pointer (some ⟨gl, rl.length * 9, none⟩))).put (some 78) (.pointer (some ⟨gl, rl.length * 9 + 2, none⟩))).put (some 79) (.pointer (some ⟨gl, rl.length * 9 + 2 + 6, none⟩)))
              (fun q w' => Ob b W0 w' ∧ RdW W0.heap.size b w' (⟨{ x.sc with lk := lastL x.sc.lk (fun l => { l with ch := l.ch ++ [⟨m2, m3, m4⟩] }) }, 6⟩ : SSt) ns (rl ++ [⟨{ y.l with ch := y.l.ch ++ [⟨m2, m3, m4⟩] }, some ⟨q.1, 0, none⟩, q.2⟩]) vn (.slice (some ⟨gl, 0, none⟩) (rl.length + 1) capl) vf) ?_ ?_
            · rintro ⟨g9, cap9⟩ w9 ⟨ho9, hr9⟩
              simp only [Act.put, List.setIfInBounds_toArray, List.set_cons_succ, List.set_cons_zero]
              have O9 := Lib.hid ho9; have R9 := Lib.hid hr9
              clear ho9 hr9
              go_wp2
              go_ret
              rw [HQ.out]
              exact ⟨rfl, H0.out, O9.out, ns, _, vn, _, vf, R9.out⟩
            · refine wpAnyC_next [16] (by kernel_rfl) (by simp) (.inr (onlyC (Only.refl S w4).drew)) ?_
              simp only [List.mem_cons, List.not_mem_nil, or_false, forall_eq]
              refine wpOp_one rfl ?_
              go_wp2
              simp only [nrm]
              refine allocd_abs (G := wpAnyC _ _ _ _ _ _ _ _ _) ?_
              intro wa hna hoa hsa
              have MA := Lib.hid hna; have oA := Lib.hid hoa; have RA := Lib.hid (R4.out.kept hoa); have OA := Lib.hid (O4.out.nil_trans hoa); have CA := Lib.hid (HCO.out.kept hoa)
              clear hna hsa hoa
              refine wpAnyC_next [17] (by kernel_rfl) (by simp) (.inr (onlyC (oA.out.mono (by simp)))) ?_
              simp only [List.mem_cons, List.not_mem_nil, or_false, forall_eq]
              refine wpOp_one rfl ?_
              refine wpList_append_B (B := W0.heap.size) rfl _ _ 50 rfl 98 (.agg #[.int .i64 0, .int .i64 0, .int .i64 0]) 3 24 Tryz.underlying50 (by kernel_rfl) rfl (by decide) chC_len chC_one y.l.ch (.slice y.p y.l.ch.length y.c) rfl CA.out w4.heap.size (⟨m2, m3, m4⟩ : Ch) rfl (fun j u hj => ?_) (by simp [maxLen]; omega) (by omega) (by have := OA.out.size; omega) ?_
              · rw [cell_got MA.out]; rw [← hj]; simp [chC]
              · intro g9 cap9 wb hown hob hg9
                rw [← HSE.out] at hob
                have WB := Lib.hid hown; have oB := Lib.hid hob; have oS := Lib.hid ((oA.out.mono (S' := S) (by simp)).trans hob (fun x h => .inl h)); have HG9 := Lib.hid hg9
                clear hown hob hg9
                simp only [wpList, nrm]
                refine wpAnyC_next [18] (by kernel_rfl) (by simp) (.inr (onlyC oS.out)) ?_
                simp only [List.mem_cons, List.not_mem_nil, or_false, forall_eq]
                refine wpOp_one rfl ?_
                go_wp2
                simp only [nrm]
                refine wpAnyC_next [19] (by kernel_rfl) (by simp) (.inr (onlyC oS.out)) ?_
                simp only [List.mem_cons, List.not_mem_nil, or_false, forall_eq]
                refine wpOp_one rfl ?_
                go_wp2
                simp only [nrm]
                refine wpAnyC_next [20] (by kernel_rfl) (by simp) (.inr (onlyC oS.out)) ?_
                simp only [List.mem_cons, List.not_mem_nil, or_false, forall_eq]
                refine wpOp_one rfl ?_
                go_wp2
                simp only [nrm]
                refine wpAnyC_next [21] (by kernel_rfl) (by simp) (.inr (onlyC oS.out)) ?_
                simp only [List.mem_cons, List.not_mem_nil, or_false, forall_eq]
                refine wpOp_one rfl ?_
                have LB := Lib.hid (L4.out.kept oS.out hlS)
                have cD : wb.cell? ⟨gl, rl.length * 9 + 2 + 6, none⟩ = some (.slice y.p y.l.ch.length y.c) := LB.out.cell (i := rl.length) (j := 8) lkC_len row_last (by decide)
                have fD := LB.out.frozen (rl.length * 9 + 2 + 6); have lD := LB.out.lt
                go_wp2
                simp only [nrm]
                clear cD fD lD
                have hz := oA.out.size
                have hSt := RA.out.setL (y' := ⟨{ y.l with ch := y.l.ch ++ [⟨m2, m3, m4⟩] }, some ⟨g9, 0, none⟩, cap9⟩) (x' := (⟨{ x.sc with lk := lastL x.sc.lk (fun l => { l with ch := l.ch ++ [⟨m2, m3, m4⟩] }) }, 6⟩ : SSt)) (j := 8) (u := .slice (some ⟨g9, 0, none⟩) (y.l.ch.length + 1) cap9) oB.out hbS
                  (fun k hk => by rw [HSE.out] at hk; exact RA.out.nd.ne_of CA.out (by decide) k hk) (fun k hk => by rw [HSE.out] at hk; exact RA.out.lk.ne_of CA.out (by decide) k hk) (fun k hk => by rw [HSE.out] at hk; exact RA.out.ft.ne_of CA.out (by decide) k hk)
                  (fun z hz k hk => by rw [HSE.out] at hk; exact ptr_ne (RA.out.ch z (by simp [hz])) CA.out (RA.out.apL rl y rfl z hz) hk)
                  (fun z hz k hk => by rw [HSE.out] at hk; exact (RA.out.sg z hz).ne_of CA.out (by decide) k hk) (fun z hz k hk => by rw [HSE.out] at hk; exact (RA.out.sv z hz).ne_of CA.out (by decide) k hk)
                  (by simpa using WB.out) (fun z hz => .inl (ptr_new (RA.out.ch z (by simp [hz])) CA.out (RA.out.apL rl y rfl z hz) (Nat.le_refl _) HG9.out)) (by decide) (by simp [lkC]) rfl (by rw [show ((⟨{ x.sc with lk := lastL x.sc.lk (fun l => { l with ch := l.ch ++ [⟨m2, m3, m4⟩] }) }, 6⟩ : SSt)).sc.lk = lastL x.sc.lk (fun l => { l with ch := l.ch ++ [⟨m2, m3, m4⟩] }) from rfl, hx1, List.map_append]; exact lastL_snoc _ _ _) rfl rfl rfl h6.symm
                obtain ⟨gn, capn, he1, hgB, _, hRd⟩ := hSt
                cases he1
                refine wpAnyC_done (by kernel_rfl) (.inl (late_of (by kernel_rfl))) ⟨(g9, cap9), rfl, ?_, hRd⟩
                refine (Ob.row (S := S) OA.out oB.out (fun k hk => ?_)).setCell (.inr hgB) _
                rw [HSE.out] at hk
                exact CA.out.blockC (by simpa using hk)
          · have dB : (m1 != y.l.B) = true := by simp [hB]
            have dB' : (m1 == y.l.B) = false := by simp [hB]
            have HQ : Hid (res = none) := Lib.hid (by rw [HX.out, if_neg (fun q => hB q.2)])
            clear HX hA hB
            refine wp_region_grown [0, 1, 2, 3, 4, 5, 6, 7, 8, 9, 10, 11, 12, 13, 14, 15, 16, 17, 18, 19, 20, 21] [] (by kernel_rfl) (by kernel_rfl) ?_
            simp only [pick, List.map_cons, List.map_nil, List.getD_cons_succ, List.getD_cons_zero]
            iterate 1 (refine wpQuiet_step (fun K hK => ?_); go_simp; refine hK _ ?_; clear hK K)
            repeat (go_big_quiet_step (fail))
            refine wpQuiet_nil ?_
            intro w4 hw4
            have o4 := only_of_plus hw4
            have O4 := Lib.hid (O3.out.nil_trans o4)
            clear hw4 o4
            go_wp2
            go_ret
            rw [HQ.out]
            exact ⟨rfl, O4.out⟩
        · have dA : (m0 != y.l.A) = true := by simp [hA]
          have dA' : (m0 == y.l.A) = false := by simp [hA]
          have HQ : Hid (res = none) := Lib.hid (by rw [HX.out, if_neg (fun q => hA q.1)])
          clear HX hA
          refine wp_region_grown [0, 1, 2, 3, 4, 5, 6, 7, 8, 9, 10, 11, 12, 13, 14, 15, 16, 17, 18, 19, 20, 21] [] (by kernel_rfl) (by kernel_rfl) ?_
          simp only [pick, List.map_cons, List.map_nil, List.getD_cons_succ, List.getD_cons_zero]
          iterate 1 (refine wpQuiet_step (fun K hK => ?_); go_simp; refine hK _ ?_; clear hK K)
          repeat (go_big_quiet_step (fail))
          refine wpQuiet_nil ?_
          intro w4 hw4
          have o4 := only_of_plus hw4
          have O4 := Lib.hid (O3.out.nil_trans o4)
          clear hw4 o4
          go_wp2
          go_ret
          rw [HQ.out]
          exact ⟨rfl, O4.out⟩
    · have HX : Hid (rdChange x r = none) := Lib.hid (by
        unfold rdChange
        rw [if_pos h6]
        cases hq : numsO r with
        | none => rfl
        | some ms =>
          have := numsO_len hq
          rcases ms with _ | ⟨m0, _ | ⟨m1, _ | ⟨m2, _ | ⟨m3, _ | ⟨m4, _ | ⟨q, ms⟩⟩⟩⟩⟩⟩
          · rfl
          · rfl
          · rfl
          · rfl
          · rfl
          · exact absurd (by simp at this ⊢; omega) h2
          · rfl)
      generalize rdChange x r = res at HX ⊢
      have d6 : ((x.at_ : Int) != 6) = false := by rw [h6]; rfl
      have z2 : (((wd :: r).length : Int) != 6) = true := by rw [bne_iff_ne]; omega
      have z2p : (((wd :: r).length : Int) == 6) = false := by rw [beq_eq_false_iff_ne]; omega
      clear h6 h2 hfl hlk hx1 hle
      generalize (wd :: r).length = nn at hn ⊢ z2 z2p
      go_enter Tryz.func73, Tryz.ntmps73
      go_wp2
      go_ret
      rw [HX.out]
      exact ⟨rfl, H1.out⟩
  · have HX : Hid (rdChange x r = none) := Lib.hid (if_neg h6)
    generalize rdChange x r = res at HX ⊢
    have d6 : ((x.at_ : Int) != 6) = true := by rw [bne_iff_ne]; omega
    have d6p : ((x.at_ : Int) == 6) = false := by rw [beq_eq_false_iff_ne]; omega
    clear h6 hfl hlk hx1 hle
    generalize (wd :: r).length = nn at hn ⊢ 
    go_enter Tryz.func73, Tryz.ntmps73
    go_wp2
    go_ret
    rw [HX.out]
    exact ⟨rfl, H1.out⟩
end Go.Proofs.YthmeifdgkodjlaaGreatDoor

/- part of the reader. Conditions: the library's variables are laid; the lengths. -/
namespace Go.Proofs.YthmeifdgkodjlaaGreatDoor
open Go.RowKit

theorem rdPart_none {x : SSt} {w : List UInt8} {r : List (List UInt8)} (h : numsO r = none) : rdPart x w r = none := by
  unfold rdPart
  split
  · rename_i k' ns' h'; rw [h] at h'; cases h'
  · rfl
theorem rdPart_nil {x : SSt} {w : List UInt8} {r : List (List UInt8)} (h : numsO r = some []) : rdPart x w r = none := by
  unfold rdPart
  split
  · rename_i k' ns' h'; rw [h] at h'; cases h'
  · rfl
theorem rdPart_no {x : SSt} {w : List UInt8} {r : List (List UInt8)} {k : Int} {ns : List Int} (h : numsO r = some (k :: ns)) (hk : ¬ (0 < x.sc.nd.length ∧ k = (x.sc.nd.length : Int) - 1)) : rdPart x w r = none := by
  unfold rdPart
  split
  · rename_i k' ns' h'; rw [h] at h'; cases h'; exact if_neg hk
  · rfl
theorem rdPart_yes {x : SSt} {w : List UInt8} {r : List (List UInt8)} {k : Int} {ns : List Int} (h : numsO r = some (k :: ns)) (hk : 0 < x.sc.nd.length ∧ k = (x.sc.nd.length : Int) - 1) : rdPart x w r = (match (generalizing := false) ns with
       | [a] => if w = wOsc ∧ x.at_ = 3 then some ⟨{ x.sc with nd := lastN x.sc.nd (fun n => { n with ph := a }) }, 4⟩
           else if w = wUse ∧ (x.at_ = 4 ∨ x.at_ = 5) then some ⟨{ x.sc with nd := lastN x.sc.nd (fun n => { n with sv := n.sv ++ [a] }) }, 5⟩ else none
       | [a, p] => if w = wSeg ∧ x.at_ = 4 then some ⟨{ x.sc with nd := lastN x.sc.nd (fun n => { n with sg := n.sg ++ [⟨a, p⟩] }) }, 4⟩ else none
       | _ => none) := by
  unfold rdPart
  split
  · rename_i k' ns' h'; rw [h] at h'; cases h'; rw [if_pos hk]; rcases ns with _ | ⟨a, _ | ⟨p, _ | ⟨q, l⟩⟩⟩ <;> rfl
  · rename_i hne; exact absurd h (hne k ns)
theorem rdPart_empty {x : SSt} {w : List UInt8} {r : List (List UInt8)} (h : x.sc.nd = []) : rdPart x w r = none := by
  cases hq : numsO r with
  | none => exact rdPart_none hq
  | some ms =>
    cases ms with
    | nil => exact rdPart_nil hq
    | cons k ns => exact rdPart_no hq (by rw [h]; simp)
theorem str_eq (a b : List UInt8) : ((bstr a).toList == (⟨b.toArray⟩ : ByteArray).toList) = decide (a = b) := by
  rw [Lib.toList_data, Lib.toList_data, Bool.eq_iff_iff, beq_iff_eq, decide_eq_true_eq]
  exact Iff.rfl
set_option maxRecDepth 100000 in
set_option maxHeartbeats 8000000 in
theorem kPartOsc {W0 : Two} {w : World} {b : Nat} {x : SSt} {p : Option Addr} {n cap : Nat} {r : List (List UInt8)} (h : RdX W0 b w x) (hsz : SLe 100000 x) (hv : VRow strC 1 w p n cap (wOsc :: r)) (hn : n ≤ 100000) (hl : ∀ y ∈ wOsc :: r, y.length ≤ 1000000) (he : Env w) :
    Calls Tryz.prog 71 #[.pointer (some ⟨b, 0, none⟩), .slice p n cap] w fun e w' => RdR W0 b (rdPart x wOsc r) e w' := by
  have hlen := hv.len
  subst hlen
  obtain ⟨hb0, hb1, ns, ls, vn, vl, vf, hR⟩ := h
  have hfl := hsz.sg
  have hx1 := hR.hn; have hle := hsz.nd
  have HR := Lib.hid hR; have HV := Lib.hid hv; have HE := Lib.hid he; have HL := Lib.hid hl; have H0 := Lib.hid hb0; have H1 := Lib.hid hb1
  clear hR hv he hl hb0 hb1 hsz
  obtain ⟨bw, off, hp, s0, lw⟩ := HV.out.str (Only.refl [] w) (k := 0) (by simp)
  subst hp
  have hcp : r.length + 1 ≤ cap := HV.out.le
  have HSUB := Lib.hid (HV.out.sub 1 (r.length + 1) (by omega) (by simp))
  rw [show (List.take (r.length + 1) (wOsc :: r)).drop 1 = r by simp, Nat.add_sub_cancel] at HSUB
  have hsl : ∀ y ∈ r, y.length ≤ 1000000 := fun y hy => HL.out y (by simp [hy])
  have hnn : r.length ≤ 100000 := by simp at hn; omega
  have HN : Hid (Calls Tryz.prog 99 #[.slice (some ⟨bw, off + 1, none⟩) r.length (cap - 1)] w fun e w' => NumsR (numsO r) w e w' ∧ Only [] w w') := Lib.hid (pNumbers HSUB.out hnn hsl HE.out)
  have hWL : (wOsc :: r).length = r.length + 1 := by simp
  rw [hWL] at hn ⊢
  have hrn : r.length ≤ 100000 := by omega
  have HE0 := HE
  clear HSUB HE hsl s0
  have hc1 : (1 : Int) ≤ (r.length : Int) + 1 := by omega
  have hc2 : (r.length : Int) + 1 ≤ (cap : Int) := by omega
  obtain ⟨res, hres⟩ : ∃ res, res = rdPart x wOsc r := ⟨_, rfl⟩
  rw [← hres]
  by_cases hcap : cap = 1
  · subst hcap
    obtain rfl : r = [] := by
      rcases r with _ | ⟨q, r⟩
      · rfl
      · simp at hcp
    have HQ : Hid (res = none) := Lib.hid (by rw [hres]; exact rdPart_nil rfl)
    have HV0 : VRow strC 1 w (some ⟨bw, off, none⟩) 0 0 [] := ⟨rfl, Nat.le_refl _, Nat.zero_le _, by simp, by simp⟩
    have HN0 := Lib.hid (pNumbers HV0 (by decide) (by simp) HE0.out)
    obtain ⟨pn, cn, hvn, _⟩ := HR.out.nd.vrow ndC_len
    subst hvn
    have hsn : ∀ m, ns.length = m + 1 → m ≤ 100000 := fun m h => by rw [hx1, List.length_map] at hle; omega
    clear hres hx1 hfl hle HV0 HN
    go_enter Tryz.func71, Tryz.ntmps71
    go_wp2_with fail
    refine HN0.out.mono ?_
    rintro e w2 ⟨hv4, ho2⟩
    have R2 := Lib.hid (HR.out.kept ho2); have O2 := Lib.hid (H1.out.nil_trans ho2)
    clear ho2 HN0 HR H1 HV HE0
    have q0 := cell_got R2.out.box 0; have lq := got_lt R2.out.box
    obtain ⟨g, h4, _⟩ : ∃ g, e = .returned (.tuple #[.slice (some ⟨g, 0, none⟩) 0 0, .bool true]) ∧ True := by obtain ⟨g, _, h, _⟩ := hv4; exact ⟨g, h, trivial⟩
    subst h4
    clear hv4
    by_cases hz : ns.length = 0
    · have dz : ((ns.length : Int) = 0) := by omega
      rw [hz] at q0
      go_wp2
      go_ret
      rw [HQ.out]
      exact ⟨rfl, O2.out⟩
    · obtain ⟨m, hm⟩ : ∃ m, ns.length = m + 1 := ⟨ns.length - 1, by omega⟩
      rw [hm] at q0
      have hm2 : m ≤ 100000 := hsn m hm
      have hwl : IntKind.i64.wrap (m : Int) = (m : Int) := by rw [IntKind.wrap_i64]; omega
      have hsub : ((m : Int) + 1 - 1) = m := by omega
      have hwl2 : IntKind.i64.wrap ((m : Int) + 1 - 1) = (m : Int) := by rw [hsub]; exact hwl
      have hneg : decide ((m : Int) < 0) = false := decide_eq_false (by omega)
      go_wp2
      go_ret
      rw [HQ.out]
      exact ⟨rfl, O2.out⟩
  have hcap2 : ¬ (cap - 1 = 0) := by omega
  have hcap3 : ¬ ((cap : Int) - 1 = 0) := by omega
  rcases snoc_or ns with hns | ⟨rl, y, hns⟩
  · subst hns
    have HQ : Hid (res = none) := Lib.hid (by rw [hres]; exact rdPart_empty (by rw [hx1]; rfl))
    obtain ⟨pn, cn, hvn, _⟩ := HR.out.nd.vrow ndC_len
    subst hvn
    clear hres hx1 hfl hle
    go_enter Tryz.func71, Tryz.ntmps71
    go_wp2_with fail
    refine HN.out.mono ?_
    rintro e w2 ⟨hv4, ho2⟩
    have R2 := Lib.hid (HR.out.kept ho2); have O2 := Lib.hid (H1.out.nil_trans ho2)
    clear ho2 HN HR H1 HV
    have q0 := cell_got R2.out.box 0; have lq := got_lt R2.out.box
    obtain ⟨v0, v1, rfl⟩ := numsR_form hv4
    have hv4 : NumsR (numsO r) w (.returned (.tuple #[v0, v1])) w2 := hv4
    cases hq : numsO r with
    | none =>
      rw [hq] at hv4
      obtain ⟨rfl, rfl⟩ := numsR_no hv4
      clear hv4 hq
      go_wp2
      go_ret
      rw [HQ.out]
      exact ⟨rfl, O2.out⟩
    | some ms =>
      rw [hq] at hv4
      obtain ⟨g, rfl, rfl, _⟩ := numsR_yes hv4
      clear hv4 hq
      go_wp2
      go_ret
      rw [HQ.out]
      exact ⟨rfl, O2.out⟩
  · subst hns
    have hrl : rl.length ≤ 100000 := by rw [hx1] at hle; simp at hle; omega
    have hxl : x.sc.nd.length = rl.length + 1 := by rw [hx1]; simp
    have hyc := hfl y.n (by rw [hx1]; simp)
    obtain ⟨gn, capn, hvn, hgB, hrown⟩ := own_at HR.out.nd
    subst hvn
    have HRN := Lib.hid hrown
    have HSG : Hid (∀ k, (Value.slice y.ps y.n.sg.length y.cs).ownBlock = some k → k < w.heap.size) := Lib.hid (fun k hk => by obtain ⟨_, _, hq⟩ := (HR.out.sg y (by simp)).block hk; exact hq.lt)
    have HSV : Hid (∀ k, (Value.slice y.pv y.n.sv.length y.cv).ownBlock = some k → k < w.heap.size) := Lib.hid (fun k hk => by obtain ⟨_, _, hq⟩ := (HR.out.sv y (by simp)).block hk; exact hq.lt)
    have HRES := Lib.hid hres
    have hwl : IntKind.i64.wrap (rl.length : Int) = (rl.length : Int) := by rw [IntKind.wrap_i64]; omega
    have hsub : ((rl.length : Int) + 1 - 1) = rl.length := by omega
    have hwl2 : IntKind.i64.wrap ((rl.length : Int) + 1 - 1) = (rl.length : Int) := by rw [hsub]; exact hwl
    have hneg : decide ((rl.length : Int) < 0) = false := decide_eq_false (by omega)
    have HX1 := Lib.hid hx1
    clear hres hfl hle hrown hx1
    go_enter Tryz.func71, Tryz.ntmps71
    go_wp2_with fail
    refine HN.out.mono ?_
    rintro e w2 ⟨hv4, ho2⟩
    have R2 := Lib.hid (HR.out.kept ho2); have O2 := Lib.hid (H1.out.nil_trans ho2); have V2 := Lib.hid (HV.out.kept ho2); have N2 := Lib.hid (HRN.out.kept ho2 (by simp))
    clear ho2 HN HR H1 HV HRN
    have q0 := cell_got R2.out.box 0; have q5 := cell_got R2.out.box 5; have lq := got_lt R2.out.box
    obtain ⟨v0, v1, rfl⟩ := numsR_form hv4
    have hv4 : NumsR (numsO r) w (.returned (.tuple #[v0, v1])) w2 := hv4
    cases hq : numsO r with
    | none =>
      rw [hq] at hv4
      obtain ⟨rfl, rfl⟩ := numsR_no hv4
      have HQ : Hid (res = none) := Lib.hid (by rw [HRES.out]; exact rdPart_none hq)
      clear hv4 hq
      go_wp2
      go_ret
      rw [HQ.out]
      exact ⟨rfl, O2.out⟩
    | some ms =>
      rw [hq] at hv4
      obtain ⟨g, hgw, hge, hrow⟩ : ∃ g, w.heap.size ≤ g ∧ _ ∧ RowAt itC 3 1 w2 g ms.length ms := hv4
      have hge' : v0 = .slice (some ⟨g, 0, none⟩) ms.length ms.length ∧ v1 = .bool true := by simpa using hge
      obtain ⟨rfl, rfl⟩ := hge'
      clear hge
      have HGW := Lib.hid hgw
      clear hgw
      rcases ms with _ | ⟨k, ms⟩
      · have HQ : Hid (res = none) := Lib.hid (by rw [HRES.out]; exact rdPart_nil hq)
        clear hq
        go_wp2
        go_ret
        rw [HQ.out]
        exact ⟨rfl, O2.out⟩
      · have M2 := Lib.hid hrow
        have c0 : w2.cell? ⟨g, 0, none⟩ = some (.int .i64 k) := hrow.cell (i := 0) (j := 0) itC_len rfl (by decide)
        have lg := hrow.lt
        have hml : (k :: ms).length = ms.length + 1 := by simp
        rw [hml]
        have hm0 : (((ms.length : Int) + 1) == 0) = false := by rw [beq_eq_false_iff_ne]; omega
        have hmp : (0 : Int) < (ms.length : Int) + 1 := by omega
        by_cases hk : k = (rl.length : Int)
        · have dk : (k != (rl.length : Int)) = false := by simp [hk]
          have HY := Lib.hid (HRES.out.trans (rdPart_yes hq ⟨by omega, by rw [hk, hxl]; omega⟩))
          clear hq HRES
          by_cases hok : ms.length = 1 ∧ x.at_ = 3
          · obtain ⟨hm1, h3⟩ := hok
            obtain ⟨a, rfl⟩ : ∃ a, ms = [a] := by
              rcases ms with _ | ⟨a, _ | ⟨p, l⟩⟩
              · simp at hm1
              · exact ⟨a, rfl⟩
              · simp at hm1
            have HQ : Hid (res = some ⟨{ x.sc with nd := lastN x.sc.nd (fun n => { n with ph := a }) }, 4⟩) := Lib.hid (by rw [HY.out]; exact if_pos ⟨rfl, h3⟩)
            have c1 : w2.cell? ⟨g, 1, none⟩ = some (.int .i64 a) := hrow.cell (i := 1) (j := 0) itC_len rfl (by decide)
            have cP : w2.cell? ⟨gn, rl.length * 7, none⟩ = some (.int .i64 y.n.ph) := N2.out.cell (i := rl.length) (j := 0) ndC_len row_last (by decide)
            have lP := N2.out.lt; have fP := N2.out.frozen (rl.length * 7); have fB := frozen_got R2.out.box 5
            have hgb : gn ≠ b := fun e => R2.out.nd.ne_box R2.out.box (by decide) (by rw [e]; rfl)
            have hbg : b ≠ gn := fun e => hgb e.symm
            obtain ⟨bw', off', hp', s0, lw'⟩ := V2.out.str (Only.refl [] w2) (k := 0) (by simp)
            cases hp'
            simp only [Nat.add_zero, List.getD_cons_zero] at s0
            have tO : (bstr wOsc).toList = [111, 115, 99] := by rw [Lib.toList_data]; rfl
            generalize bstr wOsc = S at s0 tO
            have e3 : ((x.at_ : Int) == 3) = true := by rw [beq_iff_eq]; omega
            rw [hm1]
            clear hm1 HY hrow hm0 hmp hml M2
            go_wp2_with fail
            have hSt := R2.out.setN (y' := ⟨{ y.n with ph := a }, y.ps, y.cs, y.pv, y.cv⟩) (x' := (⟨{ x.sc with nd := lastN x.sc.nd (fun n => { n with ph := a }) }, x.at_⟩ : SSt)) (j := 0) (u := .int .i64 a) (Only.refl [] w2) (by simp) (by simp) (by simp) (by simp) (by simp) (by simp) (by simp)
              (R2.out.sg y (by simp)) (R2.out.sv y (by simp)) (fun z hz => R2.out.apN rl y rfl z hz) (by decide) rfl (by rw [show ((⟨{ x.sc with nd := lastN x.sc.nd (fun n => { n with ph := a }) }, x.at_⟩ : SSt)).sc.nd = lastN x.sc.nd (fun n => { n with ph := a }) from rfl, HX1.out, List.map_append]; exact lastN_snoc _ _ _) rfl rfl rfl rfl rfl
            obtain ⟨gn', capn', he1, hgB', hgs, hRd⟩ := hSt
            cases he1
            rw [Nat.add_zero] at hRd
            go_ret
            rw [HQ.out]
            refine ⟨rfl, H0.out, ?_, _, ls, _, vl, vf, hRd.cell (x' := (⟨{ x.sc with nd := lastN x.sc.nd (fun n => { n with ph := a }) }, 4⟩ : SSt)) ((Only.refl [b] _).setCell (.inl (by simp)) _) (setCell_got _ hRd.box) rfl rfl rfl⟩
            exact (O2.out.setCell (.inr hgB') _).setCell (.inl (by simp)) _
          · have HQ : Hid (res = none) := Lib.hid (by
              rw [HY.out]
              rcases ms with _ | ⟨a, _ | ⟨p, _ | ⟨q, l⟩⟩⟩
              · rfl
              · show (if _ then _ else if _ then _ else none) = none; rw [if_neg (fun h => hok ⟨rfl, h.2⟩), if_neg (fun h => absurd h.1 (by decide))]
              · exact if_neg (fun h => absurd h.1 (by decide))
              · rfl)
            clear HY
            obtain ⟨bw', off', hp', s0, lw'⟩ := V2.out.str (Only.refl [] w2) (k := 0) (by simp)
            cases hp'
            simp only [Nat.add_zero, List.getD_cons_zero] at s0
            have tO : (bstr wOsc).toList = [111, 115, 99] := by rw [Lib.toList_data]; rfl
            generalize bstr wOsc = S at s0 tO
            by_cases h3 : x.at_ = 3
            · have hn2 : ¬ ms.length = 1 := fun h => hok ⟨h, h3⟩
              have e3 : ((x.at_ : Int) == 3) = true := by rw [beq_iff_eq]; omega
              have z2 : (((ms.length : Int) + 1) == 2) = false := by rw [beq_eq_false_iff_ne]; omega
              clear hok h3 hn2 hrow M2
              go_wp2
              go_ret
              rw [HQ.out]
              exact ⟨rfl, O2.out⟩
            · have e3 : ((x.at_ : Int) == 3) = false := by rw [beq_eq_false_iff_ne]; omega
              clear hok h3 hrow M2
              go_wp2
              go_ret
              rw [HQ.out]
              exact ⟨rfl, O2.out⟩
        · have dk : (k != (rl.length : Int)) = true := by simp [hk]
          have HQ : Hid (res = none) := Lib.hid (by rw [HRES.out]; exact rdPart_no hq (fun q => hk (by have := q.2; omega)))
          clear hq hk
          go_wp2
          go_ret
          rw [HQ.out]
          exact ⟨rfl, O2.out⟩
set_option maxRecDepth 100000 in
set_option maxHeartbeats 8000000 in
theorem kPartSeg {W0 : Two} {w : World} {b : Nat} {x : SSt} {p : Option Addr} {n cap : Nat} {r : List (List UInt8)} (h : RdX W0 b w x) (hsz : SLe 100000 x) (hv : VRow strC 1 w p n cap (wSeg :: r)) (hn : n ≤ 100000) (hl : ∀ y ∈ wSeg :: r, y.length ≤ 1000000) (he : Env w) :
    Calls Tryz.prog 71 #[.pointer (some ⟨b, 0, none⟩), .slice p n cap] w fun e w' => RdR W0 b (rdPart x wSeg r) e w' := by
  have hlen := hv.len
  subst hlen
  obtain ⟨hb0, hb1, ns, ls, vn, vl, vf, hR⟩ := h
  have hfl := hsz.sg
  have hx1 := hR.hn; have hle := hsz.nd
  have HR := Lib.hid hR; have HV := Lib.hid hv; have HE := Lib.hid he; have HL := Lib.hid hl; have H0 := Lib.hid hb0; have H1 := Lib.hid hb1
  clear hR hv he hl hb0 hb1 hsz
  obtain ⟨bw, off, hp, s0, lw⟩ := HV.out.str (Only.refl [] w) (k := 0) (by simp)
  subst hp
  have hcp : r.length + 1 ≤ cap := HV.out.le
  have HSUB := Lib.hid (HV.out.sub 1 (r.length + 1) (by omega) (by simp))
  rw [show (List.take (r.length + 1) (wSeg :: r)).drop 1 = r by simp, Nat.add_sub_cancel] at HSUB
  have hsl : ∀ y ∈ r, y.length ≤ 1000000 := fun y hy => HL.out y (by simp [hy])
  have hnn : r.length ≤ 100000 := by simp at hn; omega
  have HN : Hid (Calls Tryz.prog 99 #[.slice (some ⟨bw, off + 1, none⟩) r.length (cap - 1)] w fun e w' => NumsR (numsO r) w e w' ∧ Only [] w w') := Lib.hid (pNumbers HSUB.out hnn hsl HE.out)
  have hWL : (wSeg :: r).length = r.length + 1 := by simp
  rw [hWL] at hn ⊢
  have hrn : r.length ≤ 100000 := by omega
  have HE0 := HE
  clear HSUB HE hsl s0
  have hc1 : (1 : Int) ≤ (r.length : Int) + 1 := by omega
  have hc2 : (r.length : Int) + 1 ≤ (cap : Int) := by omega
  obtain ⟨res, hres⟩ : ∃ res, res = rdPart x wSeg r := ⟨_, rfl⟩
  rw [← hres]
  by_cases hcap : cap = 1
  · subst hcap
    obtain rfl : r = [] := by
      rcases r with _ | ⟨q, r⟩
      · rfl
      · simp at hcp
    have HQ : Hid (res = none) := Lib.hid (by rw [hres]; exact rdPart_nil rfl)
    have HV0 : VRow strC 1 w (some ⟨bw, off, none⟩) 0 0 [] := ⟨rfl, Nat.le_refl _, Nat.zero_le _, by simp, by simp⟩
    have HN0 := Lib.hid (pNumbers HV0 (by decide) (by simp) HE0.out)
    obtain ⟨pn, cn, hvn, _⟩ := HR.out.nd.vrow ndC_len
    subst hvn
    have hsn : ∀ m, ns.length = m + 1 → m ≤ 100000 := fun m h => by rw [hx1, List.length_map] at hle; omega
    clear hres hx1 hfl hle HV0 HN
    go_enter Tryz.func71, Tryz.ntmps71
    go_wp2_with fail
    refine HN0.out.mono ?_
    rintro e w2 ⟨hv4, ho2⟩
    have R2 := Lib.hid (HR.out.kept ho2); have O2 := Lib.hid (H1.out.nil_trans ho2)
    clear ho2 HN0 HR H1 HV HE0
    have q0 := cell_got R2.out.box 0; have lq := got_lt R2.out.box
    obtain ⟨g, h4, _⟩ : ∃ g, e = .returned (.tuple #[.slice (some ⟨g, 0, none⟩) 0 0, .bool true]) ∧ True := by obtain ⟨g, _, h, _⟩ := hv4; exact ⟨g, h, trivial⟩
    subst h4
    clear hv4
    by_cases hz : ns.length = 0
    · have dz : ((ns.length : Int) = 0) := by omega
      rw [hz] at q0
      go_wp2
      go_ret
      rw [HQ.out]
      exact ⟨rfl, O2.out⟩
    · obtain ⟨m, hm⟩ : ∃ m, ns.length = m + 1 := ⟨ns.length - 1, by omega⟩
      rw [hm] at q0
      have hm2 : m ≤ 100000 := hsn m hm
      have hwl : IntKind.i64.wrap (m : Int) = (m : Int) := by rw [IntKind.wrap_i64]; omega
      have hsub : ((m : Int) + 1 - 1) = m := by omega
      have hwl2 : IntKind.i64.wrap ((m : Int) + 1 - 1) = (m : Int) := by rw [hsub]; exact hwl
      have hneg : decide ((m : Int) < 0) = false := decide_eq_false (by omega)
      go_wp2
      go_ret
      rw [HQ.out]
      exact ⟨rfl, O2.out⟩
  have hcap2 : ¬ (cap - 1 = 0) := by omega
  have hcap3 : ¬ ((cap : Int) - 1 = 0) := by omega
  rcases snoc_or ns with hns | ⟨rl, y, hns⟩
  · subst hns
    have HQ : Hid (res = none) := Lib.hid (by rw [hres]; exact rdPart_empty (by rw [hx1]; rfl))
    obtain ⟨pn, cn, hvn, _⟩ := HR.out.nd.vrow ndC_len
    subst hvn
    clear hres hx1 hfl hle
    go_enter Tryz.func71, Tryz.ntmps71
    go_wp2_with fail
    refine HN.out.mono ?_
    rintro e w2 ⟨hv4, ho2⟩
    have R2 := Lib.hid (HR.out.kept ho2); have O2 := Lib.hid (H1.out.nil_trans ho2)
    clear ho2 HN HR H1 HV
    have q0 := cell_got R2.out.box 0; have lq := got_lt R2.out.box
    obtain ⟨v0, v1, rfl⟩ := numsR_form hv4
    have hv4 : NumsR (numsO r) w (.returned (.tuple #[v0, v1])) w2 := hv4
    cases hq : numsO r with
    | none =>
      rw [hq] at hv4
      obtain ⟨rfl, rfl⟩ := numsR_no hv4
      clear hv4 hq
      go_wp2
      go_ret
      rw [HQ.out]
      exact ⟨rfl, O2.out⟩
    | some ms =>
      rw [hq] at hv4
      obtain ⟨g, rfl, rfl, _⟩ := numsR_yes hv4
      clear hv4 hq
      go_wp2
      go_ret
      rw [HQ.out]
      exact ⟨rfl, O2.out⟩
  · subst hns
    have hrl : rl.length ≤ 100000 := by rw [hx1] at hle; simp at hle; omega
    have hxl : x.sc.nd.length = rl.length + 1 := by rw [hx1]; simp
    have hyc := hfl y.n (by rw [hx1]; simp)
    obtain ⟨gn, capn, hvn, hgB, hrown⟩ := own_at HR.out.nd
    subst hvn
    have HRN := Lib.hid hrown
    have HSG : Hid (∀ k, (Value.slice y.ps y.n.sg.length y.cs).ownBlock = some k → k < w.heap.size) := Lib.hid (fun k hk => by obtain ⟨_, _, hq⟩ := (HR.out.sg y (by simp)).block hk; exact hq.lt)
    have HSV : Hid (∀ k, (Value.slice y.pv y.n.sv.length y.cv).ownBlock = some k → k < w.heap.size) := Lib.hid (fun k hk => by obtain ⟨_, _, hq⟩ := (HR.out.sv y (by simp)).block hk; exact hq.lt)
    have HRES := Lib.hid hres
    have hwl : IntKind.i64.wrap (rl.length : Int) = (rl.length : Int) := by rw [IntKind.wrap_i64]; omega
    have hsub : ((rl.length : Int) + 1 - 1) = rl.length := by omega
    have hwl2 : IntKind.i64.wrap ((rl.length : Int) + 1 - 1) = (rl.length : Int) := by rw [hsub]; exact hwl
    have hneg : decide ((rl.length : Int) < 0) = false := decide_eq_false (by omega)
    have HX1 := Lib.hid hx1
    clear hres hfl hle hrown hx1
    go_enter Tryz.func71, Tryz.ntmps71
    go_wp2_with fail
    refine HN.out.mono ?_
    rintro e w2 ⟨hv4, ho2⟩
    have R2 := Lib.hid (HR.out.kept ho2); have O2 := Lib.hid (H1.out.nil_trans ho2); have V2 := Lib.hid (HV.out.kept ho2); have N2 := Lib.hid (HRN.out.kept ho2 (by simp))
    clear ho2 HN HR H1 HV HRN
    have q0 := cell_got R2.out.box 0; have q5 := cell_got R2.out.box 5; have lq := got_lt R2.out.box
    obtain ⟨v0, v1, rfl⟩ := numsR_form hv4
    have hv4 : NumsR (numsO r) w (.returned (.tuple #[v0, v1])) w2 := hv4
    cases hq : numsO r with
    | none =>
      rw [hq] at hv4
      obtain ⟨rfl, rfl⟩ := numsR_no hv4
      have HQ : Hid (res = none) := Lib.hid (by rw [HRES.out]; exact rdPart_none hq)
      clear hv4 hq
      go_wp2
      go_ret
      rw [HQ.out]
      exact ⟨rfl, O2.out⟩
    | some ms =>
      rw [hq] at hv4
      obtain ⟨g, hgw, hge, hrow⟩ : ∃ g, w.heap.size ≤ g ∧ _ ∧ RowAt itC 3 1 w2 g ms.length ms := hv4
      have hge' : v0 = .slice (some ⟨g, 0, none⟩) ms.length ms.length ∧ v1 = .bool true := by simpa using hge
      obtain ⟨rfl, rfl⟩ := hge'
      clear hge
      have HGW := Lib.hid hgw
      clear hgw
      rcases ms with _ | ⟨k, ms⟩
      · have HQ : Hid (res = none) := Lib.hid (by rw [HRES.out]; exact rdPart_nil hq)
        clear hq
        go_wp2
        go_ret
        rw [HQ.out]
        exact ⟨rfl, O2.out⟩
      · have M2 := Lib.hid hrow
        have c0 : w2.cell? ⟨g, 0, none⟩ = some (.int .i64 k) := hrow.cell (i := 0) (j := 0) itC_len rfl (by decide)
        have lg := hrow.lt
        have hml : (k :: ms).length = ms.length + 1 := by simp
        rw [hml]
        have hm0 : (((ms.length : Int) + 1) == 0) = false := by rw [beq_eq_false_iff_ne]; omega
        have hmp : (0 : Int) < (ms.length : Int) + 1 := by omega
        by_cases hk : k = (rl.length : Int)
        · have dk : (k != (rl.length : Int)) = false := by simp [hk]
          have HY := Lib.hid (HRES.out.trans (rdPart_yes hq ⟨by omega, by rw [hk, hxl]; omega⟩))
          clear hq HRES
          by_cases hok : ms.length = 2 ∧ x.at_ = 4
          · obtain ⟨hm1, h4⟩ := hok
            obtain ⟨a, p, rfl⟩ : ∃ a p, ms = [a, p] := by
              rcases ms with _ | ⟨a, _ | ⟨p, _ | ⟨q, l⟩⟩⟩
              · simp at hm1
              · simp at hm1
              · exact ⟨a, p, rfl⟩
              · simp at hm1
            have HQ : Hid (res = some ⟨{ x.sc with nd := lastN x.sc.nd (fun n => { n with sg := n.sg ++ [⟨a, p⟩] }) }, 4⟩) := Lib.hid (by rw [HY.out]; exact if_pos ⟨rfl, h4⟩)
            have c1 : w2.cell? ⟨g, 1, none⟩ = some (.int .i64 a) := hrow.cell (i := 1) (j := 0) itC_len rfl (by decide)
            have c2 : w2.cell? ⟨g, 2, none⟩ = some (.int .i64 p) := hrow.cell (i := 2) (j := 0) itC_len rfl (by decide)
            obtain ⟨bw', off', hp', s0, lw'⟩ := V2.out.str (Only.refl [] w2) (k := 0) (by simp)
            cases hp'
            simp only [Nat.add_zero, List.getD_cons_zero] at s0
            have tO : (bstr wSeg).toList = [115, 101, 103] := by rw [Lib.toList_data]; rfl
            generalize bstr wSeg = S at s0 tO
            have e4 : ((x.at_ : Int) == 4) = true := by rw [beq_iff_eq]; omega
            have E4 := Lib.hid h4
            rw [hm1]
            clear hm1 HY hrow hm0 hmp hml M2 h4
            go_wp2_with fail
            have cS : w2.cell? ⟨gn, rl.length * 7 + 1, none⟩ = some (.slice y.ps y.n.sg.length y.cs) := N2.out.cell (i := rl.length) (j := 1) ndC_len row_last (by decide)
            have lP := N2.out.lt
            have HCO := Lib.hid (R2.out.sg y (by simp))
            obtain ⟨T, hT⟩ : ∃ T, T = (Value.slice y.ps y.n.sg.length y.cs).ownBlock.toList := ⟨_, rfl⟩
            have hbT : b ∉ T := fun hm => by rw [hT] at hm; exact HCO.out.ne_box R2.out.box (by decide) (by simpa using hm)
            have hnT : gn ∉ T := fun hm => by
              rw [hT] at hm
              obtain ⟨_, _, hq⟩ := HCO.out.block (by simpa using hm)
              exact hq.ne N2.out (by decide) rfl
            have hgT : g ∉ T := fun hm => by
              rw [hT] at hm
              have h1 := HSG.out g (by simpa using hm); have h2 := HGW.out
              omega
            have HTE := Lib.hid hT
            clear hT
            refine wp_region_calm2 [0, 1, 2, 3, 4, 5, 6, 7, 8, 9, 10, 11, 12] [15, 16, 17, 18] (OnlyC T w2) (by kernel_rfl) (by kernel_rfl) ?_
            simp only [pick, List.map_cons, List.map_nil, List.getD_cons_succ, List.getD_cons_zero]
            iterate 13 (refine wpCalm_step (fun K hK => ?_); go_simp; refine hK _ ?_; clear hK K)
            refine wpCalm_nil ?_
            refine Rest.by (X := Nat × Nat) (fun q a => ((((a.put (some 104) (.slice (some ⟨w2.heap.size, 0, none⟩) 1 1)).put (some 105) (.slice (some ⟨q.1, 0, none⟩) (y.n.sg.length + 1) q.2)).put (some 106) (.pointer (some ⟨gn, rl.length * 7, none⟩))).put (some 107) (.pointer (some ⟨gn, rl.length * 7, none⟩))).put (some 108) (.pointer (some ⟨gn, rl.length * 7 + 1, none⟩)))
              (fun q w' => Ob b W0 w' ∧ RdW W0.heap.size b w' (⟨{ x.sc with nd := lastN x.sc.nd (fun n => { n with sg := n.sg ++ [⟨a, p⟩] }) }, 4⟩ : SSt) (rl ++ [⟨{ y.n with sg := y.n.sg ++ [⟨a, p⟩] }, some ⟨q.1, 0, none⟩, q.2, y.pv, y.cv⟩]) ls (.slice (some ⟨gn, 0, none⟩) (rl.length + 1) capn) vl vf) ?_ ?_
            · rintro ⟨g9, cap9⟩ w9 ⟨ho9, hr9⟩
              simp only [Act.put, List.setIfInBounds_toArray, List.set_cons_succ, List.set_cons_zero]
              have O9 := Lib.hid ho9; have R9 := Lib.hid hr9
              clear ho9 hr9
              go_wp2
              go_ret
              rw [HQ.out]
              exact ⟨rfl, H0.out, O9.out, _, ls, _, vl, vf, R9.out⟩
            · refine wpAnyC_next [13] (by kernel_rfl) (by simp) (.inr (onlyC (Only.refl T w2).drew)) ?_
              simp only [List.mem_cons, List.not_mem_nil, or_false, forall_eq]
              refine wpOp_one rfl ?_
              go_wp2
              simp only [nrm]
              refine allocd_abs (G := wpAnyC _ _ _ _ _ _ _ _ _) ?_
              intro wa hna hoa hsa
              have MA := Lib.hid hna; have oA := Lib.hid hoa; have RA := Lib.hid (R2.out.kept hoa); have OA := Lib.hid (O2.out.nil_trans hoa); have CA := Lib.hid (HCO.out.kept hoa)
              clear hna hsa hoa
              refine wpAnyC_next [14] (by kernel_rfl) (by simp) (.inr (onlyC (oA.out.mono (by simp)))) ?_
              simp only [List.mem_cons, List.not_mem_nil, or_false, forall_eq]
              refine wpOp_one rfl ?_
              refine wpList_append_B (B := W0.heap.size) rfl _ _ 43 rfl 96 (.agg #[.int .i64 0, .int .i64 0]) 2 16 Tryz.underlying43 (by kernel_rfl) rfl (by decide) sgC_len sgC_one y.n.sg (.slice y.ps y.n.sg.length y.cs) rfl CA.out w2.heap.size (⟨a, p⟩ : Sg) rfl (fun j u hj => ?_) (by simp [maxLen]; omega) (by omega) (by have := OA.out.size; omega) ?_
              · rw [cell_got MA.out]; rw [← hj]; simp [sgC]
              · intro g9 cap9 wb hown hob hg9
                rw [← HTE.out] at hob
                have WB := Lib.hid hown; have oB := Lib.hid hob; have oS := Lib.hid ((oA.out.mono (S' := T) (by simp)).trans hob (fun x h => .inl h)); have HG9 := Lib.hid hg9
                clear hown hob hg9
                simp only [wpList, nrm]
                refine wpAnyC_next [15] (by kernel_rfl) (by simp) (.inr (onlyC oS.out)) ?_
                simp only [List.mem_cons, List.not_mem_nil, or_false, forall_eq]
                refine wpOp_one rfl ?_
                go_wp2
                simp only [nrm]
                refine wpAnyC_next [16] (by kernel_rfl) (by simp) (.inr (onlyC oS.out)) ?_
                simp only [List.mem_cons, List.not_mem_nil, or_false, forall_eq]
                refine wpOp_one rfl ?_
                go_wp2
                simp only [nrm]
                refine wpAnyC_next [17] (by kernel_rfl) (by simp) (.inr (onlyC oS.out)) ?_
                simp only [List.mem_cons, List.not_mem_nil, or_false, forall_eq]
                refine wpOp_one rfl ?_
                go_wp2
                simp only [nrm]
                refine wpAnyC_next [18] (by kernel_rfl) (by simp) (.inr (onlyC oS.out)) ?_
                simp only [List.mem_cons, List.not_mem_nil, or_false, forall_eq]
                refine wpOp_one rfl ?_
                have NB := Lib.hid (N2.out.kept oS.out hnT)
                have cD : wb.cell? ⟨gn, rl.length * 7 + 1, none⟩ = some (.slice y.ps y.n.sg.length y.cs) := NB.out.cell (i := rl.length) (j := 1) ndC_len row_last (by decide)
                have fD := NB.out.frozen (rl.length * 7 + 1); have lD := NB.out.lt
                go_wp2
                simp only [nrm]
                clear cD fD lD
                have hz := oA.out.size
                have hSt := RA.out.setN (y' := ⟨{ y.n with sg := y.n.sg ++ [⟨a, p⟩] }, some ⟨g9, 0, none⟩, cap9, y.pv, y.cv⟩) (x' := (⟨{ x.sc with nd := lastN x.sc.nd (fun n => { n with sg := n.sg ++ [⟨a, p⟩] }) }, x.at_⟩ : SSt)) (j := 1) (u := .slice (some ⟨g9, 0, none⟩) (y.n.sg.length + 1) cap9) oB.out hbT
                  (fun k hk => by rw [HTE.out] at hk; exact RA.out.nd.ne_of CA.out (by decide) k hk) (fun k hk => by rw [HTE.out] at hk; exact RA.out.lk.ne_of CA.out (by decide) k hk) (fun k hk => by rw [HTE.out] at hk; exact RA.out.ft.ne_of CA.out (by decide) k hk)
                  (fun z hz k hk => by rw [HTE.out] at hk; exact (RA.out.ch z hz).ne_of CA.out (by decide) k hk)
                  (fun z hz k hk => by rw [HTE.out] at hk; exact ptr_ne (RA.out.sg z (by simp [hz])) CA.out (RA.out.apN rl y rfl z hz).1 hk) (fun z hz k hk => by rw [HTE.out] at hk; exact (RA.out.sv z (by simp [hz])).ne_of CA.out (by decide) k hk)
                  (by simpa using WB.out) ((RA.out.sv y (by simp)).keptS oB.out (fun k hk => by rw [HTE.out] at hk; exact (RA.out.sv y (by simp)).ne_of CA.out (by decide) k hk))
                  (fun z hz => ⟨.inl (ptr_new (RA.out.sg z (by simp [hz])) CA.out (RA.out.apN rl y rfl z hz).1 (Nat.le_refl _) HG9.out), (RA.out.apN rl y rfl z hz).2⟩) (by decide) (by simp [ndC]) (by rw [show ((⟨{ x.sc with nd := lastN x.sc.nd (fun n => { n with sg := n.sg ++ [⟨a, p⟩] }) }, x.at_⟩ : SSt)).sc.nd = lastN x.sc.nd (fun n => { n with sg := n.sg ++ [⟨a, p⟩] }) from rfl, HX1.out, List.map_append]; exact lastN_snoc _ _ _) rfl rfl rfl rfl rfl
                obtain ⟨gn', capn', he1, hgB', hgs, hRd⟩ := hSt
                cases he1
                have hOn : Ob b W0 wb := Ob.row (S := T) OA.out oB.out (fun k hk => by
                  rw [HTE.out] at hk
                  exact CA.out.blockC (by simpa using hk))
                refine wpAnyC_done (by kernel_rfl) (.inl (late_of (by kernel_rfl))) ⟨(g9, cap9), rfl, hOn.setCell (.inr hgB') _, ?_⟩
                rw [E4.out] at hRd
                exact hRd
          · have HQ : Hid (res = none) := Lib.hid (by
              rw [HY.out]
              rcases ms with _ | ⟨a, _ | ⟨p, _ | ⟨q, l⟩⟩⟩
              · rfl
              · show (if _ then _ else if _ then _ else none) = none; rw [if_neg (fun h => absurd h.1 (by decide)), if_neg (fun h => absurd h.1 (by decide))]
              · exact if_neg (fun h => hok ⟨rfl, h.2⟩)
              · rfl)
            clear HY
            obtain ⟨bw', off', hp', s0, lw'⟩ := V2.out.str (Only.refl [] w2) (k := 0) (by simp)
            cases hp'
            simp only [Nat.add_zero, List.getD_cons_zero] at s0
            have tO : (bstr wSeg).toList = [115, 101, 103] := by rw [Lib.toList_data]; rfl
            generalize bstr wSeg = S at s0 tO
            by_cases h4 : x.at_ = 4
            · have hn2 : ¬ ms.length = 2 := fun h => hok ⟨h, h4⟩
              have e4 : ((x.at_ : Int) == 4) = true := by rw [beq_iff_eq]; omega
              have z3 : (((ms.length : Int) + 1) == 3) = false := by rw [beq_eq_false_iff_ne]; omega
              clear hok h4 hn2 hrow M2
              go_wp2
              go_ret
              rw [HQ.out]
              exact ⟨rfl, O2.out⟩
            · have e4 : ((x.at_ : Int) == 4) = false := by rw [beq_eq_false_iff_ne]; omega
              clear hok h4 hrow M2
              go_wp2
              go_ret
              rw [HQ.out]
              exact ⟨rfl, O2.out⟩
        · have dk : (k != (rl.length : Int)) = true := by simp [hk]
          have HQ : Hid (res = none) := Lib.hid (by rw [HRES.out]; exact rdPart_no hq (fun q => hk (by have := q.2; omega)))
          clear hq hk
          go_wp2
          go_ret
          rw [HQ.out]
          exact ⟨rfl, O2.out⟩
set_option maxRecDepth 100000 in
set_option maxHeartbeats 8000000 in
theorem kPartUse {W0 : Two} {w : World} {b : Nat} {x : SSt} {p : Option Addr} {n cap : Nat} {r : List (List UInt8)} (h : RdX W0 b w x) (hsz : SLe 100000 x) (hv : VRow strC 1 w p n cap (wUse :: r)) (hn : n ≤ 100000) (hl : ∀ y ∈ wUse :: r, y.length ≤ 1000000) (he : Env w) :
    Calls Tryz.prog 71 #[.pointer (some ⟨b, 0, none⟩), .slice p n cap] w fun e w' => RdR W0 b (rdPart x wUse r) e w' := by
  have hlen := hv.len
  subst hlen
  obtain ⟨hb0, hb1, ns, ls, vn, vl, vf, hR⟩ := h
  have hfl := hsz.sg
  have hx1 := hR.hn; have hle := hsz.nd
  have HR := Lib.hid hR; have HV := Lib.hid hv; have HE := Lib.hid he; have HL := Lib.hid hl; have H0 := Lib.hid hb0; have H1 := Lib.hid hb1
  clear hR hv he hl hb0 hb1 hsz
  obtain ⟨bw, off, hp, s0, lw⟩ := HV.out.str (Only.refl [] w) (k := 0) (by simp)
  subst hp
  have hcp : r.length + 1 ≤ cap := HV.out.le
  have HSUB := Lib.hid (HV.out.sub 1 (r.length + 1) (by omega) (by simp))
  rw [show (List.take (r.length + 1) (wUse :: r)).drop 1 = r by simp, Nat.add_sub_cancel] at HSUB
  have hsl : ∀ y ∈ r, y.length ≤ 1000000 := fun y hy => HL.out y (by simp [hy])
  have hnn : r.length ≤ 100000 := by simp at hn; omega
  have HN : Hid (Calls Tryz.prog 99 #[.slice (some ⟨bw, off + 1, none⟩) r.length (cap - 1)] w fun e w' => NumsR (numsO r) w e w' ∧ Only [] w w') := Lib.hid (pNumbers HSUB.out hnn hsl HE.out)
  have hWL : (wUse :: r).length = r.length + 1 := by simp
  rw [hWL] at hn ⊢
  have hrn : r.length ≤ 100000 := by omega
  have HE0 := HE
  clear HSUB HE hsl s0
  have hc1 : (1 : Int) ≤ (r.length : Int) + 1 := by omega
  have hc2 : (r.length : Int) + 1 ≤ (cap : Int) := by omega
  obtain ⟨res, hres⟩ : ∃ res, res = rdPart x wUse r := ⟨_, rfl⟩
  rw [← hres]
  by_cases hcap : cap = 1
  · subst hcap
    obtain rfl : r = [] := by
      rcases r with _ | ⟨q, r⟩
      · rfl
      · simp at hcp
    have HQ : Hid (res = none) := Lib.hid (by rw [hres]; exact rdPart_nil rfl)
    have HV0 : VRow strC 1 w (some ⟨bw, off, none⟩) 0 0 [] := ⟨rfl, Nat.le_refl _, Nat.zero_le _, by simp, by simp⟩
    have HN0 := Lib.hid (pNumbers HV0 (by decide) (by simp) HE0.out)
    obtain ⟨pn, cn, hvn, _⟩ := HR.out.nd.vrow ndC_len
    subst hvn
    have hsn : ∀ m, ns.length = m + 1 → m ≤ 100000 := fun m h => by rw [hx1, List.length_map] at hle; omega
    clear hres hx1 hfl hle HV0 HN
    go_enter Tryz.func71, Tryz.ntmps71
    go_wp2_with fail
    refine HN0.out.mono ?_
    rintro e w2 ⟨hv4, ho2⟩
    have R2 := Lib.hid (HR.out.kept ho2); have O2 := Lib.hid (H1.out.nil_trans ho2)
    clear ho2 HN0 HR H1 HV HE0
    have q0 := cell_got R2.out.box 0; have lq := got_lt R2.out.box
    obtain ⟨g, h4, _⟩ : ∃ g, e = .returned (.tuple #[.slice (some ⟨g, 0, none⟩) 0 0, .bool true]) ∧ True := by obtain ⟨g, _, h, _⟩ := hv4; exact ⟨g, h, trivial⟩
    subst h4
    clear hv4
    by_cases hz : ns.length = 0
    · have dz : ((ns.length : Int) = 0) := by omega
      rw [hz] at q0
      go_wp2
      go_ret
      rw [HQ.out]
      exact ⟨rfl, O2.out⟩
    · obtain ⟨m, hm⟩ : ∃ m, ns.length = m + 1 := ⟨ns.length - 1, by omega⟩
      rw [hm] at q0
      have hm2 : m ≤ 100000 := hsn m hm
      have hwl : IntKind.i64.wrap (m : Int) = (m : Int) := by rw [IntKind.wrap_i64]; omega
      have hsub : ((m : Int) + 1 - 1) = m := by omega
      have hwl2 : IntKind.i64.wrap ((m : Int) + 1 - 1) = (m : Int) := by rw [hsub]; exact hwl
      have hneg : decide ((m : Int) < 0) = false := decide_eq_false (by omega)
      go_wp2
      go_ret
      rw [HQ.out]
      exact ⟨rfl, O2.out⟩
  have hcap2 : ¬ (cap - 1 = 0) := by omega
  have hcap3 : ¬ ((cap : Int) - 1 = 0) := by omega
  rcases snoc_or ns with hns | ⟨rl, y, hns⟩
  · subst hns
    have HQ : Hid (res = none) := Lib.hid (by rw [hres]; exact rdPart_empty (by rw [hx1]; rfl))
    obtain ⟨pn, cn, hvn, _⟩ := HR.out.nd.vrow ndC_len
    subst hvn
    clear hres hx1 hfl hle
    go_enter Tryz.func71, Tryz.ntmps71
    go_wp2_with fail
    refine HN.out.mono ?_
    rintro e w2 ⟨hv4, ho2⟩
    have R2 := Lib.hid (HR.out.kept ho2); have O2 := Lib.hid (H1.out.nil_trans ho2)
    clear ho2 HN HR H1 HV
    have q0 := cell_got R2.out.box 0; have lq := got_lt R2.out.box
    obtain ⟨v0, v1, rfl⟩ := numsR_form hv4
    have hv4 : NumsR (numsO r) w (.returned (.tuple #[v0, v1])) w2 := hv4
    cases hq : numsO r with
    | none =>
      rw [hq] at hv4
      obtain ⟨rfl, rfl⟩ := numsR_no hv4
      clear hv4 hq
      go_wp2
      go_ret
      rw [HQ.out]
      exact ⟨rfl, O2.out⟩
    | some ms =>
      rw [hq] at hv4
      obtain ⟨g, rfl, rfl, _⟩ := numsR_yes hv4
      clear hv4 hq
      go_wp2
      go_ret
      rw [HQ.out]
      exact ⟨rfl, O2.out⟩
  · subst hns
    have hrl : rl.length ≤ 100000 := by rw [hx1] at hle; simp at hle; omega
    have hxl : x.sc.nd.length = rl.length + 1 := by rw [hx1]; simp
    have hyc := hfl y.n (by rw [hx1]; simp)
    obtain ⟨gn, capn, hvn, hgB, hrown⟩ := own_at HR.out.nd
    subst hvn
    have HRN := Lib.hid hrown
    have HSG : Hid (∀ k, (Value.slice y.ps y.n.sg.length y.cs).ownBlock = some k → k < w.heap.size) := Lib.hid (fun k hk => by obtain ⟨_, _, hq⟩ := (HR.out.sg y (by simp)).block hk; exact hq.lt)
    have HSV : Hid (∀ k, (Value.slice y.pv y.n.sv.length y.cv).ownBlock = some k → k < w.heap.size) := Lib.hid (fun k hk => by obtain ⟨_, _, hq⟩ := (HR.out.sv y (by simp)).block hk; exact hq.lt)
    have HRES := Lib.hid hres
    have hwl : IntKind.i64.wrap (rl.length : Int) = (rl.length : Int) := by rw [IntKind.wrap_i64]; omega
    have hsub : ((rl.length : Int) + 1 - 1) = rl.length := by omega
    have hwl2 : IntKind.i64.wrap ((rl.length : Int) + 1 - 1) = (rl.length : Int) := by rw [hsub]; exact hwl
    have hneg : decide ((rl.length : Int) < 0) = false := decide_eq_false (by omega)
    have HX1 := Lib.hid hx1
    clear hres hfl hle hrown hx1
    go_enter Tryz.func71, Tryz.ntmps71
    go_wp2_with fail
    refine HN.out.mono ?_
    rintro e w2 ⟨hv4, ho2⟩
    have R2 := Lib.hid (HR.out.kept ho2); have O2 := Lib.hid (H1.out.nil_trans ho2); have V2 := Lib.hid (HV.out.kept ho2); have N2 := Lib.hid (HRN.out.kept ho2 (by simp))
    clear ho2 HN HR H1 HV HRN
    have q0 := cell_got R2.out.box 0; have q5 := cell_got R2.out.box 5; have lq := got_lt R2.out.box
    obtain ⟨v0, v1, rfl⟩ := numsR_form hv4
    have hv4 : NumsR (numsO r) w (.returned (.tuple #[v0, v1])) w2 := hv4
    cases hq : numsO r with
    | none =>
      rw [hq] at hv4
      obtain ⟨rfl, rfl⟩ := numsR_no hv4
      have HQ : Hid (res = none) := Lib.hid (by rw [HRES.out]; exact rdPart_none hq)
      clear hv4 hq
      go_wp2
      go_ret
      rw [HQ.out]
      exact ⟨rfl, O2.out⟩
    | some ms =>
      rw [hq] at hv4
      obtain ⟨g, hgw, hge, hrow⟩ : ∃ g, w.heap.size ≤ g ∧ _ ∧ RowAt itC 3 1 w2 g ms.length ms := hv4
      have hge' : v0 = .slice (some ⟨g, 0, none⟩) ms.length ms.length ∧ v1 = .bool true := by simpa using hge
      obtain ⟨rfl, rfl⟩ := hge'
      clear hge
      have HGW := Lib.hid hgw
      clear hgw
      rcases ms with _ | ⟨k, ms⟩
      · have HQ : Hid (res = none) := Lib.hid (by rw [HRES.out]; exact rdPart_nil hq)
        clear hq
        go_wp2
        go_ret
        rw [HQ.out]
        exact ⟨rfl, O2.out⟩
      · have M2 := Lib.hid hrow
        have c0 : w2.cell? ⟨g, 0, none⟩ = some (.int .i64 k) := hrow.cell (i := 0) (j := 0) itC_len rfl (by decide)
        have lg := hrow.lt
        have hml : (k :: ms).length = ms.length + 1 := by simp
        rw [hml]
        have hm0 : (((ms.length : Int) + 1) == 0) = false := by rw [beq_eq_false_iff_ne]; omega
        have hmp : (0 : Int) < (ms.length : Int) + 1 := by omega
        by_cases hk : k = (rl.length : Int)
        · have dk : (k != (rl.length : Int)) = false := by simp [hk]
          have HY := Lib.hid (HRES.out.trans (rdPart_yes hq ⟨by omega, by rw [hk, hxl]; omega⟩))
          clear hq HRES
          by_cases hok : ms.length = 1 ∧ (x.at_ = 4 ∨ x.at_ = 5)
          · obtain ⟨hm1, hs45⟩ := hok
            obtain ⟨a, rfl⟩ : ∃ a, ms = [a] := by
              rcases ms with _ | ⟨a, _ | ⟨p, l⟩⟩
              · simp at hm1
              · exact ⟨a, rfl⟩
              · simp at hm1
            have HQ : Hid (res = some ⟨{ x.sc with nd := lastN x.sc.nd (fun n => { n with sv := n.sv ++ [a] }) }, 5⟩) := Lib.hid (by
              rw [HY.out]
              show (if _ then _ else if _ then _ else none) = _
              rw [if_neg (fun h => absurd h.1 (by decide)), if_pos ⟨rfl, hs45⟩])
            have c1 : w2.cell? ⟨g, 1, none⟩ = some (.int .i64 a) := hrow.cell (i := 1) (j := 0) itC_len rfl (by decide)
            obtain ⟨bw', off', hp', s0, lw'⟩ := V2.out.str (Only.refl [] w2) (k := 0) (by simp)
            cases hp'
            simp only [Nat.add_zero, List.getD_cons_zero] at s0
            have tO : (bstr wUse).toList = [117, 115, 101] := by rw [Lib.toList_data]; rfl
            generalize bstr wUse = S at s0 tO
            rw [hm1]
            clear hm1
            by_cases h4 : x.at_ = 4
            · have e4 : ((x.at_ : Int) == 4) = true := by rw [beq_iff_eq]; omega
              clear h4
              clear HY hrow hm0 hmp hml M2 hs45
              go_wp2_with fail
              have cS : w2.cell? ⟨gn, rl.length * 7 + 6, none⟩ = some (.slice y.pv y.n.sv.length y.cv) := N2.out.cell (i := rl.length) (j := 6) ndC_len row_last (by decide)
              have lP := N2.out.lt
              have HCO := Lib.hid (R2.out.sv y (by simp))
              obtain ⟨T, hT⟩ : ∃ T, T = (Value.slice y.pv y.n.sv.length y.cv).ownBlock.toList := ⟨_, rfl⟩
              have hbT : b ∉ T := fun hm => by rw [hT] at hm; exact HCO.out.ne_box R2.out.box (by decide) (by simpa using hm)
              have hnT : gn ∉ T := fun hm => by
                rw [hT] at hm
                obtain ⟨_, _, hq⟩ := HCO.out.block (by simpa using hm)
                exact hq.ne N2.out (by decide) rfl
              have hgT : g ∉ T := fun hm => by
                rw [hT] at hm
                have h1 := HSV.out g (by simpa using hm); have h2 := HGW.out
                omega
              have HTE := Lib.hid hT
              clear hT
              refine wp_region_calm2 [0, 2, 3, 4, 5, 6, 7, 8] [11, 12, 13, 14, 15, 16] (OnlyC T w2) (by kernel_rfl) (by kernel_rfl) ?_
              simp only [pick, List.map_cons, List.map_nil, List.getD_cons_succ, List.getD_cons_zero]
              iterate 8 (refine wpCalm_step (fun K hK => ?_); go_simp; refine hK _ ?_; clear hK K)
              refine wpCalm_nil ?_
              refine Rest.by (X := Nat × Nat) (fun q a => ((((((a.put (some 134) (.pointer (some ⟨b, 0, none⟩))).put (some 142) (.slice (some ⟨w2.heap.size, 0, none⟩) 1 1)).put (some 143) (.slice (some ⟨q.1, 0, none⟩) (y.n.sv.length + 1) q.2)).put (some 144) (.pointer (some ⟨gn, rl.length * 7, none⟩))).put (some 145) (.pointer (some ⟨gn, rl.length * 7 + 6, none⟩))).put (some 146) (.pointer (some ⟨b, 0, none⟩))).put (some 147) (.pointer (some ⟨b, 5, none⟩)))
                (fun q w' => Ob b W0 w' ∧ RdW W0.heap.size b w' (⟨{ x.sc with nd := lastN x.sc.nd (fun n => { n with sv := n.sv ++ [a] }) }, 5⟩ : SSt) (rl ++ [⟨{ y.n with sv := y.n.sv ++ [a] }, y.ps, y.cs, some ⟨q.1, 0, none⟩, q.2⟩]) ls (.slice (some ⟨gn, 0, none⟩) (rl.length + 1) capn) vl vf) ?_ ?_
              · rintro ⟨g9, cap9⟩ w9 ⟨ho9, hr9⟩
                simp only [Act.put, List.setIfInBounds_toArray, List.set_cons_succ, List.set_cons_zero]
                have O9 := Lib.hid ho9; have R9 := Lib.hid hr9
                clear ho9 hr9
                go_wp2
                go_ret
                rw [HQ.out]
                exact ⟨rfl, H0.out, O9.out, _, ls, _, vl, vf, R9.out⟩
              · refine wpAnyC_move 1 (.pointer (some ⟨b, 0, none⟩)) rfl (by kernel_rfl) (by kernel_rfl) (fun _ => rfl) ?_
                refine wpAnyC_next [9] (by kernel_rfl) (by simp) (.inr (onlyC (Only.refl T w2).drew)) ?_
                simp only [List.mem_cons, List.not_mem_nil, or_false, forall_eq]
                refine wpOp_one rfl ?_
                go_wp2
                simp only [nrm]
                refine allocd_abs (G := wpAnyC _ _ _ _ _ _ _ _ _) ?_
                intro wa hna hoa hsa
                have MA := Lib.hid hna; have oA := Lib.hid hoa; have RA := Lib.hid (R2.out.kept hoa); have OA := Lib.hid (O2.out.nil_trans hoa); have CA := Lib.hid (HCO.out.kept hoa)
                clear hna hsa hoa
                refine wpAnyC_next [10] (by kernel_rfl) (by simp) (.inr (onlyC (oA.out.mono (by simp)))) ?_
                simp only [List.mem_cons, List.not_mem_nil, or_false, forall_eq]
                refine wpOp_one rfl ?_
                refine wpList_append_B (B := W0.heap.size) rfl _ _ 46 rfl 3 (.int .i64 0) 1 8 Tryz.underlying46 (by kernel_rfl) rfl (by decide) itC_len itC_one y.n.sv (.slice y.pv y.n.sv.length y.cv) rfl CA.out w2.heap.size (a : Int) rfl (fun j u hj => ?_) (by simp [maxLen]; omega) (by omega) (by have := OA.out.size; omega) ?_
                · rw [cell_got MA.out]; rw [← hj]; simp [itC]
                · intro g9 cap9 wb hown hob hg9
                  rw [← HTE.out] at hob
                  have WB := Lib.hid hown; have oB := Lib.hid hob; have oS := Lib.hid ((oA.out.mono (S' := T) (by simp)).trans hob (fun x h => .inl h)); have HG9 := Lib.hid hg9
                  clear hown hob hg9
                  simp only [wpList, nrm]
                  refine wpAnyC_next [11] (by kernel_rfl) (by simp) (.inr (onlyC oS.out)) ?_
                  simp only [List.mem_cons, List.not_mem_nil, or_false, forall_eq]
                  refine wpOp_one rfl ?_
                  go_wp2
                  simp only [nrm]
                  refine wpAnyC_next [12] (by kernel_rfl) (by simp) (.inr (onlyC oS.out)) ?_
                  simp only [List.mem_cons, List.not_mem_nil, or_false, forall_eq]
                  refine wpOp_one rfl ?_
                  go_wp2
                  simp only [nrm]
                  refine wpAnyC_next [13] (by kernel_rfl) (by simp) (.inr (onlyC oS.out)) ?_
                  simp only [List.mem_cons, List.not_mem_nil, or_false, forall_eq]
                  refine wpOp_one rfl ?_
                  have NB := Lib.hid (N2.out.kept oS.out hnT)
                  have cD : wb.cell? ⟨gn, rl.length * 7 + 6, none⟩ = some (.slice y.pv y.n.sv.length y.cv) := NB.out.cell (i := rl.length) (j := 6) ndC_len row_last (by decide)
                  have fD := NB.out.frozen (rl.length * 7 + 6); have lD := NB.out.lt
                  go_wp2
                  simp only [nrm]
                  clear cD fD lD
                  have hz := oA.out.size
                  have hSt := RA.out.setN (y' := ⟨{ y.n with sv := y.n.sv ++ [a] }, y.ps, y.cs, some ⟨g9, 0, none⟩, cap9⟩) (x' := (⟨{ x.sc with nd := lastN x.sc.nd (fun n => { n with sv := n.sv ++ [a] }) }, x.at_⟩ : SSt)) (j := 6) (u := .slice (some ⟨g9, 0, none⟩) (y.n.sv.length + 1) cap9) oB.out hbT
                    (fun k hk => by rw [HTE.out] at hk; exact RA.out.nd.ne_of CA.out (by decide) k hk) (fun k hk => by rw [HTE.out] at hk; exact RA.out.lk.ne_of CA.out (by decide) k hk) (fun k hk => by rw [HTE.out] at hk; exact RA.out.ft.ne_of CA.out (by decide) k hk)
                    (fun z hz k hk => by rw [HTE.out] at hk; exact (RA.out.ch z hz).ne_of CA.out (by decide) k hk)
                    (fun z hz k hk => by rw [HTE.out] at hk; exact (RA.out.sg z (by simp [hz])).ne_of CA.out (by decide) k hk) (fun z hz k hk => by rw [HTE.out] at hk; exact ptr_ne (RA.out.sv z (by simp [hz])) CA.out (RA.out.apN rl y rfl z hz).2 hk)
                    ((RA.out.sg y (by simp)).keptS oB.out (fun k hk => by rw [HTE.out] at hk; exact (RA.out.sg y (by simp)).ne_of CA.out (by decide) k hk)) (by simpa using WB.out)
                    (fun z hz => ⟨(RA.out.apN rl y rfl z hz).1, .inl (ptr_new (RA.out.sv z (by simp [hz])) CA.out (RA.out.apN rl y rfl z hz).2 (Nat.le_refl _) HG9.out)⟩) (by decide) (by simp [ndC]) (by rw [show ((⟨{ x.sc with nd := lastN x.sc.nd (fun n => { n with sv := n.sv ++ [a] }) }, x.at_⟩ : SSt)).sc.nd = lastN x.sc.nd (fun n => { n with sv := n.sv ++ [a] }) from rfl, HX1.out, List.map_append]; exact lastN_snoc _ _ _) rfl rfl rfl rfl rfl
                  obtain ⟨gn', capn', he1, hgB', hgs, hRd⟩ := hSt
                  cases he1
                  have hOn : Ob b W0 wb := Ob.row (S := T) OA.out oB.out (fun k hk => by
                    rw [HTE.out] at hk
                    exact CA.out.blockC (by simpa using hk))
                  obtain ⟨wc, hwc⟩ : ∃ wc, wc = wb.setCell ⟨gn, rl.length * 7 + 6, none⟩ (.slice (some ⟨g9, 0, none⟩) (y.n.sv.length + 1) cap9) := ⟨_, rfl⟩
                  rw [← hwc] at hRd ⊢
                  have OC := Lib.hid (show Ob b W0 wc by rw [hwc]; exact hOn.setCell (.inr hgB') _)
                  have RC := Lib.hid hRd
                  clear hRd hOn hwc
                  refine wpAnyC_next [14] (by kernel_rfl) (by simp) (.inl (late_of (by kernel_rfl))) ?_
                  simp only [List.mem_cons, List.not_mem_nil, or_false, forall_eq]
                  refine wpOp_one rfl ?_
                  go_wp2
                  simp only [nrm]
                  refine wpAnyC_next [15] (by kernel_rfl) (by simp) (.inl (late_of (by kernel_rfl))) ?_
                  simp only [List.mem_cons, List.not_mem_nil, or_false, forall_eq]
                  refine wpOp_one rfl ?_
                  go_wp2
                  simp only [nrm]
                  refine wpAnyC_next [16] (by kernel_rfl) (by simp) (.inl (late_of (by kernel_rfl))) ?_
                  simp only [List.mem_cons, List.not_mem_nil, or_false, forall_eq]
                  refine wpOp_one rfl ?_
                  have lB := got_lt RC.out.box; have cB := cell_got RC.out.box 5; have fB := frozen_got RC.out.box 5
                  go_wp2
                  simp only [nrm]
                  refine wpAnyC_done (by kernel_rfl) (.inl (late_of (by kernel_rfl))) ?_
                  have hO9 : Ob b W0 (wc.setCell ⟨b, 5, none⟩ (.int .i64 5)) := OC.out.setCell (.inl (by simp)) _
                  first | refine ⟨(g9, cap9), rfl, hO9, ?_⟩ | refine ⟨g9, cap9, rfl, hO9, ?_⟩
                  exact RC.out.cell (x' := (⟨{ x.sc with nd := lastN x.sc.nd (fun n => { n with sv := n.sv ++ [a] }) }, 5⟩ : SSt)) ((Only.refl [b] wc).setCell (.inl (by simp)) _) (setCell_got _ RC.out.box) rfl rfl rfl
            · have h5 : x.at_ = 5 := by omega
              have e4 : ((x.at_ : Int) == 4) = false := by rw [beq_eq_false_iff_ne]; omega
              have e5 : ((x.at_ : Int) == 5) = true := by rw [beq_iff_eq]; omega
              clear h4 h5
              clear HY hrow hm0 hmp hml M2 hs45
              go_wp2_with fail
              have cS : w2.cell? ⟨gn, rl.length * 7 + 6, none⟩ = some (.slice y.pv y.n.sv.length y.cv) := N2.out.cell (i := rl.length) (j := 6) ndC_len row_last (by decide)
              have lP := N2.out.lt
              have HCO := Lib.hid (R2.out.sv y (by simp))
              obtain ⟨T, hT⟩ : ∃ T, T = (Value.slice y.pv y.n.sv.length y.cv).ownBlock.toList := ⟨_, rfl⟩
              have hbT : b ∉ T := fun hm => by rw [hT] at hm; exact HCO.out.ne_box R2.out.box (by decide) (by simpa using hm)
              have hnT : gn ∉ T := fun hm => by
                rw [hT] at hm
                obtain ⟨_, _, hq⟩ := HCO.out.block (by simpa using hm)
                exact hq.ne N2.out (by decide) rfl
              have hgT : g ∉ T := fun hm => by
                rw [hT] at hm
                have h1 := HSV.out g (by simpa using hm); have h2 := HGW.out
                omega
              have HTE := Lib.hid hT
              clear hT
              refine wp_region_calm2 [0, 2, 3, 4, 5, 6, 7, 8] [11, 12, 13, 14, 15, 16] (OnlyC T w2) (by kernel_rfl) (by kernel_rfl) ?_
              simp only [pick, List.map_cons, List.map_nil, List.getD_cons_succ, List.getD_cons_zero]
              iterate 8 (refine wpCalm_step (fun K hK => ?_); go_simp; refine hK _ ?_; clear hK K)
              refine wpCalm_nil ?_
              refine Rest.by (X := Nat × Nat) (fun q a => ((((((a.put (some 134) (.pointer (some ⟨b, 0, none⟩))).put (some 142) (.slice (some ⟨w2.heap.size, 0, none⟩) 1 1)).put (some 143) (.slice (some ⟨q.1, 0, none⟩) (y.n.sv.length + 1) q.2)).put (some 144) (.pointer (some ⟨gn, rl.length * 7, none⟩))).put (some 145) (.pointer (some ⟨gn, rl.length * 7 + 6, none⟩))).put (some 146) (.pointer (some ⟨b, 0, none⟩))).put (some 147) (.pointer (some ⟨b, 5, none⟩)))
                (fun q w' => Ob b W0 w' ∧ RdW W0.heap.size b w' (⟨{ x.sc with nd := lastN x.sc.nd (fun n => { n with sv := n.sv ++ [a] }) }, 5⟩ : SSt) (rl ++ [⟨{ y.n with sv := y.n.sv ++ [a] }, y.ps, y.cs, some ⟨q.1, 0, none⟩, q.2⟩]) ls (.slice (some ⟨gn, 0, none⟩) (rl.length + 1) capn) vl vf) ?_ ?_
              · rintro ⟨g9, cap9⟩ w9 ⟨ho9, hr9⟩
                simp only [Act.put, List.setIfInBounds_toArray, List.set_cons_succ, List.set_cons_zero]
                have O9 := Lib.hid ho9; have R9 := Lib.hid hr9
                clear ho9 hr9
                go_wp2
                go_ret
                rw [HQ.out]
                exact ⟨rfl, H0.out, O9.out, _, ls, _, vl, vf, R9.out⟩
              · refine wpAnyC_move 1 (.pointer (some ⟨b, 0, none⟩)) rfl (by kernel_rfl) (by kernel_rfl) (fun _ => rfl) ?_
                refine wpAnyC_next [9] (by kernel_rfl) (by simp) (.inr (onlyC (Only.refl T w2).drew)) ?_
                simp only [List.mem_cons, List.not_mem_nil, or_false, forall_eq]
                refine wpOp_one rfl ?_
                go_wp2
                simp only [nrm]
                refine allocd_abs (G := wpAnyC _ _ _ _ _ _ _ _ _) ?_
                intro wa hna hoa hsa
                have MA := Lib.hid hna; have oA := Lib.hid hoa; have RA := Lib.hid (R2.out.kept hoa); have OA := Lib.hid (O2.out.nil_trans hoa); have CA := Lib.hid (HCO.out.kept hoa)
                clear hna hsa hoa
                refine wpAnyC_next [10] (by kernel_rfl) (by simp) (.inr (onlyC (oA.out.mono (by simp)))) ?_
                simp only [List.mem_cons, List.not_mem_nil, or_false, forall_eq]
                refine wpOp_one rfl ?_
                refine wpList_append_B (B := W0.heap.size) rfl _ _ 46 rfl 3 (.int .i64 0) 1 8 Tryz.underlying46 (by kernel_rfl) rfl (by decide) itC_len itC_one y.n.sv (.slice y.pv y.n.sv.length y.cv) rfl CA.out w2.heap.size (a : Int) rfl (fun j u hj => ?_) (by simp [maxLen]; omega) (by omega) (by have := OA.out.size; omega) ?_
                · rw [cell_got MA.out]; rw [← hj]; simp [itC]
                · intro g9 cap9 wb hown hob hg9
                  rw [← HTE.out] at hob
                  have WB := Lib.hid hown; have oB := Lib.hid hob; have oS := Lib.hid ((oA.out.mono (S' := T) (by simp)).trans hob (fun x h => .inl h)); have HG9 := Lib.hid hg9
                  clear hown hob hg9
                  simp only [wpList, nrm]
                  refine wpAnyC_next [11] (by kernel_rfl) (by simp) (.inr (onlyC oS.out)) ?_
                  simp only [List.mem_cons, List.not_mem_nil, or_false, forall_eq]
                  refine wpOp_one rfl ?_
                  go_wp2
                  simp only [nrm]
                  refine wpAnyC_next [12] (by kernel_rfl) (by simp) (.inr (onlyC oS.out)) ?_
                  simp only [List.mem_cons, List.not_mem_nil, or_false, forall_eq]
                  refine wpOp_one rfl ?_
                  go_wp2
                  simp only [nrm]
                  refine wpAnyC_next [13] (by kernel_rfl) (by simp) (.inr (onlyC oS.out)) ?_
                  simp only [List.mem_cons, List.not_mem_nil, or_false, forall_eq]
                  refine wpOp_one rfl ?_
                  have NB := Lib.hid (N2.out.kept oS.out hnT)
                  have cD : wb.cell? ⟨gn, rl.length * 7 + 6, none⟩ = some (.slice y.pv y.n.sv.length y.cv) := NB.out.cell (i := rl.length) (j := 6) ndC_len row_last (by decide)
                  have fD := NB.out.frozen (rl.length * 7 + 6); have lD := NB.out.lt
                  go_wp2
                  simp only [nrm]
                  clear cD fD lD
                  have hz := oA.out.size
                  have hSt := RA.out.setN (y' := ⟨{ y.n with sv := y.n.sv ++ [a] }, y.ps, y.cs, some ⟨g9, 0, none⟩, cap9⟩) (x' := (⟨{ x.sc with nd := lastN x.sc.nd (fun n => { n with sv := n.sv ++ [a] }) }, x.at_⟩ : SSt)) (j := 6) (u := .slice (some ⟨g9, 0, none⟩) (y.n.sv.length + 1) cap9) oB.out hbT
                    (fun k hk => by rw [HTE.out] at hk; exact RA.out.nd.ne_of CA.out (by decide) k hk) (fun k hk => by rw [HTE.out] at hk; exact RA.out.lk.ne_of CA.out (by decide) k hk) (fun k hk => by rw [HTE.out] at hk; exact RA.out.ft.ne_of CA.out (by decide) k hk)
                    (fun z hz k hk => by rw [HTE.out] at hk; exact (RA.out.ch z hz).ne_of CA.out (by decide) k hk)
                    (fun z hz k hk => by rw [HTE.out] at hk; exact (RA.out.sg z (by simp [hz])).ne_of CA.out (by decide) k hk) (fun z hz k hk => by rw [HTE.out] at hk; exact ptr_ne (RA.out.sv z (by simp [hz])) CA.out (RA.out.apN rl y rfl z hz).2 hk)
                    ((RA.out.sg y (by simp)).keptS oB.out (fun k hk => by rw [HTE.out] at hk; exact (RA.out.sg y (by simp)).ne_of CA.out (by decide) k hk)) (by simpa using WB.out)
                    (fun z hz => ⟨(RA.out.apN rl y rfl z hz).1, .inl (ptr_new (RA.out.sv z (by simp [hz])) CA.out (RA.out.apN rl y rfl z hz).2 (Nat.le_refl _) HG9.out)⟩) (by decide) (by simp [ndC]) (by rw [show ((⟨{ x.sc with nd := lastN x.sc.nd (fun n => { n with sv := n.sv ++ [a] }) }, x.at_⟩ : SSt)).sc.nd = lastN x.sc.nd (fun n => { n with sv := n.sv ++ [a] }) from rfl, HX1.out, List.map_append]; exact lastN_snoc _ _ _) rfl rfl rfl rfl rfl
                  obtain ⟨gn', capn', he1, hgB', hgs, hRd⟩ := hSt
                  cases he1
                  have hOn : Ob b W0 wb := Ob.row (S := T) OA.out oB.out (fun k hk => by
                    rw [HTE.out] at hk
                    exact CA.out.blockC (by simpa using hk))
                  obtain ⟨wc, hwc⟩ : ∃ wc, wc = wb.setCell ⟨gn, rl.length * 7 + 6, none⟩ (.slice (some ⟨g9, 0, none⟩) (y.n.sv.length + 1) cap9) := ⟨_, rfl⟩
                  rw [← hwc] at hRd ⊢
                  have OC := Lib.hid (show Ob b W0 wc by rw [hwc]; exact hOn.setCell (.inr hgB') _)
                  have RC := Lib.hid hRd
                  clear hRd hOn hwc
                  refine wpAnyC_next [14] (by kernel_rfl) (by simp) (.inl (late_of (by kernel_rfl))) ?_
                  simp only [List.mem_cons, List.not_mem_nil, or_false, forall_eq]
                  refine wpOp_one rfl ?_
                  go_wp2
                  simp only [nrm]
                  refine wpAnyC_next [15] (by kernel_rfl) (by simp) (.inl (late_of (by kernel_rfl))) ?_
                  simp only [List.mem_cons, List.not_mem_nil, or_false, forall_eq]
                  refine wpOp_one rfl ?_
                  go_wp2
                  simp only [nrm]
                  refine wpAnyC_next [16] (by kernel_rfl) (by simp) (.inl (late_of (by kernel_rfl))) ?_
                  simp only [List.mem_cons, List.not_mem_nil, or_false, forall_eq]
                  refine wpOp_one rfl ?_
                  have lB := got_lt RC.out.box; have cB := cell_got RC.out.box 5; have fB := frozen_got RC.out.box 5
                  go_wp2
                  simp only [nrm]
                  refine wpAnyC_done (by kernel_rfl) (.inl (late_of (by kernel_rfl))) ?_
                  have hO9 : Ob b W0 (wc.setCell ⟨b, 5, none⟩ (.int .i64 5)) := OC.out.setCell (.inl (by simp)) _
                  first | refine ⟨(g9, cap9), rfl, hO9, ?_⟩ | refine ⟨g9, cap9, rfl, hO9, ?_⟩
                  exact RC.out.cell (x' := (⟨{ x.sc with nd := lastN x.sc.nd (fun n => { n with sv := n.sv ++ [a] }) }, 5⟩ : SSt)) ((Only.refl [b] wc).setCell (.inl (by simp)) _) (setCell_got _ RC.out.box) rfl rfl rfl
          · have HQ : Hid (res = none) := Lib.hid (by
              rw [HY.out]
              rcases ms with _ | ⟨a, _ | ⟨p, _ | ⟨q, l⟩⟩⟩
              · rfl
              · show (if _ then _ else if _ then _ else none) = none; rw [if_neg (fun h => absurd h.1 (by decide)), if_neg (fun h => hok ⟨rfl, h.2⟩)]
              · exact if_neg (fun h => absurd h.1 (by decide))
              · rfl)
            clear HY
            obtain ⟨bw', off', hp', s0, lw'⟩ := V2.out.str (Only.refl [] w2) (k := 0) (by simp)
            cases hp'
            simp only [Nat.add_zero, List.getD_cons_zero] at s0
            have tO : (bstr wUse).toList = [117, 115, 101] := by rw [Lib.toList_data]; rfl
            generalize bstr wUse = S at s0 tO
            by_cases h4 : x.at_ = 4
            · have hn2 : ¬ ms.length = 1 := fun h => hok ⟨h, .inl h4⟩
              have e4 : ((x.at_ : Int) == 4) = true := by rw [beq_iff_eq]; omega
              have z2 : (((ms.length : Int) + 1) == 2) = false := by rw [beq_eq_false_iff_ne]; omega
              clear hok h4 hn2 hrow M2
              go_wp2
              go_ret
              rw [HQ.out]
              exact ⟨rfl, O2.out⟩
            · by_cases h5 : x.at_ = 5
              · have hn2 : ¬ ms.length = 1 := fun h => hok ⟨h, .inr h5⟩
                have e4 : ((x.at_ : Int) == 4) = false := by rw [beq_eq_false_iff_ne]; omega
                have e5 : ((x.at_ : Int) == 5) = true := by rw [beq_iff_eq]; omega
                have z2 : (((ms.length : Int) + 1) == 2) = false := by rw [beq_eq_false_iff_ne]; omega
                clear hok h4 h5 hn2 hrow M2
                go_wp2
                go_ret
                rw [HQ.out]
                exact ⟨rfl, O2.out⟩
              · have e4 : ((x.at_ : Int) == 4) = false := by rw [beq_eq_false_iff_ne]; omega
                have e5 : ((x.at_ : Int) == 5) = false := by rw [beq_eq_false_iff_ne]; omega
                clear hok h4 h5 hrow M2
                go_wp2
                go_ret
                rw [HQ.out]
                exact ⟨rfl, O2.out⟩
        · have dk : (k != (rl.length : Int)) = true := by simp [hk]
          have HQ : Hid (res = none) := Lib.hid (by rw [HRES.out]; exact rdPart_no hq (fun q => hk (by have := q.2; omega)))
          clear hq hk
          go_wp2
          go_ret
          rw [HQ.out]
          exact ⟨rfl, O2.out⟩
end Go.Proofs.YthmeifdgkodjlaaGreatDoor
