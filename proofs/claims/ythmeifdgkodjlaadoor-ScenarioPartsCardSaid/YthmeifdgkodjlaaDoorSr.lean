/- fault of the reader. Conditions: the library's variables are laid; the lengths. -/
import Derived.Test.YthmeifdgkodjlaaDoorSq
import Derived.Test.YthmeifdgkodjlaaDoorSk
import Derived.Test.YthmeifdgkodjlaaDoorCalm
namespace Go.Proofs.YthmeifdgkodjlaaDoor
open Go.RowKit

/-- the parts of the scene that is read are not more than so many -/
structure SLe (n : Nat) (x : SSt) : Prop where
  nd : x.sc.nd.length ≤ n
  lk : x.sc.lk.length ≤ n
  ft : x.sc.ft.length ≤ n
  sg : ∀ y ∈ x.sc.nd, y.sg.length ≤ n ∧ y.sv.length ≤ n
  ch : ∀ y ∈ x.sc.lk, y.ch.length ≤ n
theorem idxW_drop {w : List UInt8} {k : Nat} (hk : k < 9) : idxW w (kinds9.drop k) (k + 1) = if kinds9.getD k [] = w then some (k + 1) else idxW w (kinds9.drop (k + 1)) (k + 1 + 1) := by
  have hk' : k < kinds9.length := hk
  rw [List.drop_eq_getElem_cons hk', show kinds9.getD k [] = kinds9[k] by rw [List.getD_eq_getElem?_getD, List.getElem?_eq_getElem hk']; rfl]
  rfl
theorem numsR_form {r : Option (List Int)} {w w' : World} {e : Ending} (h : NumsR r w e w') : ∃ v0 v1, e = .returned (.tuple #[v0, v1]) := by
  cases r with
  | none => exact ⟨_, _, h⟩
  | some ns => obtain ⟨g, _, rfl, _⟩ := h; exact ⟨_, _, rfl⟩
theorem NumsR.back {r : Option (List Int)} {w0 w w' : World} {e : Ending} (h : NumsR r w e w') (ho : Only [] w0 w) : NumsR r w0 e w' := by
  cases r with
  | none => exact h
  | some ns => obtain ⟨g, h1, h2, h3⟩ := h; exact ⟨g, Nat.le_trans ho.size h1, h2, h3⟩
theorem numsR_no {w w' : World} {v0 v1 : Value} (h : NumsR none w (.returned (.tuple #[v0, v1])) w') : v0 = .slice none 0 0 ∧ v1 = .bool false := by
  have h' : Ending.returned (.tuple #[v0, v1]) = .returned (.tuple #[.slice none 0 0, .bool false]) := h
  simpa using h'
theorem numsR_yes {ns : List Int} {w w' : World} {v0 v1 : Value} (h : NumsR (some ns) w (.returned (.tuple #[v0, v1])) w') : ∃ g, v0 = .slice (some ⟨g, 0, none⟩) ns.length ns.length ∧ v1 = .bool true ∧ RowAt itC 3 1 w' g ns.length ns := by
  obtain ⟨g, _, h2, h3⟩ := h
  have h' : v0 = .slice (some ⟨g, 0, none⟩) ns.length ns.length ∧ v1 = .bool true := by simpa using h2
  exact ⟨g, h'.1, h'.2, h3⟩
def FlI (w : World) (w4 : List UInt8) (vi : Value) (wr : World) : Prop :=
  ∃ k : Nat, k ≤ 9 ∧ vi = .int .i64 k ∧ idxW w4 kinds9 1 = idxW w4 (kinds9.drop k) (k + 1) ∧ Only [] w wr
set_option maxRecDepth 100000 in
set_option maxHeartbeats 8000000 in
theorem kFault {W0 : Two} {w : World} {b : Nat} {x : SSt} {p : Option Addr} {n cap : Nat} {wd : List UInt8} {r : List (List UInt8)} (h : RdX W0 b w x) (hsz : SLe 100000 x) (hv : VRow strC 1 w p n cap (wd :: r)) (hn : n ≤ 100000) (hl : ∀ y ∈ wd :: r, y.length ≤ 1000000) (he : Env w) :
    Calls Tryd.prog 53 #[.pointer (some ⟨b, 0, none⟩), .slice p n cap] w fun e w' => RdR W0 b (rdFault x r) e w' := by
  have hlen := hv.len
  subst hlen
  obtain ⟨hb0, hb1, ns, ls, vn, vl, vf, hR⟩ := h
  have hfl := hsz.ft
  have HR := Lib.hid hR; have HV := Lib.hid hv; have HE := Lib.hid he; have HL := Lib.hid hl; have H0 := Lib.hid hb0; have H1 := Lib.hid hb1
  clear hR hv he hl hb0 hb1 hsz
  have HW := Lib.hid (kWhole HR.out.box)
  by_cases h0 : whole x.at_ = true
  · rw [h0] at HW
    by_cases h2 : (wd :: r).length = 6
    · obtain ⟨a, bb, c, w4, d, rfl⟩ : ∃ a bb c w4 d, r = [a, bb, c, w4, d] := by
        rcases r with _ | ⟨a, _ | ⟨bb, _ | ⟨c, _ | ⟨w4, _ | ⟨d, _ | ⟨q, r⟩⟩⟩⟩⟩⟩
        · simp at h2
        · simp at h2
        · simp at h2
        · simp at h2
        · simp at h2
        · exact ⟨a, bb, c, w4, d, rfl⟩
        · simp at h2
      have HRD : Hid (rdFault x [a, bb, c, w4, d] = (match numsO [a, bb, c, d] with
        | some [a, b, c, d] => (idxW w4 kinds9 1).map fun (k : Nat) => (⟨{ x.sc with ft := x.sc.ft ++ [⟨a, b, c, (k : Int), d⟩] }, 7⟩ : SSt)
        | _ => none)) := Lib.hid (if_pos h0)
      generalize rdFault x [a, bb, c, w4, d] = res at HRD ⊢
      have z2 : ((([wd, a, bb, c, w4, d] : List (List UInt8)).length : Int) != 6) = false := rfl
      have hla := HL.out a (by simp); have hlb := HL.out bb (by simp); have hlc := HL.out c (by simp); have hld := HL.out d (by simp)
      clear h0 h2
      go_enter Tryd.func53, Tryd.ntmps53
      go_wp2_with fail
      refine HW.out.mono ?_
      rintro e w1 ⟨rfl, ho1⟩
      have R1 := Lib.hid (HR.out.kept ho1); have O1 := Lib.hid (H1.out.nil_trans ho1); have V1 := Lib.hid (HV.out.kept ho1); have E1 := Lib.hid (HE.out.kept ho1)
      clear ho1 HW HR H1 HV HE
      go_upto_region 3 with (fail)
      obtain ⟨bw, off, hp, s1, lw⟩ := V1.out.str (Only.refl [] w1) (k := 1) (by simp)
      obtain ⟨_, _, hp2, s2, _⟩ := V1.out.str (Only.refl [] w1) (k := 2) (by simp)
      obtain ⟨_, _, hp3, s3, _⟩ := V1.out.str (Only.refl [] w1) (k := 3) (by simp)
      obtain ⟨_, _, hp5, s5, _⟩ := V1.out.str (Only.refl [] w1) (k := 5) (by simp)
      subst hp
      cases hp2; cases hp3; cases hp5
      have t1 : w1.cell? ⟨bw, off + 1, none⟩ = some (.string (bstr a)) := s1
      have t2 : w1.cell? ⟨bw, off + 2, none⟩ = some (.string (bstr bb)) := s2
      have t3 : w1.cell? ⟨bw, off + 3, none⟩ = some (.string (bstr c)) := s3
      have t5 : w1.cell? ⟨bw, off + 5, none⟩ = some (.string (bstr d)) := s5
      clear s1 s2 s3 s5 z2
      refine wp_region_calm2 [0, 1, 2, 3, 4, 5, 6, 7, 8, 9, 10, 11] [12, 13, 14, 15, 16, 17, 18] (OnlyC ([] : List Nat) w1) (by kernel_rfl) (by kernel_rfl) ?_
      simp only [pick, List.map_cons, List.map_nil, List.getD_cons_succ, List.getD_cons_zero]
      iterate 12 (refine wpCalm_step (fun K hK => ?_); go_simp; refine hK _ ?_; clear hK K)
      refine wpCalm_nil ?_
      clear t1 t2 t3 t5 lw
      refine Rest.by (X := Value × Value) (fun y a => ((((((a.put (some 31) (.slice (some ⟨w1.heap.size, 0, none⟩) 4 4)).put (some 32) (.tuple #[y.1, y.2])).put (some 18) (.tuple #[y.1, y.2])).put (some 33) y.1).put (some 34) y.2).put (some 5) y.1).put (some 6) y.2) (fun y w' => NumsR (numsO [a, bb, c, d]) w1 (.returned (.tuple #[y.1, y.2])) w' ∧ Only [] w1 w') ?_ ?_
      · rintro ⟨v0, v1⟩ wc ⟨hv4, ho4⟩
        simp only [Act.put, List.setIfInBounds_toArray, List.set_cons_succ, List.set_cons_zero]
        dsimp only at hv4
        have R4 := Lib.hid (R1.out.kept ho4); have O4 := Lib.hid (O1.out.nil_trans ho4); have V4 := Lib.hid (V1.out.kept ho4)
        clear ho4 R1 O1 V1 E1
        cases hx : numsO [a, bb, c, d] with
        | none =>
          rw [hx] at hv4 HRD
          obtain ⟨rfl, rfl⟩ := numsR_no hv4
          have HX : Hid (res = none) := HRD
          go_wp2
          go_ret
          rw [HX.out]
          exact ⟨rfl, O4.out⟩
        | some ms =>
          rw [hx] at hv4 HRD
          obtain ⟨g, rfl, rfl, hrow⟩ := numsR_yes hv4
          have hml := numsO_len hx
          obtain ⟨m0, m1, m2, m3, rfl⟩ : ∃ m0 m1 m2 m3, ms = [m0, m1, m2, m3] := by
            rcases ms with _ | ⟨m0, _ | ⟨m1, _ | ⟨m2, _ | ⟨m3, _ | ⟨q, r⟩⟩⟩⟩⟩
            · simp at hml
            · simp at hml
            · simp at hml
            · simp at hml
            · exact ⟨m0, m1, m2, m3, rfl⟩
            · simp at hml
          have HX : Hid (res = (idxW w4 kinds9 1).map fun (k : Nat) => (⟨{ x.sc with ft := x.sc.ft ++ [⟨m0, m1, m2, (k : Int), m3⟩] }, 7⟩ : SSt)) := HRD
          have RW := Lib.hid hrow
          clear hrow hml hx hv4 HRD
          go_wp2_with fail
          refine (pKinds _).mono ?_
          rintro e w5 ⟨rfl, hrow5, ho5⟩
          have K5 := Lib.hid hrow5; have R5 := Lib.hid (R4.out.kept ho5); have O5 := Lib.hid (O4.out.nil_trans ho5); have V5 := Lib.hid (V4.out.kept ho5); have N5 := Lib.hid (RW.out.kept ho5 (by simp))
          clear hrow5 ho5 R4 O4 V4 RW
          generalize wc.heap.size = kg at K5
          go_wp2
          go_loopw [39] (fun vi wr => FlI w5 w4 vi wr) (fun vi _ => 9 - (intOf vi).toNat)
          case atStart => exact ⟨0, Nat.zero_le _, rfl, rfl, Only.refl _ _⟩
          case round =>
            obtain ⟨k, hk, rfl, hix, ho⟩ := hrel
            have HI := Lib.hid hix; have OO := Lib.hid ho
            have K6 := Lib.hid (K5.out.kept ho (by simp)); have R6 := Lib.hid (R5.out.kept ho); have O6 := Lib.hid (O5.out.nil_trans ho); have V6 := Lib.hid (V5.out.kept ho); have N6 := Lib.hid (N5.out.kept ho (by simp))
            clear hix ho
            by_cases hlt : k < 9
            · have hkc := cell_kind K6.out hlt
              have lk := K6.out.lt
              obtain ⟨_, _, hp4, s4, lw⟩ := V6.out.str (Only.refl [] wr) (k := 4) (by simp)
              cases hp4
              have t4 : wr.cell? ⟨bw, off + 4, none⟩ = some (.string (bstr w4)) := s4
              have hdr := idxW_drop (w := w4) hlt
              have heq : ((bstr (kinds9.getD k [])).toList == (bstr w4).toList) = decide (kinds9.getD k [] = w4) := by
                rw [Lib.toList_data, Lib.toList_data, Bool.eq_iff_iff, beq_iff_eq, decide_eq_true_eq]
                exact Iff.rfl
              have hkk : (k : Int) < 9 := by omega
              clear s4
              by_cases hkw : kinds9.getD k [] = w4
              · rw [decide_eq_true hkw] at heq
                have HQ : Hid (res = some ⟨{ x.sc with ft := x.sc.ft ++ [⟨m0, m1, m2, (k : Int) + 1, m3⟩] }, 7⟩) := Lib.hid (by rw [HX.out, HI.out, hdr, if_pos hkw]; rfl)
                clear hkw hdr
                generalize bstr (kinds9.getD k []) = S1 at hkc heq
                generalize bstr w4 = S2 at t4 heq
                have c0 : wr.cell? ⟨g, 0, none⟩ = some (.int .i64 m0) := N6.out.cell (i := 0) (j := 0) itC_len rfl (by decide)
                have c1 : wr.cell? ⟨g, 1, none⟩ = some (.int .i64 m1) := N6.out.cell (i := 1) (j := 0) itC_len rfl (by decide)
                have c2 : wr.cell? ⟨g, 2, none⟩ = some (.int .i64 m2) := N6.out.cell (i := 2) (j := 0) itC_len rfl (by decide)
                have c3 : wr.cell? ⟨g, 3, none⟩ = some (.int .i64 m3) := N6.out.cell (i := 3) (j := 0) itC_len rfl (by decide)
                have lg := N6.out.lt
                have hwk : IntKind.i64.wrap ((k : Int) + 1) = (k : Int) + 1 := by rw [IntKind.wrap_i64]; omega
                go_upto_region 10 with (fail)
                refine wp_region_calm2 [0, 1, 2, 3, 4, 5, 6, 7, 8, 9, 10, 11, 12, 13, 14] [16] (OnlyC ([] : List Nat) wr) (by kernel_rfl) (by kernel_rfl) ?_
                simp only [pick, List.map_cons, List.map_nil, List.getD_cons_succ, List.getD_cons_zero]
                iterate 15 (refine wpCalm_step (fun K hK => ?_); go_simp; refine hK _ ?_; clear hK K)
                refine wpCalm_nil ?_
                refine Rest.by (X := Nat) (fun y a => a.put (some 9) (.pointer (some ⟨y, 0, none⟩))) (fun y w' => w'.heap[y]? = some (.cells #[.int .i64 m0, .int .i64 m1, .int .i64 m2, .int .i64 ((k : Int) + 1), .int .i64 m3] 73 (0, 0)) ∧ Only [] wr w' ∧ wr.heap.size ≤ y) ?_ ?_
                · rintro eb w6 ⟨hbn, hon, hyn⟩
                  simp only [Act.put, List.setIfInBounds_toArray, List.set_cons_succ, List.set_cons_zero]
                  have EB := Lib.hid hbn; have PE := Lib.hid hon; have YE := Lib.hid hyn
                  clear hbn hon hyn c0 c1 c2 c3 lg hkc lk t4 lw heq hkk hwk
                  have R6b := Lib.hid (R6.out.kept PE.out); have O6b := Lib.hid (O6.out.nil_trans PE.out)
                  clear K6 V6 N6
                  have q2 := cell_got R6b.out.box 2; have lq := got_lt R6b.out.box
                  have e0 := cell_got EB.out 0; have e1 := cell_got EB.out 1; have e2 := cell_got EB.out 2; have e3 := cell_got EB.out 3; have e4 := cell_got EB.out 4; have le := got_lt EB.out
                  obtain ⟨S, hS⟩ : ∃ S, S = vf.ownBlock.toList := ⟨_, rfl⟩
                  have hbS : b ∉ S := fun hm => by rw [hS] at hm; exact R6b.out.ft.ne_box R6b.out.box (by decide) (by simpa using hm)
                  have heS : eb ∉ S := fun hm => by
                    rw [hS] at hm
                    obtain ⟨_, _, hq⟩ := R6.out.ft.block (by simpa using hm)
                    have h1 := hq.lt; have h2 := YE.out; omega
                  have HSE := Lib.hid hS
                  clear R6 O6 hS
                  have R6 := R6b; have O6 := O6b
                  clear R6b O6b
                  go_wp2_with fail
                  refine wp_region_calm2 [0, 1, 2, 3, 4, 5, 6] [9, 10, 11, 12] (OnlyC S w6) (by kernel_rfl) (by kernel_rfl) ?_
                  simp only [pick, List.map_cons, List.map_nil, List.getD_cons_succ, List.getD_cons_zero]
                  iterate 7 (refine wpCalm_step (fun K hK => ?_); go_simp; refine hK _ ?_; clear hK K)
                  refine wpCalm_nil ?_
                  clear q2 lq e0 e1 e2 e3 e4 le
                  refine Rest.by (X := Nat × Nat) (fun y a => ((((a.put (some 71) (.slice (some ⟨w6.heap.size, 0, none⟩) 1 1)).put (some 72) (.slice (some ⟨y.1, 0, none⟩) (x.sc.ft.length + 1) y.2)).put (some 73) (.pointer (some ⟨b, 0, none⟩))).put (some 74) (.pointer (some ⟨b, 0, none⟩))).put (some 75) (.pointer (some ⟨b, 2, none⟩)))
                    (fun y w' => Ob b W0 w' ∧ RdW W0.heap.size b w' (⟨{ x.sc with ft := x.sc.ft ++ [⟨m0, m1, m2, (k : Int) + 1, m3⟩] }, x.at_⟩ : SSt) ns ls vn vl (.slice (some ⟨y.1, 0, none⟩) (x.sc.ft.length + 1) y.2)) ?_ ?_
                  · rintro ⟨g9, cap9⟩ w9 ⟨ho9, hr9⟩
                    simp only [Act.put, List.setIfInBounds_toArray, List.set_cons_succ, List.set_cons_zero]
                    have O9 := Lib.hid ho9; have R9 := Lib.hid hr9
                    clear ho9 hr9
                    have BP := Lib.hid R9.out.box
                    have lp := got_lt BP.out; have q5 := cell_got BP.out 5; have f5 := frozen_got BP.out 5
                    go_wp2
                    go_ret
                    rw [HQ.out]
                    refine ⟨rfl, H0.out, O9.out.setCell (.inl (by simp)) _, ns, ls, vn, vl, .slice (some ⟨g9, 0, none⟩) (x.sc.ft.length + 1) cap9, ?_⟩
                    exact R9.out.cell ((Only.refl [b] w9).setCell (.inl (by simp)) _) (setCell_got _ BP.out) rfl rfl rfl
                  · refine wpAnyC_next [7] (by kernel_rfl) (by simp) (.inr (onlyC (Only.refl S w6).drew)) ?_
                    simp only [List.mem_cons, List.not_mem_nil, or_false, forall_eq]
                    refine wpOp_one rfl ?_
                    go_wp2
                    simp only [nrm]
                    refine allocd_abs (G := wpAnyC _ _ _ _ _ _ _ _ _) ?_
                    intro wa hna hoa hsa
                    have MA := Lib.hid hna; have oA := Lib.hid hoa; have RA := Lib.hid (R6.out.kept hoa); have OA := Lib.hid (O6.out.nil_trans hoa)
                    clear hna hsa hoa
                    refine wpAnyC_next [8] (by kernel_rfl) (by simp) (.inr (onlyC (oA.out.mono (by simp)))) ?_
                    simp only [List.mem_cons, List.not_mem_nil, or_false, forall_eq]
                    refine wpOp_one rfl ?_
                    refine wpList_append_B (B := W0.heap.size) rfl _ _ 24 rfl 73 (.agg #[.int .i64 0, .int .i64 0, .int .i64 0, .int .i64 0, .int .i64 0]) 5 40 Tryd.underlying24 (by kernel_rfl) rfl (by decide) ftC_len ftC_one x.sc.ft vf rfl RA.out.ft w6.heap.size (⟨m0, m1, m2, (k : Int) + 1, m3⟩ : Ft) rfl (fun j u hj => ?_) (by simp [maxLen]; omega) (by omega) (Nat.le_trans (by have := OA.out.size; omega) (Nat.le_refl _)) ?_
                    · rw [cell_got MA.out]; rw [← hj]; simp [ftC]
                    · intro g9 cap9 wb hown hob _
                      rw [← HSE.out] at hob
                      have WB := Lib.hid hown; have oB := Lib.hid hob; have oS := Lib.hid ((oA.out.mono (S' := S) (by simp)).trans hob (fun x h => .inl h))
                      clear hown hob
                      simp only [wpList, nrm]
                      refine wpAnyC_next [9] (by kernel_rfl) (by simp) (.inr (onlyC oS.out)) ?_
                      simp only [List.mem_cons, List.not_mem_nil, or_false, forall_eq]
                      refine wpOp_one rfl ?_
                      go_wp2
                      simp only [nrm]
                      refine wpAnyC_next [10] (by kernel_rfl) (by simp) (.inr (onlyC oS.out)) ?_
                      simp only [List.mem_cons, List.not_mem_nil, or_false, forall_eq]
                      refine wpOp_one rfl ?_
                      go_wp2
                      simp only [nrm]
                      refine wpAnyC_next [11] (by kernel_rfl) (by simp) (.inr (onlyC oS.out)) ?_
                      simp only [List.mem_cons, List.not_mem_nil, or_false, forall_eq]
                      refine wpOp_one rfl ?_
                      go_wp2
                      simp only [nrm]
                      refine wpAnyC_next [12] (by kernel_rfl) (by simp) (.inr (onlyC oS.out)) ?_
                      simp only [List.mem_cons, List.not_mem_nil, or_false, forall_eq]
                      refine wpOp_one rfl ?_
                      have BP := Lib.hid (oS.out.got R6.out.box hbS)
                      have lp := got_lt BP.out
                      have qc := cell_got BP.out 2; have fq := frozen_got BP.out 2
                      go_wp2
                      simp only [nrm]
                      refine wpAnyC_done (by kernel_rfl) (.inl (late_of (by kernel_rfl))) ⟨(g9, cap9), rfl, ?_, ?_⟩
                      · refine (Ob.row (S := S) OA.out oB.out (fun k hk => ?_)).setCell (.inl (by simp)) _
                        rw [HSE.out] at hk
                        exact RA.out.ft.blockC (by simpa using hk)
                      · rw [HSE.out] at oB
                        exact RA.out.addF (x' := (⟨{ x.sc with ft := x.sc.ft ++ [⟨m0, m1, m2, (k : Int) + 1, m3⟩] }, x.at_⟩ : SSt)) oB.out WB.out ((Only.refl [b] wb).setCell (.inl (by simp)) _) (setCell_got _ BP.out) rfl rfl rfl
                · refine wpAnyC_next [15] (by kernel_rfl) (by simp) (.inr (onlyC (Only.refl [] wr).drew)) ?_
                  simp only [List.mem_cons, List.not_mem_nil, or_false, forall_eq]
                  refine wpOp_one rfl ?_
                  go_wp2
                  simp only [nrm]
                  refine allocd_abs (G := wpAnyC _ _ _ _ _ _ _ _ _) ?_
                  intro w5 hn5 ho5 hs5
                  have M5 := Lib.hid hn5; have o25 := Lib.hid ho5
                  clear hn5 hs5 ho5
                  refine wpAnyC_next [16] (by kernel_rfl) (by simp) (.inr (onlyC o25.out)) ?_
                  simp only [List.mem_cons, List.not_mem_nil, or_false, forall_eq]
                  refine wpOp_one rfl ?_
                  have la := got_lt M5.out
                  have fa0 := frozen_got M5.out 0; have ca0 := cell_got M5.out 0
                  have fa1 := frozen_got M5.out 1; have ca1 := cell_got M5.out 1
                  have fa2 := frozen_got M5.out 2; have ca2 := cell_got M5.out 2
                  have fa3 := frozen_got M5.out 3; have ca3 := cell_got M5.out 3
                  have fa4 := frozen_got M5.out 4; have ca4 := cell_got M5.out 4
                  go_wp2
                  simp only [nrm]
                  clear la fa0 ca0 fa1 ca1 fa2 ca2 fa3 ca3 fa4 ca4
                  have o2 : Only [wr.heap.size] w5 (((((w5.setCell ⟨wr.heap.size, 0, none⟩ (.int .i64 m0)).setCell ⟨wr.heap.size, 1, none⟩ (.int .i64 m1)).setCell ⟨wr.heap.size, 2, none⟩ (.int .i64 m2)).setCell ⟨wr.heap.size, 3, none⟩ (.int .i64 ((k : Int) + 1))).setCell ⟨wr.heap.size, 4, none⟩ (.int .i64 m3)) := ((((((Only.refl _ w5).setCell (.inl (by simp)) _).setCell (.inl (by simp)) _).setCell (.inl (by simp)) _).setCell (.inl (by simp)) _).setCell (.inl (by simp)) _)
                  have o3 := o25.out.trans o2 (by simp)
                  exact wpAnyC_done (by kernel_rfl) (.inr (onlyC o3)) ⟨wr.heap.size, rfl, (setCell_got _ (setCell_got _ (setCell_got _ (setCell_got _ (setCell_got _ M5.out))))), o3, Nat.le_refl _⟩
              · rw [decide_eq_false hkw] at heq
                have HQ := Lib.hid (HI.out.trans (by rw [hdr, if_neg hkw]))
                clear hkw hdr
                generalize bstr (kinds9.getD k []) = S1 at hkc heq
                generalize bstr w4 = S2 at t4 heq
                go_wp2
                go_roundw
                case rel => exact ⟨k + 1, by omega, by go_num, HQ.out, OO.out⟩
                case measure => first | (simp [intOf]; done) | (simp [intOf]; omega)
            · obtain rfl : k = 9 := by omega
              have HQ : Hid (res = none) := Lib.hid (by rw [HX.out, HI.out]; rfl)
              go_wp2
              go_ret
              rw [HQ.out]
              exact ⟨rfl, O6.out⟩
      · refine wpAnyC_next [12] (by kernel_rfl) (by simp) (.inr (onlyC (Only.refl [] w1).drew)) ?_
        simp only [List.mem_cons, List.not_mem_nil, or_false, forall_eq]
        refine wpOp_one rfl ?_
        go_wp2
        simp only [nrm]
        refine allocd_abs (G := wpAnyC _ _ _ _ _ _ _ _ _) ?_
        intro wa hna hoa hsa
        have hrow : RowAt strC 9 1 wa w1.heap.size 4 [a, bb, c, d] := ⟨_, hna, rfl, Nat.le_refl _, by decide, rfl⟩
        have HN := Lib.hid (pNumbers (hrow.vrow strC_len rfl) (by simp) (by intro y hy; simp only [List.mem_cons, List.not_mem_nil, or_false] at hy; rcases hy with rfl | rfl | rfl | rfl <;> assumption) (E1.out.kept hoa))
        have oA := Lib.hid hoa
        clear hna hsa hoa hrow
        refine wpAnyC_next [13] (by kernel_rfl) (by simp) (.inl (late_of (by kernel_rfl))) ?_
        simp only [List.mem_cons, List.not_mem_nil, or_false, forall_eq]
        refine wpOp_one rfl ?_
        go_wp2_with fail
        refine HN.out.mono ?_
        rintro e wc ⟨hv4, ho4⟩
        obtain ⟨v0, v1, rfl⟩ := numsR_form hv4
        have HV4 : Hid (NumsR (numsO [a, bb, c, d]) w1 (.returned (.tuple #[v0, v1])) wc) := Lib.hid (hv4.back oA.out)
        have HO4 := Lib.hid (oA.out.nil_trans ho4)
        clear hv4 ho4 HN
        go_wp2
        simp only [nrm]
        refine wpAnyC_next [14] (by kernel_rfl) (by simp) (.inl (late_of (by kernel_rfl))) ?_
        simp only [List.mem_cons, List.not_mem_nil, or_false, forall_eq]
        refine wpOp_one rfl ?_
        go_wp2
        simp only [nrm]
        refine wpAnyC_next [15, 16] (by kernel_rfl) (by simp) (.inl (late_of (by kernel_rfl))) ?_
        simp only [List.mem_cons, List.not_mem_nil, or_false, forall_eq_or_imp, forall_eq]
        refine ⟨?_, ?_⟩
        · refine wpOp_one rfl ?_
          go_wp2
          simp only [nrm]
          refine wpAnyC_next [16, 17] (by kernel_rfl) (by simp) (.inl (late_of (by kernel_rfl))) ?_
          simp only [List.mem_cons, List.not_mem_nil, or_false, forall_eq_or_imp, forall_eq]
          refine ⟨?_, ?_⟩
          · refine wpOp_one rfl ?_
            go_wp2
            simp only [nrm]
            refine wpAnyC_next [17] (by kernel_rfl) (by simp) (.inl (late_of (by kernel_rfl))) ?_
            simp only [List.mem_cons, List.not_mem_nil, or_false, forall_eq]
            refine wpOp_one rfl ?_
            go_wp2
            simp only [nrm]
            refine wpAnyC_next [18] (by kernel_rfl) (by simp) (.inl (late_of (by kernel_rfl))) ?_
            simp only [List.mem_cons, List.not_mem_nil, or_false, forall_eq]
            refine wpOp_one rfl ?_
            go_wp2
            simp only [nrm]
            refine wpAnyC_done (by kernel_rfl) (.inl (late_of (by kernel_rfl))) ⟨(v0, v1), ?_, HV4.out, HO4.out⟩
            simp only [Act.put, List.setIfInBounds_toArray, List.set_cons_succ, List.set_cons_zero]
          · refine wpOp_one rfl ?_
            go_wp2
            simp only [nrm]
            refine wpAnyC_next [16] (by kernel_rfl) (by simp) (.inl (late_of (by kernel_rfl))) ?_
            simp only [List.mem_cons, List.not_mem_nil, or_false, forall_eq]
            refine wpOp_one rfl ?_
            go_wp2
            simp only [nrm]
            refine wpAnyC_next [18] (by kernel_rfl) (by simp) (.inl (late_of (by kernel_rfl))) ?_
            simp only [List.mem_cons, List.not_mem_nil, or_false, forall_eq]
            refine wpOp_one rfl ?_
            go_wp2
            simp only [nrm]
            refine wpAnyC_done (by kernel_rfl) (.inl (late_of (by kernel_rfl))) ⟨(v0, v1), ?_, HV4.out, HO4.out⟩
            simp only [Act.put, List.setIfInBounds_toArray, List.set_cons_succ, List.set_cons_zero]
        · refine wpOp_one rfl ?_
          go_wp2
          simp only [nrm]
          refine wpAnyC_next [15] (by kernel_rfl) (by simp) (.inl (late_of (by kernel_rfl))) ?_
          simp only [List.mem_cons, List.not_mem_nil, or_false, forall_eq]
          refine wpOp_one rfl ?_
          go_wp2
          simp only [nrm]
          refine wpAnyC_next [17] (by kernel_rfl) (by simp) (.inl (late_of (by kernel_rfl))) ?_
          simp only [List.mem_cons, List.not_mem_nil, or_false, forall_eq]
          refine wpOp_one rfl ?_
          go_wp2
          simp only [nrm]
          refine wpAnyC_next [18] (by kernel_rfl) (by simp) (.inl (late_of (by kernel_rfl))) ?_
          simp only [List.mem_cons, List.not_mem_nil, or_false, forall_eq]
          refine wpOp_one rfl ?_
          go_wp2
          simp only [nrm]
          refine wpAnyC_done (by kernel_rfl) (.inl (late_of (by kernel_rfl))) ⟨(v0, v1), ?_, HV4.out, HO4.out⟩
          simp only [Act.put, List.setIfInBounds_toArray, List.set_cons_succ, List.set_cons_zero]
    · have HX : Hid (rdFault x r = none) := Lib.hid (by
        rcases r with _ | ⟨a, _ | ⟨bb, _ | ⟨c, _ | ⟨w4, _ | ⟨d, _ | ⟨q, r⟩⟩⟩⟩⟩⟩
        · rfl
        · rfl
        · rfl
        · rfl
        · rfl
        · exact absurd rfl h2
        · rfl)
      generalize rdFault x r = res at HX ⊢
      have z2 : (((wd :: r).length : Int) != 6) = true := by rw [bne_iff_ne]; omega
      have z2' : (((wd :: r).length : Int) == 6) = false := by rw [beq_eq_false_iff_ne]; omega
      clear h0 h2
      generalize (wd :: r).length = nn at z2 z2' hn ⊢
      go_enter Tryd.func53, Tryd.ntmps53
      go_wp2_with fail
      refine HW.out.mono ?_
      rintro e w1 ⟨rfl, ho1⟩
      have O1 := Lib.hid (H1.out.nil_trans ho1)
      go_wp2
      go_ret
      rw [HX.out]
      exact ⟨rfl, O1.out⟩
  · have hw : whole x.at_ = false := by simpa using h0
    rw [hw] at HW
    have HX : Hid (rdFault x r = none) := Lib.hid (by
      rcases r with _ | ⟨a, _ | ⟨bb, _ | ⟨c, _ | ⟨w4, _ | ⟨d, _ | ⟨q, r⟩⟩⟩⟩⟩⟩
      · rfl
      · rfl
      · rfl
      · rfl
      · rfl
      · exact if_neg h0
      · rfl)
    generalize rdFault x r = res at HX ⊢
    clear h0 hw
    generalize (wd :: r).length = nn at hn ⊢
    go_enter Tryd.func53, Tryd.ntmps53
    go_wp2_with fail
    refine HW.out.mono ?_
    rintro e w1 ⟨rfl, ho1⟩
    have O1 := Lib.hid (H1.out.nil_trans ho1)
    go_wp2
    go_ret
    rw [HX.out]
    exact ⟨rfl, O1.out⟩
end Go.Proofs.YthmeifdgkodjlaaDoor
