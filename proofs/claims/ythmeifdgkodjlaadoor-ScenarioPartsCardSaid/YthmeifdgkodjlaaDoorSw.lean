/- node of the reader. Conditions: the library's variables are laid; the lengths. -/
import Derived.Test.YthmeifdgkodjlaaDoorSv
import Derived.Deep.DeepCutAuto
namespace Go.Proofs.YthmeifdgkodjlaaDoor
open Go.RowKit

theorem rd_otherN {B b eb : Nat} {w w' : World} {x : SSt} {ns : List NdW} {ls : List LkW} {vn vl vf : Value} {c : Array Value} {t : TypeId} (h : RdW B b w x ns ls vn vl vf) (he : w.heap[eb]? = some (.cells c t (0, 0))) (ho : Only [eb] w w') (hb : b ≠ eb) (hv : vn.ownBlock ≠ some eb)
    (ht : 55 ≠ t ∧ 73 ≠ t ∧ 92 ≠ t ∧ 3 ≠ t ∧ 95 ≠ t) : RdW B b w' x ns ls vn vl vf :=
  ⟨ho.got h.box (by simpa using hb), h.hn, h.hl, h.nd.keptS ho (fun k hk => by rw [List.mem_singleton] at hk; rw [hk]; exact hv), own_setB h.lk he ht.1 ho, own_setB h.ft he ht.2.1 ho, fun y hy => own_setB (h.sg y hy) he ht.2.2.1 ho, fun y hy => own_setB (h.sv y hy) he ht.2.2.2.1 ho, fun y hy => own_setB (h.ch y hy) he ht.2.2.2.2 ho, h.apN, h.apL⟩
set_option maxRecDepth 100000 in
set_option maxHeartbeats 8000000 in
theorem kNode6 {W0 : Two} {w : World} {b : Nat} {x : SSt} {p : Option Addr} {cap : Nat} {wd i x2 t x4 s : List UInt8} (h : RdX W0 b w x) (hsz : SLe 100000 x) (hv : VRow strC 1 w p 6 cap [wd, i, x2, t, x4, s]) (hl : ∀ y ∈ ([wd, i, x2, t, x4, s] : List (List UInt8)), y.length ≤ 1000000) (he : Env w) (hst : x.at_ = 2 ∨ x.at_ = 4 ∨ x.at_ = 5) :
    Calls Tryd.prog 49 #[.pointer (some ⟨b, 0, none⟩), .slice p 6 cap] w fun e' w' => RdR W0 b (rdNode x [i, x2, t, x4, s]) e' w' := by
  obtain ⟨hb0, hb1, ns, ls, vn, vl, vf, hR⟩ := h
  have hxn : x.sc.nd.length = ns.length := by rw [hR.hn, List.length_map]
  have hfl : ns.length ≤ 100000 := by rw [← hxn]; exact hsz.nd
  have HRD : Hid (rdNode x [i, x2, t, x4, s] = if (x.at_ = 2 ∨ x.at_ = 4 ∨ x.at_ = 5) ∧ x2 = wTol ∧ x4 = wStart then (match numsO [i, t, s] with
  | some [a, b, c] => if a = x.sc.nd.length then some (addN x ⟨0, [], b, false, 0, c, []⟩) else none
  | _ => none) else none) := Lib.hid rfl
  generalize rdNode x [i, x2, t, x4, s] = res at HRD ⊢
  have HR := Lib.hid hR; have HV := Lib.hid hv; have HE := Lib.hid he; have H0 := Lib.hid hb0; have H1 := Lib.hid hb1
  have hl1 := hl i (by simp)
  have hl3 := hl t (by simp)
  have hl5 := hl s (by simp)
  obtain ⟨bw, off, hp, _, lw⟩ := VRow.str (l := [wd, i, x2, t, x4, s]) HV.out (Only.refl [] w) (k := 0) (by simp)
  subst hp
  obtain ⟨_, _, hp1, s1, _⟩ := VRow.str (l := [wd, i, x2, t, x4, s]) HV.out (Only.refl [] w) (k := 1) (by simp)
  cases hp1
  have t1 : w.cell? ⟨bw, off + 1, none⟩ = some (.string (bstr i)) := s1
  clear s1
  obtain ⟨_, _, hp2, s2, _⟩ := VRow.str (l := [wd, i, x2, t, x4, s]) HV.out (Only.refl [] w) (k := 2) (by simp)
  cases hp2
  have t2 : w.cell? ⟨bw, off + 2, none⟩ = some (.string (bstr x2)) := s2
  clear s2
  obtain ⟨_, _, hp3, s3, _⟩ := VRow.str (l := [wd, i, x2, t, x4, s]) HV.out (Only.refl [] w) (k := 3) (by simp)
  cases hp3
  have t3 : w.cell? ⟨bw, off + 3, none⟩ = some (.string (bstr t)) := s3
  clear s3
  obtain ⟨_, _, hp4, s4, _⟩ := VRow.str (l := [wd, i, x2, t, x4, s]) HV.out (Only.refl [] w) (k := 4) (by simp)
  cases hp4
  have t4 : w.cell? ⟨bw, off + 4, none⟩ = some (.string (bstr x4)) := s4
  clear s4
  obtain ⟨_, _, hp5, s5, _⟩ := VRow.str (l := [wd, i, x2, t, x4, s]) HV.out (Only.refl [] w) (k := 5) (by simp)
  cases hp5
  have t5 : w.cell? ⟨bw, off + 5, none⟩ = some (.string (bstr s)) := s5
  clear s5
  have HXN := Lib.hid hxn; have HST := Lib.hid hst
  have hcap := hv.le
  have q5 := cell_got HR.out.box 5; have lq := got_lt HR.out.box
  clear hR hv he hl hb0 hb1 hsz hxn hst
  go_enter Tryd.func49, Tryd.ntmps49
  go_upto_region 1 with (fail)
  go_cut [27] (fun u27 wx => u27 = .bool false ∧ w = wx)
  case first =>
    rcases HST.out with h | h | h
    · have e2 : ((x.at_ : Int) == 2) = true := by rw [beq_iff_eq]; omega
      have e2n : ((x.at_ : Int) != 2) = false := by rw [bne_eq_false_iff_eq]; omega
      have e4 : ((x.at_ : Int) == 4) = false := by rw [beq_eq_false_iff_ne]; omega
      have e4n : ((x.at_ : Int) != 4) = true := by rw [bne_iff_ne]; omega
      have e5 : ((x.at_ : Int) == 5) = false := by rw [beq_eq_false_iff_ne]; omega
      have e5n : ((x.at_ : Int) != 5) = true := by rw [bne_iff_ne]; omega
      clear h
      go_wp2_with fail
      go_meet
      exact ⟨rfl, rfl⟩
    · have e2 : ((x.at_ : Int) == 2) = false := by rw [beq_eq_false_iff_ne]; omega
      have e2n : ((x.at_ : Int) != 2) = true := by rw [bne_iff_ne]; omega
      have e4 : ((x.at_ : Int) == 4) = true := by rw [beq_iff_eq]; omega
      have e4n : ((x.at_ : Int) != 4) = false := by rw [bne_eq_false_iff_eq]; omega
      have e5 : ((x.at_ : Int) == 5) = false := by rw [beq_eq_false_iff_ne]; omega
      have e5n : ((x.at_ : Int) != 5) = true := by rw [bne_iff_ne]; omega
      clear h
      go_wp2_with fail
      go_meet
      exact ⟨rfl, rfl⟩
    · have e2 : ((x.at_ : Int) == 2) = false := by rw [beq_eq_false_iff_ne]; omega
      have e2n : ((x.at_ : Int) != 2) = true := by rw [bne_iff_ne]; omega
      have e4 : ((x.at_ : Int) == 4) = false := by rw [beq_eq_false_iff_ne]; omega
      have e4n : ((x.at_ : Int) != 4) = true := by rw [bne_iff_ne]; omega
      have e5 : ((x.at_ : Int) == 5) = true := by rw [beq_iff_eq]; omega
      have e5n : ((x.at_ : Int) != 5) = false := by rw [bne_eq_false_iff_eq]; omega
      clear h
      go_wp2_with fail
      go_meet
      exact ⟨rfl, rfl⟩
  case rest =>
    obtain ⟨rfl, rfl⟩ := hcut
    by_cases hw2 : x2 = wTol
    · by_cases hw4 : x4 = wStart
      · have tA : (bstr x2).toList = [116, 111, 108] := by rw [Lib.toList_data, hw2]; rfl
        generalize bstr x2 = S2 at t2 tA
        have tB : (bstr x4).toList = [115, 116, 97, 114, 116] := by rw [Lib.toList_data, hw4]; rfl
        generalize bstr x4 = S4 at t4 tB
        have HM : Hid (res = (match numsO [i, t, s] with
          | some [a, b, c] => if a = x.sc.nd.length then some (addN x ⟨0, [], b, false, 0, c, []⟩) else none
          | _ => none)) := Lib.hid (by rw [HRD.out]; exact if_pos ⟨HST.out, hw2, hw4⟩)
        clear HRD hw2 hw4
        clear q5
        have lwk := lw
        go_upto_region 6 with (fail)
        refine wp_region_calm2 [0, 1, 2, 3, 4, 5, 6, 7, 8] [9, 10, 11, 12, 13, 14, 15] (OnlyC ([] : List Nat) w) (by kernel_rfl) (by kernel_rfl) ?_
        simp only [pick, List.map_cons, List.map_nil, List.getD_cons_succ, List.getD_cons_zero]
        iterate 9 (refine wpCalm_step (fun K hK => ?_); go_simp; refine hK _ ?_; clear hK K)
        refine wpCalm_nil ?_
        clear t1 t3 t5 lw tA tB
        refine Rest.by (X := Value × Value) (fun y a => ((((((a.put (some 60) (.slice (some ⟨w.heap.size, 0, none⟩) 3 3)).put (some 61) (.tuple #[y.1, y.2])).put (some 50) (.tuple #[y.1, y.2])).put (some 62) y.1).put (some 63) y.2).put (some 6) y.1).put (some 7) y.2) (fun y w' => NumsR (numsO [i, t, s]) w (.returned (.tuple #[y.1, y.2])) w' ∧ Only [] w w') ?_ ?_
        · rintro ⟨v0, v1⟩ wc ⟨hv4, ho4⟩
          simp only [Act.put, List.setIfInBounds_toArray, List.set_cons_succ, List.set_cons_zero]
          dsimp only at hv4
          have R2 := Lib.hid (HR.out.kept ho4); have O2 := Lib.hid (H1.out.nil_trans ho4); have HO2 := Lib.hid ho4
          have HVN : Hid (∀ k ∈ vn.ownBlock.toList, k < w.heap.size) := Lib.hid (fun k hk => by obtain ⟨_, _, hq⟩ := HR.out.nd.block (by simpa using hk); exact hq.lt)
          have HRB : Hid (b < w.heap.size) := Lib.hid (got_lt HR.out.box)
          have HWB : Hid (bw < w.heap.size) := Lib.hid lwk
          have HSZ := Lib.hid ho4.size
          clear ho4 HR
          cases hx : numsO [i, t, s] with
          | none =>
            rw [hx] at hv4
            obtain ⟨rfl, rfl⟩ := numsR_no hv4
            have HQ : Hid (res = none) := Lib.hid (by rw [HM.out, hx])
            clear hv4 hx HM
            have q0 := cell_got R2.out.box 0; have lq := got_lt R2.out.box
            obtain ⟨pn0, cn0, hvn0, _⟩ := R2.out.nd.vrow ndC_len
            subst hvn0
            go_wp2_with fail
            refine wp_region_grown [0, 1, 2, 3, 4, 5, 6, 7, 8, 9, 10, 11, 12, 13] [] (by kernel_rfl) (by kernel_rfl) ?_
            simp only [pick, List.map_cons, List.map_nil, List.getD_cons_succ, List.getD_cons_zero]
            iterate 1 (refine wpQuiet_step (fun K hK => ?_); go_simp; refine hK _ ?_; clear hK K)
            repeat (go_big_quiet_step (fail))
            refine wpQuiet_nil ?_
            intro w4 hw4
            have o4 := only_of_plus hw4
            clear hw4
            have O4 := Lib.hid (O2.out.nil_trans o4)
            go_wp2
            go_ret
            rw [HQ.out]
            exact ⟨rfl, O4.out⟩
          | some ms =>
            rw [hx] at hv4
            obtain ⟨g, rfl, rfl, hrow⟩ := numsR_yes hv4
            have hml := numsO_len hx
            obtain ⟨m0, m1, m2, rfl⟩ : ∃ m0 m1 m2, ms = [m0, m1, m2] := by
              rcases ms with _ | ⟨m0, _ | ⟨m1, _ | ⟨m2, _ | ⟨q, r⟩⟩⟩⟩
              · simp at hml
              · simp at hml
              · simp at hml
              · exact ⟨m0, m1, m2, rfl⟩
              · simp at hml
            have HM2 : Hid (res = if m0 = x.sc.nd.length then some (addN x ⟨0, [], m1, false, 0, m2, []⟩) else none) := Lib.hid (by rw [HM.out, hx])
            have N2 := Lib.hid hrow
            have c0 : wc.cell? ⟨g, 0, none⟩ = some (.int .i64 m0) := hrow.cell (i := 0) (j := 0) itC_len rfl (by decide)
            have lg := hrow.lt
            have q0 := cell_got R2.out.box 0; have lq := got_lt R2.out.box
            obtain ⟨pn0, cn0, hvn0, _⟩ := R2.out.nd.vrow ndC_len
            subst hvn0
            clear hrow hml hx hv4 HM
            by_cases hm0 : m0 = (ns.length : Int)
            · have dA : (m0 == (ns.length : Int)) = true := by simp [hm0]
              have dAn : (m0 != (ns.length : Int)) = false := by simp [hm0]
              have HQ : Hid (res = some (addN x ⟨0, [], m1, false, 0, m2, []⟩)) := Lib.hid (by rw [HM2.out]; exact if_pos (by rw [HXN.out]; exact hm0))
              clear hm0 HM2
              go_wp2_with fail
              refine wp_region_grown [0, 1, 2, 3, 4, 5, 6, 7, 8, 9, 10, 11, 12, 13] [] (by kernel_rfl) (by kernel_rfl) ?_
              simp only [pick, List.map_cons, List.map_nil, List.getD_cons_succ, List.getD_cons_zero]
              iterate 1 (refine wpQuiet_step (fun K hK => ?_); go_simp; refine hK _ ?_; clear hK K)
              repeat (go_big_quiet_step (fail))
              refine wpQuiet_nil ?_
              intro w4 hw4
              have o4 := only_of_plus hw4
              clear hw4
              have R4 := Lib.hid (R2.out.kept o4); have O4 := Lib.hid (O2.out.nil_trans o4); have N4 := Lib.hid (N2.out.kept o4 (by simp)); have S4 := Lib.hid o4.size
              have o4' := o4
              clear o4 c0 lg q0 lq R2 O2 N2 dA dAn
              have O4' := Lib.hid o4'
              clear o4'
              go_wp2_with fail
              have c1 : w4.cell? ⟨g, 1, none⟩ = some (.int .i64 m1) := N4.out.cell (i := 1) (j := 0) itC_len rfl (by decide)
              have c2 : w4.cell? ⟨g, 2, none⟩ = some (.int .i64 m2) := N4.out.cell (i := 2) (j := 0) itC_len rfl (by decide)
              have lg := N4.out.lt
              refine wp_region_calm2 [0, 1, 2, 3, 4, 5, 6, 7] [9] (OnlyC ([] : List Nat) w4) (by kernel_rfl) (by kernel_rfl) ?_
              simp only [pick, List.map_cons, List.map_nil, List.getD_cons_succ, List.getD_cons_zero]
              iterate 8 (refine wpCalm_step (fun K hK => ?_); go_simp; refine hK _ ?_; clear hK K)
              refine wpCalm_nil ?_
              refine Rest.by (X := Nat) (fun y a => a.put (some 8) (.pointer (some ⟨y, 0, none⟩))) (fun y w' => w'.heap[y]? = some (.cells #[.int .i64 0, .slice none 0 0, .int .i64 m1, .bool false, .int .i64 0, .int .i64 m2, .slice none 0 0] 44 (0, 0)) ∧ Only [] w4 w' ∧ w4.heap.size ≤ y) ?_ ?_
              · rintro eb w6 ⟨hbn, hon, hyn⟩
                simp only [Act.put, List.setIfInBounds_toArray, List.set_cons_succ, List.set_cons_zero]
                have EB := Lib.hid hbn; have PE := Lib.hid hon; have YE := Lib.hid hyn
                clear hbn hon hyn c1 c2 lg
                have E6 := EB
                have R6 := Lib.hid (R4.out.kept PE.out); have O6 := Lib.hid (O4.out.nil_trans PE.out)
                clear R4 O4 N4
                have q0 := cell_got R6.out.box 0; have lq := got_lt R6.out.box
                have e0 := cell_got E6.out 0
                have e1 := cell_got E6.out 1
                have e2 := cell_got E6.out 2
                have e3 := cell_got E6.out 3
                have e4 := cell_got E6.out 4
                have e5 := cell_got E6.out 5
                have e6 := cell_got E6.out 6
                have le := got_lt E6.out
                obtain ⟨S, hS⟩ : ∃ S, S = (Value.slice pn0 ns.length cn0).ownBlock.toList := ⟨_, rfl⟩
                have hbS : b ∉ S := fun hm => by rw [hS] at hm; exact R6.out.nd.ne_box R6.out.box (by decide) (by simpa using hm)
                have heS : eb ∉ S := fun hm => by rw [hS] at hm; have := HVN.out eb hm; have h2 := YE.out; have h3 := HSZ.out; have h4 := S4.out; omega
                have HSE := Lib.hid hS
                clear hS
                go_wp2_with fail
                refine wp_region_calm2 [0, 1, 2, 3, 4, 5, 6] [9, 10, 11, 12] (OnlyC S w6) (by kernel_rfl) (by kernel_rfl) ?_
                simp only [pick, List.map_cons, List.map_nil, List.getD_cons_succ, List.getD_cons_zero]
                iterate 7 (refine wpCalm_step (fun K hK => ?_); go_simp; refine hK _ ?_; clear hK K)
                refine wpCalm_nil ?_
                clear q0 lq e0 e1 e2 e3 e4 e5 e6 le
                refine Rest.by (X := Nat × Nat) (fun y a => ((((a.put (some 110) (.slice (some ⟨w6.heap.size, 0, none⟩) 1 1)).put (some 111) (.slice (some ⟨y.1, 0, none⟩) (ns.length + 1) y.2)).put (some 112) (.pointer (some ⟨b, 0, none⟩))).put (some 113) (.pointer (some ⟨b, 0, none⟩))).put (some 114) (.pointer (some ⟨b, 0, none⟩)))
                  (fun y w' => Ob b W0 w' ∧ RdW W0.heap.size b w' (⟨{ x.sc with nd := x.sc.nd ++ [⟨0, [], m1, false, 0, m2, []⟩] }, x.at_⟩ : SSt) (ns ++ [⟨⟨0, [], m1, false, 0, m2, []⟩, none, 0, none, 0⟩]) ls (.slice (some ⟨y.1, 0, none⟩) (ns.length + 1) y.2) vl vf) ?_ ?_
                · rintro ⟨g9, cap9⟩ w9 ⟨ho9, hr9⟩
                  simp only [Act.put, List.setIfInBounds_toArray, List.set_cons_succ, List.set_cons_zero]
                  have O9 := Lib.hid ho9; have R9 := Lib.hid hr9
                  clear ho9 hr9
                  have BP := Lib.hid R9.out.box
                  have lp := got_lt BP.out; have q5 := cell_got BP.out 5; have f5 := frozen_got BP.out 5
                  go_wp2
                  go_ret
                  rw [HQ.out]
                  refine ⟨rfl, H0.out, O9.out.setCell (.inl (by simp)) _, ns ++ [⟨⟨0, [], m1, false, 0, m2, []⟩, none, 0, none, 0⟩], ls, .slice (some ⟨g9, 0, none⟩) (ns.length + 1) cap9, vl, vf, ?_⟩
                  exact R9.out.cell (x' := addN x ⟨0, [], m1, false, 0, m2, []⟩) ((Only.refl [b] w9).setCell (.inl (by simp)) _) (setCell_got _ BP.out) rfl rfl rfl
                · refine wpAnyC_next [7] (by kernel_rfl) (by simp) (.inr (onlyC (Only.refl S w6).drew)) ?_
                  simp only [List.mem_cons, List.not_mem_nil, or_false, forall_eq]
                  refine wpOp_one rfl ?_
                  go_wp2
                  simp only [nrm]
                  refine allocd_abs (G := wpAnyC _ _ _ _ _ _ _ _ _) ?_
                  intro wa hna hoa hsa
                  have MA := Lib.hid hna; have oA := Lib.hid hoa; have RA := Lib.hid (R6.out.kept hoa); have OA := Lib.hid (O6.out.nil_trans hoa)
                  clear hna hsa hoa
                  refine wpAnyC_next [8] (by kernel_rfl) (by simp) (.inr (onlyC (oA.out.mono (by simp)))) ?_
                  simp only [List.mem_cons, List.not_mem_nil, or_false, forall_eq]
                  refine wpOp_one rfl ?_
                  refine wpList_append_B (B := W0.heap.size) rfl _ _ 22 rfl 44 (.agg #[.int .i64 0, .slice none 0 0, .int .i64 0, .bool false, .int .i64 0, .int .i64 0, .slice none 0 0]) 7 88 Tryd.underlying22 (by kernel_rfl) rfl (by decide) ndC_len ndC_one ns (Value.slice pn0 ns.length cn0) rfl RA.out.nd w6.heap.size (⟨⟨0, [], m1, false, 0, m2, []⟩, none, 0, none, 0⟩ : NdW) rfl (fun j u hj => ?_) (by simp [maxLen]; omega) (by omega) (Nat.le_trans (by have := OA.out.size; omega) (Nat.le_refl _)) ?_
                  · rw [cell_got MA.out]; rw [← hj]; simp [ndC]
                  · intro g9 cap9 wb hown hob _
                    rw [← HSE.out] at hob
                    have WB := Lib.hid hown; have oB := Lib.hid hob; have oS := Lib.hid ((oA.out.mono (S' := S) (by simp)).trans hob (fun x h => .inl h))
                    clear hown hob
                    simp only [wpList, nrm]
                    refine wpAnyC_next [9] (by kernel_rfl) (by simp) (.inr (onlyC oS.out)) ?_
                    simp only [List.mem_cons, List.not_mem_nil, or_false, forall_eq]
                    refine wpOp_one rfl ?_
                    go_wp2
                    simp only [nrm]
                    refine wpAnyC_next [10] (by kernel_rfl) (by simp) (.inr (onlyC oS.out)) ?_
                    simp only [List.mem_cons, List.not_mem_nil, or_false, forall_eq]
                    refine wpOp_one rfl ?_
                    go_wp2
                    simp only [nrm]
                    refine wpAnyC_next [11] (by kernel_rfl) (by simp) (.inr (onlyC oS.out)) ?_
                    simp only [List.mem_cons, List.not_mem_nil, or_false, forall_eq]
                    refine wpOp_one rfl ?_
                    go_wp2
                    simp only [nrm]
                    refine wpAnyC_next [12] (by kernel_rfl) (by simp) (.inr (onlyC oS.out)) ?_
                    simp only [List.mem_cons, List.not_mem_nil, or_false, forall_eq]
                    refine wpOp_one rfl ?_
                    have BP := Lib.hid (oS.out.got R6.out.box hbS)
                    have lp := got_lt BP.out
                    have qc := cell_got BP.out 0; have fq := frozen_got BP.out 0
                    go_wp2
                    simp only [nrm]
                    refine wpAnyC_done (by kernel_rfl) (.inl (late_of (by kernel_rfl))) ⟨(g9, cap9), rfl, ?_, ?_⟩
                    · refine (Ob.row (S := S) OA.out oB.out (fun k hk => ?_)).setCell (.inl (by simp)) _
                      rw [HSE.out] at hk
                      exact RA.out.nd.blockC (by simpa using hk)
                    · rw [HSE.out] at oB
                      exact RA.out.addN (x' := (⟨{ x.sc with nd := x.sc.nd ++ [⟨0, [], m1, false, 0, m2, []⟩] }, x.at_⟩ : SSt)) oB.out WB.out ⟨rfl, rfl, rfl, rfl, rfl, rfl⟩ ((Only.refl [b] wb).setCell (.inl (by simp)) _) (setCell_got _ BP.out) rfl rfl rfl
              · refine wpAnyC_next [8] (by kernel_rfl) (by simp) (.inr (onlyC (Only.refl [] w4).drew)) ?_
                simp only [List.mem_cons, List.not_mem_nil, or_false, forall_eq]
                refine wpOp_one rfl ?_
                go_wp2
                simp only [nrm]
                refine allocd_abs (G := wpAnyC _ _ _ _ _ _ _ _ _) ?_
                intro w5 hn5 ho5 hs5
                have M5 := Lib.hid hn5; have o25 := Lib.hid ho5
                clear hn5 hs5 ho5
                refine wpAnyC_next [9] (by kernel_rfl) (by simp) (.inr (onlyC o25.out)) ?_
                simp only [List.mem_cons, List.not_mem_nil, or_false, forall_eq]
                refine wpOp_one rfl ?_
                have la := got_lt M5.out
                have fa0 := frozen_got M5.out 0; have ca0 := cell_got M5.out 0
                have fa1 := frozen_got M5.out 1; have ca1 := cell_got M5.out 1
                have fa2 := frozen_got M5.out 2; have ca2 := cell_got M5.out 2
                have fa3 := frozen_got M5.out 3; have ca3 := cell_got M5.out 3
                have fa4 := frozen_got M5.out 4; have ca4 := cell_got M5.out 4
                have fa5 := frozen_got M5.out 5; have ca5 := cell_got M5.out 5
                have fa6 := frozen_got M5.out 6; have ca6 := cell_got M5.out 6
                go_wp2
                simp only [nrm]
                clear la fa0 ca0 fa1 ca1 fa2 ca2 fa3 ca3 fa4 ca4 fa5 ca5 fa6 ca6
                have o2 : Only [w4.heap.size] w5 (((((((w5.setCell ⟨w4.heap.size, 0, none⟩ (.int .i64 0)).setCell ⟨w4.heap.size, 1, none⟩ (.slice none 0 0)).setCell ⟨w4.heap.size, 2, none⟩ (.int .i64 m1)).setCell ⟨w4.heap.size, 3, none⟩ (.bool false)).setCell ⟨w4.heap.size, 4, none⟩ (.int .i64 0)).setCell ⟨w4.heap.size, 5, none⟩ (.int .i64 m2)).setCell ⟨w4.heap.size, 6, none⟩ (.slice none 0 0)) := ((((((((Only.refl _ w5).setCell (.inl (by simp)) _).setCell (.inl (by simp)) _).setCell (.inl (by simp)) _).setCell (.inl (by simp)) _).setCell (.inl (by simp)) _).setCell (.inl (by simp)) _).setCell (.inl (by simp)) _)
                have o3 := o25.out.trans o2 (by simp)
                exact wpAnyC_done (by kernel_rfl) (.inr (onlyC o3)) ⟨w4.heap.size, rfl, (setCell_got _ (setCell_got _ (setCell_got _ (setCell_got _ (setCell_got _ (setCell_got _ (setCell_got _ M5.out))))))), o3, Nat.le_refl _⟩
            · have dA : (m0 == (ns.length : Int)) = false := by simp [hm0]
              have dAn : (m0 != (ns.length : Int)) = true := by simp [hm0]
              have HQ : Hid (res = none) := Lib.hid (by rw [HM2.out]; exact if_neg (fun q => hm0 (by rw [HXN.out] at q; exact q)))
              clear hm0 HM2
              go_wp2_with fail
              refine wp_region_grown [0, 1, 2, 3, 4, 5, 6, 7, 8, 9, 10, 11, 12, 13] [] (by kernel_rfl) (by kernel_rfl) ?_
              simp only [pick, List.map_cons, List.map_nil, List.getD_cons_succ, List.getD_cons_zero]
              iterate 1 (refine wpQuiet_step (fun K hK => ?_); go_simp; refine hK _ ?_; clear hK K)
              repeat (go_big_quiet_step (fail))
              refine wpQuiet_nil ?_
              intro w4 hw4
              have o4 := only_of_plus hw4
              clear hw4
              have O4 := Lib.hid (O2.out.nil_trans o4)
              go_wp2
              go_ret
              rw [HQ.out]
              exact ⟨rfl, O4.out⟩
        · refine wpAnyC_next [9] (by kernel_rfl) (by simp) (.inr (onlyC (Only.refl [] w).drew)) ?_
          simp only [List.mem_cons, List.not_mem_nil, or_false, forall_eq]
          refine wpOp_one rfl ?_
          go_wp2
          simp only [nrm]
          refine allocd_abs (G := wpAnyC _ _ _ _ _ _ _ _ _) ?_
          intro wa hna hoa hsa
          have hrow : RowAt strC 9 1 wa w.heap.size 3 [i, t, s] := ⟨_, hna, rfl, Nat.le_refl _, by decide, rfl⟩
          have HN := Lib.hid (pNumbers (hrow.vrow strC_len rfl) (by simp) (by intro y hy; simp only [List.mem_cons, List.not_mem_nil, or_false] at hy; rcases hy with rfl | rfl | rfl <;> assumption) (HE.out.kept hoa))
          have oA := Lib.hid hoa
          clear hna hsa hoa hrow
          refine wpAnyC_next [10] (by kernel_rfl) (by simp) (.inl (late_of (by kernel_rfl))) ?_
          simp only [List.mem_cons, List.not_mem_nil, or_false, forall_eq]
          refine wpOp_one rfl ?_
          go_wp2_with fail
          refine HN.out.mono ?_
          rintro e wc ⟨hv4, ho4⟩
          obtain ⟨v0, v1, rfl⟩ := numsR_form hv4
          have HV4 : Hid (NumsR (numsO [i, t, s]) w (.returned (.tuple #[v0, v1])) wc) := Lib.hid (hv4.back oA.out)
          have HO4 := Lib.hid (oA.out.nil_trans ho4)
          clear hv4 ho4 HN
          go_wp2
          simp only [nrm]
          refine wpAnyC_next [11] (by kernel_rfl) (by simp) (.inl (late_of (by kernel_rfl))) ?_
          simp only [List.mem_cons, List.not_mem_nil, or_false, forall_eq]
          refine wpOp_one rfl ?_
          go_wp2
          simp only [nrm]
          refine wpAnyC_next [12, 13] (by kernel_rfl) (by simp) (.inl (late_of (by kernel_rfl))) ?_
          simp only [List.mem_cons, List.not_mem_nil, or_false, forall_eq_or_imp, forall_eq]
          refine ⟨?_, ?_⟩
          · refine wpOp_one rfl ?_
            go_wp2
            simp only [nrm]
            refine wpAnyC_next [13, 14] (by kernel_rfl) (by simp) (.inl (late_of (by kernel_rfl))) ?_
            simp only [List.mem_cons, List.not_mem_nil, or_false, forall_eq_or_imp, forall_eq]
            refine ⟨?_, ?_⟩
            · refine wpOp_one rfl ?_
              go_wp2
              simp only [nrm]
              refine wpAnyC_next [14] (by kernel_rfl) (by simp) (.inl (late_of (by kernel_rfl))) ?_
              simp only [List.mem_cons, List.not_mem_nil, or_false, forall_eq]
              refine wpOp_one rfl ?_
              go_wp2
              simp only [nrm]
              refine wpAnyC_next [15] (by kernel_rfl) (by simp) (.inl (late_of (by kernel_rfl))) ?_
              simp only [List.mem_cons, List.not_mem_nil, or_false, forall_eq]
              refine wpOp_one rfl ?_
              go_wp2
              simp only [nrm]
              refine wpAnyC_done (by kernel_rfl) (.inl (late_of (by kernel_rfl))) ⟨(v0, v1), ?_, HV4.out, HO4.out⟩
              simp only [Act.put, List.setIfInBounds_toArray, List.set_cons_succ, List.set_cons_zero]
            · refine wpOp_one rfl ?_
              go_wp2
              simp only [nrm]
              refine wpAnyC_next [13] (by kernel_rfl) (by simp) (.inl (late_of (by kernel_rfl))) ?_
              simp only [List.mem_cons, List.not_mem_nil, or_false, forall_eq]
              refine wpOp_one rfl ?_
              go_wp2
              simp only [nrm]
              refine wpAnyC_next [15] (by kernel_rfl) (by simp) (.inl (late_of (by kernel_rfl))) ?_
              simp only [List.mem_cons, List.not_mem_nil, or_false, forall_eq]
              refine wpOp_one rfl ?_
              go_wp2
              simp only [nrm]
              refine wpAnyC_done (by kernel_rfl) (.inl (late_of (by kernel_rfl))) ⟨(v0, v1), ?_, HV4.out, HO4.out⟩
              simp only [Act.put, List.setIfInBounds_toArray, List.set_cons_succ, List.set_cons_zero]
          · refine wpOp_one rfl ?_
            go_wp2
            simp only [nrm]
            refine wpAnyC_next [12] (by kernel_rfl) (by simp) (.inl (late_of (by kernel_rfl))) ?_
            simp only [List.mem_cons, List.not_mem_nil, or_false, forall_eq]
            refine wpOp_one rfl ?_
            go_wp2
            simp only [nrm]
            refine wpAnyC_next [14] (by kernel_rfl) (by simp) (.inl (late_of (by kernel_rfl))) ?_
            simp only [List.mem_cons, List.not_mem_nil, or_false, forall_eq]
            refine wpOp_one rfl ?_
            go_wp2
            simp only [nrm]
            refine wpAnyC_next [15] (by kernel_rfl) (by simp) (.inl (late_of (by kernel_rfl))) ?_
            simp only [List.mem_cons, List.not_mem_nil, or_false, forall_eq]
            refine wpOp_one rfl ?_
            go_wp2
            simp only [nrm]
            refine wpAnyC_done (by kernel_rfl) (.inl (late_of (by kernel_rfl))) ⟨(v0, v1), ?_, HV4.out, HO4.out⟩
            simp only [Act.put, List.setIfInBounds_toArray, List.set_cons_succ, List.set_cons_zero]
      · have HQ : Hid (res = none) := Lib.hid (by rw [HRD.out]; exact if_neg (fun q => hw4 q.2.2))
        have tA : (bstr x2).toList = [116, 111, 108] := by rw [Lib.toList_data, hw2]; rfl
        generalize bstr x2 = S2 at t2 tA
        have tB : ¬ (bstr x4).toList = [115, 116, 97, 114, 116] := fun q => hw4 (by rw [Lib.toList_data] at q; exact q)
        have tBb : ((bstr x4).toList == [115, 116, 97, 114, 116]) = false := beq_eq_false_iff_ne.2 tB
        have tBn : (!(bstr x4).toList == [115, 116, 97, 114, 116]) = true := by rw [tBb]; rfl
        generalize bstr x4 = S4 at t4 tB tBb tBn
        clear hw2 hw4 HRD
        go_wp2
        go_ret
        rw [HQ.out]
        exact ⟨rfl, H1.out⟩
    · have HQ : Hid (res = none) := Lib.hid (by rw [HRD.out]; exact if_neg (fun q => hw2 q.2.1))
      have tA : ¬ (bstr x2).toList = [116, 111, 108] := fun q => hw2 (by rw [Lib.toList_data] at q; exact q)
      have tAb : ((bstr x2).toList == [116, 111, 108]) = false := beq_eq_false_iff_ne.2 tA
      have tAn : (!(bstr x2).toList == [116, 111, 108]) = true := by rw [tAb]; rfl
      generalize bstr x2 = S2 at t2 tA tAb tAn
      clear hw2 HRD
      go_wp2
      go_ret
      rw [HQ.out]
      exact ⟨rfl, H1.out⟩
set_option maxRecDepth 100000 in
set_option maxHeartbeats 8000000 in
theorem kNode8 {W0 : Two} {w : World} {b : Nat} {x : SSt} {p : Option Addr} {cap : Nat} {wd i x2 t x4 s x6 e : List UInt8} (h : RdX W0 b w x) (hsz : SLe 100000 x) (hv : VRow strC 1 w p 8 cap [wd, i, x2, t, x4, s, x6, e]) (hl : ∀ y ∈ ([wd, i, x2, t, x4, s, x6, e] : List (List UInt8)), y.length ≤ 1000000) (he : Env w) (hst : x.at_ = 2 ∨ x.at_ = 4 ∨ x.at_ = 5) :
    Calls Tryd.prog 49 #[.pointer (some ⟨b, 0, none⟩), .slice p 8 cap] w fun e' w' => RdR W0 b (rdNode x [i, x2, t, x4, s, x6, e]) e' w' := by
  obtain ⟨hb0, hb1, ns, ls, vn, vl, vf, hR⟩ := h
  have hxn : x.sc.nd.length = ns.length := by rw [hR.hn, List.length_map]
  have hfl : ns.length ≤ 100000 := by rw [← hxn]; exact hsz.nd
  have HRD : Hid (rdNode x [i, x2, t, x4, s, x6, e] = if (x.at_ = 2 ∨ x.at_ = 4 ∨ x.at_ = 5) ∧ x2 = wTol ∧ x4 = wStart then (match numsO [i, t, s] with
  | some [a, b, c] => if a = x.sc.nd.length then (match numO e with
    | some d => if x6 = wRef then some (addN x ⟨0, [], b, true, d, c, []⟩) else none
    | none => none) else none
  | _ => none) else none) := Lib.hid rfl
  generalize rdNode x [i, x2, t, x4, s, x6, e] = res at HRD ⊢
  have HR := Lib.hid hR; have HV := Lib.hid hv; have HE := Lib.hid he; have H0 := Lib.hid hb0; have H1 := Lib.hid hb1
  have hl1 := hl i (by simp)
  have hl3 := hl t (by simp)
  have hl5 := hl s (by simp)
  have hl7 := hl e (by simp)
  obtain ⟨bw, off, hp, _, lw⟩ := VRow.str (l := [wd, i, x2, t, x4, s, x6, e]) HV.out (Only.refl [] w) (k := 0) (by simp)
  subst hp
  obtain ⟨_, _, hp1, s1, _⟩ := VRow.str (l := [wd, i, x2, t, x4, s, x6, e]) HV.out (Only.refl [] w) (k := 1) (by simp)
  cases hp1
  have t1 : w.cell? ⟨bw, off + 1, none⟩ = some (.string (bstr i)) := s1
  clear s1
  obtain ⟨_, _, hp2, s2, _⟩ := VRow.str (l := [wd, i, x2, t, x4, s, x6, e]) HV.out (Only.refl [] w) (k := 2) (by simp)
  cases hp2
  have t2 : w.cell? ⟨bw, off + 2, none⟩ = some (.string (bstr x2)) := s2
  clear s2
  obtain ⟨_, _, hp3, s3, _⟩ := VRow.str (l := [wd, i, x2, t, x4, s, x6, e]) HV.out (Only.refl [] w) (k := 3) (by simp)
  cases hp3
  have t3 : w.cell? ⟨bw, off + 3, none⟩ = some (.string (bstr t)) := s3
  clear s3
  obtain ⟨_, _, hp4, s4, _⟩ := VRow.str (l := [wd, i, x2, t, x4, s, x6, e]) HV.out (Only.refl [] w) (k := 4) (by simp)
  cases hp4
  have t4 : w.cell? ⟨bw, off + 4, none⟩ = some (.string (bstr x4)) := s4
  clear s4
  obtain ⟨_, _, hp5, s5, _⟩ := VRow.str (l := [wd, i, x2, t, x4, s, x6, e]) HV.out (Only.refl [] w) (k := 5) (by simp)
  cases hp5
  have t5 : w.cell? ⟨bw, off + 5, none⟩ = some (.string (bstr s)) := s5
  clear s5
  obtain ⟨_, _, hp6, s6, _⟩ := VRow.str (l := [wd, i, x2, t, x4, s, x6, e]) HV.out (Only.refl [] w) (k := 6) (by simp)
  cases hp6
  have t6 : w.cell? ⟨bw, off + 6, none⟩ = some (.string (bstr x6)) := s6
  clear s6
  obtain ⟨_, _, hp7, s7, _⟩ := VRow.str (l := [wd, i, x2, t, x4, s, x6, e]) HV.out (Only.refl [] w) (k := 7) (by simp)
  cases hp7
  have t7 : w.cell? ⟨bw, off + 7, none⟩ = some (.string (bstr e)) := s7
  clear s7
  have HXN := Lib.hid hxn; have HST := Lib.hid hst
  have hcap := hv.le
  have q5 := cell_got HR.out.box 5; have lq := got_lt HR.out.box
  clear hR hv he hl hb0 hb1 hsz hxn hst
  go_enter Tryd.func49, Tryd.ntmps49
  go_upto_region 1 with (fail)
  go_cut [27] (fun u27 wx => u27 = .bool false ∧ w = wx)
  case first =>
    rcases HST.out with h | h | h
    · have e2 : ((x.at_ : Int) == 2) = true := by rw [beq_iff_eq]; omega
      have e2n : ((x.at_ : Int) != 2) = false := by rw [bne_eq_false_iff_eq]; omega
      have e4 : ((x.at_ : Int) == 4) = false := by rw [beq_eq_false_iff_ne]; omega
      have e4n : ((x.at_ : Int) != 4) = true := by rw [bne_iff_ne]; omega
      have e5 : ((x.at_ : Int) == 5) = false := by rw [beq_eq_false_iff_ne]; omega
      have e5n : ((x.at_ : Int) != 5) = true := by rw [bne_iff_ne]; omega
      clear h
      go_wp2_with fail
      go_meet
      exact ⟨rfl, rfl⟩
    · have e2 : ((x.at_ : Int) == 2) = false := by rw [beq_eq_false_iff_ne]; omega
      have e2n : ((x.at_ : Int) != 2) = true := by rw [bne_iff_ne]; omega
      have e4 : ((x.at_ : Int) == 4) = true := by rw [beq_iff_eq]; omega
      have e4n : ((x.at_ : Int) != 4) = false := by rw [bne_eq_false_iff_eq]; omega
      have e5 : ((x.at_ : Int) == 5) = false := by rw [beq_eq_false_iff_ne]; omega
      have e5n : ((x.at_ : Int) != 5) = true := by rw [bne_iff_ne]; omega
      clear h
      go_wp2_with fail
      go_meet
      exact ⟨rfl, rfl⟩
    · have e2 : ((x.at_ : Int) == 2) = false := by rw [beq_eq_false_iff_ne]; omega
      have e2n : ((x.at_ : Int) != 2) = true := by rw [bne_iff_ne]; omega
      have e4 : ((x.at_ : Int) == 4) = false := by rw [beq_eq_false_iff_ne]; omega
      have e4n : ((x.at_ : Int) != 4) = true := by rw [bne_iff_ne]; omega
      have e5 : ((x.at_ : Int) == 5) = true := by rw [beq_iff_eq]; omega
      have e5n : ((x.at_ : Int) != 5) = false := by rw [bne_eq_false_iff_eq]; omega
      clear h
      go_wp2_with fail
      go_meet
      exact ⟨rfl, rfl⟩
  case rest =>
    obtain ⟨rfl, rfl⟩ := hcut
    by_cases hw2 : x2 = wTol
    · by_cases hw4 : x4 = wStart
      · have tA : (bstr x2).toList = [116, 111, 108] := by rw [Lib.toList_data, hw2]; rfl
        generalize bstr x2 = S2 at t2 tA
        have tB : (bstr x4).toList = [115, 116, 97, 114, 116] := by rw [Lib.toList_data, hw4]; rfl
        generalize bstr x4 = S4 at t4 tB
        have HM : Hid (res = (match numsO [i, t, s] with
          | some [a, b, c] => if a = x.sc.nd.length then (match numO e with
            | some d => if x6 = wRef then some (addN x ⟨0, [], b, true, d, c, []⟩) else none
            | none => none) else none
          | _ => none)) := Lib.hid (by rw [HRD.out]; exact if_pos ⟨HST.out, hw2, hw4⟩)
        clear HRD hw2 hw4
        clear q5
        have lwk := lw
        go_upto_region 6 with (fail)
        refine wp_region_calm2 [0, 1, 2, 3, 4, 5, 6, 7, 8] [9, 10, 11, 12, 13, 14, 15] (OnlyC ([] : List Nat) w) (by kernel_rfl) (by kernel_rfl) ?_
        simp only [pick, List.map_cons, List.map_nil, List.getD_cons_succ, List.getD_cons_zero]
        iterate 9 (refine wpCalm_step (fun K hK => ?_); go_simp; refine hK _ ?_; clear hK K)
        refine wpCalm_nil ?_
        clear t1 t3 t5 lw tA tB
        refine Rest.by (X := Value × Value) (fun y a => ((((((a.put (some 60) (.slice (some ⟨w.heap.size, 0, none⟩) 3 3)).put (some 61) (.tuple #[y.1, y.2])).put (some 50) (.tuple #[y.1, y.2])).put (some 62) y.1).put (some 63) y.2).put (some 6) y.1).put (some 7) y.2) (fun y w' => NumsR (numsO [i, t, s]) w (.returned (.tuple #[y.1, y.2])) w' ∧ Only [] w w') ?_ ?_
        · rintro ⟨v0, v1⟩ wc ⟨hv4, ho4⟩
          simp only [Act.put, List.setIfInBounds_toArray, List.set_cons_succ, List.set_cons_zero]
          dsimp only at hv4
          have R2 := Lib.hid (HR.out.kept ho4); have O2 := Lib.hid (H1.out.nil_trans ho4); have HO2 := Lib.hid ho4
          have HVN : Hid (∀ k ∈ vn.ownBlock.toList, k < w.heap.size) := Lib.hid (fun k hk => by obtain ⟨_, _, hq⟩ := HR.out.nd.block (by simpa using hk); exact hq.lt)
          have HRB : Hid (b < w.heap.size) := Lib.hid (got_lt HR.out.box)
          have HWB : Hid (bw < w.heap.size) := Lib.hid lwk
          have HSZ := Lib.hid ho4.size
          clear ho4 HR
          cases hx : numsO [i, t, s] with
          | none =>
            rw [hx] at hv4
            obtain ⟨rfl, rfl⟩ := numsR_no hv4
            have HQ : Hid (res = none) := Lib.hid (by rw [HM.out, hx])
            clear hv4 hx HM
            have q0 := cell_got R2.out.box 0; have lq := got_lt R2.out.box
            obtain ⟨pn0, cn0, hvn0, _⟩ := R2.out.nd.vrow ndC_len
            subst hvn0
            go_wp2_with fail
            refine wp_region_grown [0, 1, 2, 3, 4, 5, 6, 7, 8, 9, 10, 11, 12, 13] [] (by kernel_rfl) (by kernel_rfl) ?_
            simp only [pick, List.map_cons, List.map_nil, List.getD_cons_succ, List.getD_cons_zero]
            iterate 1 (refine wpQuiet_step (fun K hK => ?_); go_simp; refine hK _ ?_; clear hK K)
            repeat (go_big_quiet_step (fail))
            refine wpQuiet_nil ?_
            intro w4 hw4
            have o4 := only_of_plus hw4
            clear hw4
            have O4 := Lib.hid (O2.out.nil_trans o4)
            go_wp2
            go_ret
            rw [HQ.out]
            exact ⟨rfl, O4.out⟩
          | some ms =>
            rw [hx] at hv4
            obtain ⟨g, rfl, rfl, hrow⟩ := numsR_yes hv4
            have hml := numsO_len hx
            obtain ⟨m0, m1, m2, rfl⟩ : ∃ m0 m1 m2, ms = [m0, m1, m2] := by
              rcases ms with _ | ⟨m0, _ | ⟨m1, _ | ⟨m2, _ | ⟨q, r⟩⟩⟩⟩
              · simp at hml
              · simp at hml
              · simp at hml
              · exact ⟨m0, m1, m2, rfl⟩
              · simp at hml
            have HM2 : Hid (res = if m0 = x.sc.nd.length then (match numO e with
              | some d => if x6 = wRef then some (addN x ⟨0, [], m1, true, d, m2, []⟩) else none
              | none => none) else none) := Lib.hid (by rw [HM.out, hx])
            have N2 := Lib.hid hrow
            have c0 : wc.cell? ⟨g, 0, none⟩ = some (.int .i64 m0) := hrow.cell (i := 0) (j := 0) itC_len rfl (by decide)
            have lg := hrow.lt
            have q0 := cell_got R2.out.box 0; have lq := got_lt R2.out.box
            obtain ⟨pn0, cn0, hvn0, _⟩ := R2.out.nd.vrow ndC_len
            subst hvn0
            clear hrow hml hx hv4 HM
            by_cases hm0 : m0 = (ns.length : Int)
            · have dA : (m0 == (ns.length : Int)) = true := by simp [hm0]
              have dAn : (m0 != (ns.length : Int)) = false := by simp [hm0]
              have HM : Hid (res = (match numO e with
              | some d => if x6 = wRef then some (addN x ⟨0, [], m1, true, d, m2, []⟩) else none
              | none => none)) := Lib.hid (by rw [HM2.out]; exact if_pos (by rw [HXN.out]; exact hm0))
              clear hm0 HM2
              go_wp2_with fail
              refine wp_region_grown [0, 1, 2, 3, 4, 5, 6, 7, 8, 9, 10, 11, 12, 13] [] (by kernel_rfl) (by kernel_rfl) ?_
              simp only [pick, List.map_cons, List.map_nil, List.getD_cons_succ, List.getD_cons_zero]
              iterate 1 (refine wpQuiet_step (fun K hK => ?_); go_simp; refine hK _ ?_; clear hK K)
              repeat (go_big_quiet_step (fail))
              refine wpQuiet_nil ?_
              intro w4 hw4
              have o4 := only_of_plus hw4
              clear hw4
              have R4 := Lib.hid (R2.out.kept o4); have O4 := Lib.hid (O2.out.nil_trans o4); have N4 := Lib.hid (N2.out.kept o4 (by simp)); have S4 := Lib.hid o4.size
              have o4' := o4
              clear o4 c0 lg q0 lq R2 O2 N2 dA dAn
              have O4' := Lib.hid o4'
              clear o4'
              go_wp2_with fail
              have c1 : w4.cell? ⟨g, 1, none⟩ = some (.int .i64 m1) := N4.out.cell (i := 1) (j := 0) itC_len rfl (by decide)
              have c2 : w4.cell? ⟨g, 2, none⟩ = some (.int .i64 m2) := N4.out.cell (i := 2) (j := 0) itC_len rfl (by decide)
              have lg := N4.out.lt
              refine wp_region_calm2 [0, 1, 2, 3, 4, 5, 6, 7] [9] (OnlyC ([] : List Nat) w4) (by kernel_rfl) (by kernel_rfl) ?_
              simp only [pick, List.map_cons, List.map_nil, List.getD_cons_succ, List.getD_cons_zero]
              iterate 8 (refine wpCalm_step (fun K hK => ?_); go_simp; refine hK _ ?_; clear hK K)
              refine wpCalm_nil ?_
              refine Rest.by (X := Nat) (fun y a => a.put (some 8) (.pointer (some ⟨y, 0, none⟩))) (fun y w' => w'.heap[y]? = some (.cells #[.int .i64 0, .slice none 0 0, .int .i64 m1, .bool true, .int .i64 0, .int .i64 m2, .slice none 0 0] 44 (0, 0)) ∧ Only [] w4 w' ∧ w4.heap.size ≤ y) ?_ ?_
              · rintro eb w5 ⟨hbn, hon, hyn⟩
                simp only [Act.put, List.setIfInBounds_toArray, List.set_cons_succ, List.set_cons_zero]
                have EB := Lib.hid hbn; have PE := Lib.hid hon; have YE := Lib.hid hyn
                clear hbn hon hyn c1 c2 lg
                have R5 := Lib.hid (R4.out.kept PE.out); have O5 := Lib.hid (O4.out.nil_trans PE.out)
                obtain ⟨_, _, hq6, s6, lw9⟩ := VRow.str (l := [wd, i, x2, t, x4, s, x6, e]) HV.out ((HO2.out.nil_trans O4'.out).nil_trans PE.out) (k := 6) (by simp)
                cases hq6
                obtain ⟨_, _, hq7, s7, _⟩ := VRow.str (l := [wd, i, x2, t, x4, s, x6, e]) HV.out ((HO2.out.nil_trans O4'.out).nil_trans PE.out) (k := 7) (by simp)
                cases hq7
                have t6 : w5.cell? ⟨bw, off + 6, none⟩ = some (.string (bstr x6)) := s6
                have t7 : w5.cell? ⟨bw, off + 7, none⟩ = some (.string (bstr e)) := s7
                have HC := Lib.hid (pNumber e hl7 w5 (HE.out.kept ((HO2.out.nil_trans O4'.out).nil_trans PE.out)))
                have OW := Lib.hid ((HO2.out.nil_trans O4'.out).nil_trans PE.out)
                clear s6 s7 R4 O4 N4 t6
                go_wp2_with fail
                refine HC.out.mono ?_
                rintro e5 w7 ⟨hvs, ho7⟩
                have R7 := Lib.hid (R5.out.kept ho7); have O7 := Lib.hid (O5.out.nil_trans ho7); have E7 := Lib.hid (ho7.got EB.out (by simp)); have OW7 := Lib.hid (OW.out.nil_trans ho7)
                obtain ⟨V, ok, rfl, hok⟩ : ∃ (V : Int) (ok : Bool), e5 = .returned (.tuple #[.int .i64 V, .bool ok]) ∧ ((ok = true ∧ numO e = some V) ∨ (ok = false ∧ numO e = none)) := by
                  cases hq : numO e with
                  | none => rw [hq] at hvs; obtain ⟨V, h⟩ := hvs; exact ⟨V, false, h, .inr ⟨rfl, rfl⟩⟩
                  | some u => rw [hq] at hvs; exact ⟨u, true, hvs, .inl ⟨rfl, rfl⟩⟩
                have HOK := Lib.hid hok
                have hbe : b ≠ eb := by have h1 := YE.out; have h2 := HRB.out; have h3 := HSZ.out; have h4 := S4.out; omega
                have hve : (Value.slice pn0 ns.length cn0).ownBlock ≠ some eb := fun hk => by have := HVN.out eb (by rw [hk]; simp); have h1 := YE.out; have h3 := HSZ.out; have h4 := S4.out; omega
                clear hok hvs ho7 HC t7 lw9 R5 O5 EB OW
                have fe4 := frozen_got E7.out 4; have ce4 := cell_got E7.out 4; have lee := got_lt E7.out
                go_upto_region 12 with (fail)
                refine wabs (G := fun w0 => Code.wp _ _ _ _ w0) (R := fun w0 => w0.heap[eb]? = some (.cells #[.int .i64 0, .slice none 0 0, .int .i64 m1, .bool true, .int .i64 V, .int .i64 m2, .slice none 0 0] 44 (0, 0)) ∧ Only [eb] w7 w0) ⟨setCell_got _ E7.out, (Only.refl _ _).setCell (.inl (by simp)) _⟩ ?_
                rintro w6 ⟨hE6, hO6⟩
                have E6 := Lib.hid hE6
                have R6 : Hid (RdW W0.heap.size b w6 x ns ls (.slice pn0 ns.length cn0) vl vf) := Lib.hid (rd_otherN R7.out E7.out hO6 hbe hve (by decide))
                have hwe : bw ≠ eb := by have h1 := YE.out; have h2 := HWB.out; have h3 := HSZ.out; have h4 := S4.out; omega
                have O6 : Hid (Ob b W0 w6) := Lib.hid (O7.out.row hO6 (fun k hk => by rw [List.mem_singleton] at hk; subst hk; exact ⟨by have h1 := YE.out; have h2 := H1.out.size; have h3 := HSZ.out; have h4 := S4.out; omega, _, _, E7.out⟩))
                obtain ⟨_, _, hq6, s6, lw8⟩ := VRow.str (l := [wd, i, x2, t, x4, s, x6, e]) HV.out OW7.out (k := 6) (by simp)
                cases hq6
                have t6 : w6.cell? ⟨bw, off + 6, none⟩ = some (.string (bstr x6)) := by rw [hO6.cell lw8 (by simpa using hwe)]; exact s6
                have lw9 : bw < w6.heap.size := Nat.lt_of_lt_of_le lw8 hO6.size
                clear hE6 hO6 fe4 ce4 lee R7 O7 E7 s6 lw8
                rcases HOK.out with ⟨rfl, hq⟩ | ⟨rfl, hq⟩
                · by_cases hw6 : x6 = wRef
                  · have HQ : Hid (res = some (addN x ⟨0, [], m1, true, V, m2, []⟩)) := Lib.hid (by rw [HM.out, hq]; exact if_pos hw6)
                    have tC : (bstr x6).toList = [114, 101, 102] := by rw [Lib.toList_data, hw6]; rfl
                    generalize bstr x6 = S6 at t6 tC
                    clear hq hw6 HM
                    go_upto_region 14 with (fail)
                    clear t6 tC lw9
                    have q0 := cell_got R6.out.box 0; have lq := got_lt R6.out.box
                    have e0 := cell_got E6.out 0
                    have e1 := cell_got E6.out 1
                    have e2 := cell_got E6.out 2
                    have e3 := cell_got E6.out 3
                    have e4 := cell_got E6.out 4
                    have e5 := cell_got E6.out 5
                    have e6 := cell_got E6.out 6
                    have le := got_lt E6.out
                    obtain ⟨S, hS⟩ : ∃ S, S = (Value.slice pn0 ns.length cn0).ownBlock.toList := ⟨_, rfl⟩
                    have hbS : b ∉ S := fun hm => by rw [hS] at hm; exact R6.out.nd.ne_box R6.out.box (by decide) (by simpa using hm)
                    have heS : eb ∉ S := fun hm => by rw [hS] at hm; have := HVN.out eb hm; have h2 := YE.out; have h3 := HSZ.out; have h4 := S4.out; omega
                    have HSE := Lib.hid hS
                    clear hS
                    go_wp2_with fail
                    refine wp_region_calm2 [0, 1, 2, 3, 4, 5, 6] [9, 10, 11, 12] (OnlyC S w6) (by kernel_rfl) (by kernel_rfl) ?_
                    simp only [pick, List.map_cons, List.map_nil, List.getD_cons_succ, List.getD_cons_zero]
                    iterate 7 (refine wpCalm_step (fun K hK => ?_); go_simp; refine hK _ ?_; clear hK K)
                    refine wpCalm_nil ?_
                    clear q0 lq e0 e1 e2 e3 e4 e5 e6 le
                    refine Rest.by (X := Nat × Nat) (fun y a => ((((a.put (some 110) (.slice (some ⟨w6.heap.size, 0, none⟩) 1 1)).put (some 111) (.slice (some ⟨y.1, 0, none⟩) (ns.length + 1) y.2)).put (some 112) (.pointer (some ⟨b, 0, none⟩))).put (some 113) (.pointer (some ⟨b, 0, none⟩))).put (some 114) (.pointer (some ⟨b, 0, none⟩)))
                      (fun y w' => Ob b W0 w' ∧ RdW W0.heap.size b w' (⟨{ x.sc with nd := x.sc.nd ++ [⟨0, [], m1, true, V, m2, []⟩] }, x.at_⟩ : SSt) (ns ++ [⟨⟨0, [], m1, true, V, m2, []⟩, none, 0, none, 0⟩]) ls (.slice (some ⟨y.1, 0, none⟩) (ns.length + 1) y.2) vl vf) ?_ ?_
                    · rintro ⟨g9, cap9⟩ w9 ⟨ho9, hr9⟩
                      simp only [Act.put, List.setIfInBounds_toArray, List.set_cons_succ, List.set_cons_zero]
                      have O9 := Lib.hid ho9; have R9 := Lib.hid hr9
                      clear ho9 hr9
                      have BP := Lib.hid R9.out.box
                      have lp := got_lt BP.out; have q5 := cell_got BP.out 5; have f5 := frozen_got BP.out 5
                      go_wp2
                      go_ret
                      rw [HQ.out]
                      refine ⟨rfl, H0.out, O9.out.setCell (.inl (by simp)) _, ns ++ [⟨⟨0, [], m1, true, V, m2, []⟩, none, 0, none, 0⟩], ls, .slice (some ⟨g9, 0, none⟩) (ns.length + 1) cap9, vl, vf, ?_⟩
                      exact R9.out.cell (x' := addN x ⟨0, [], m1, true, V, m2, []⟩) ((Only.refl [b] w9).setCell (.inl (by simp)) _) (setCell_got _ BP.out) rfl rfl rfl
                    · refine wpAnyC_next [7] (by kernel_rfl) (by simp) (.inr (onlyC (Only.refl S w6).drew)) ?_
                      simp only [List.mem_cons, List.not_mem_nil, or_false, forall_eq]
                      refine wpOp_one rfl ?_
                      go_wp2
                      simp only [nrm]
                      refine allocd_abs (G := wpAnyC _ _ _ _ _ _ _ _ _) ?_
                      intro wa hna hoa hsa
                      have MA := Lib.hid hna; have oA := Lib.hid hoa; have RA := Lib.hid (R6.out.kept hoa); have OA := Lib.hid (O6.out.nil_trans hoa)
                      clear hna hsa hoa
                      refine wpAnyC_next [8] (by kernel_rfl) (by simp) (.inr (onlyC (oA.out.mono (by simp)))) ?_
                      simp only [List.mem_cons, List.not_mem_nil, or_false, forall_eq]
                      refine wpOp_one rfl ?_
                      refine wpList_append_B (B := W0.heap.size) rfl _ _ 22 rfl 44 (.agg #[.int .i64 0, .slice none 0 0, .int .i64 0, .bool false, .int .i64 0, .int .i64 0, .slice none 0 0]) 7 88 Tryd.underlying22 (by kernel_rfl) rfl (by decide) ndC_len ndC_one ns (Value.slice pn0 ns.length cn0) rfl RA.out.nd w6.heap.size (⟨⟨0, [], m1, true, V, m2, []⟩, none, 0, none, 0⟩ : NdW) rfl (fun j u hj => ?_) (by simp [maxLen]; omega) (by omega) (Nat.le_trans (by have := OA.out.size; omega) (Nat.le_refl _)) ?_
                      · rw [cell_got MA.out]; rw [← hj]; simp [ndC]
                      · intro g9 cap9 wb hown hob _
                        rw [← HSE.out] at hob
                        have WB := Lib.hid hown; have oB := Lib.hid hob; have oS := Lib.hid ((oA.out.mono (S' := S) (by simp)).trans hob (fun x h => .inl h))
                        clear hown hob
                        simp only [wpList, nrm]
                        refine wpAnyC_next [9] (by kernel_rfl) (by simp) (.inr (onlyC oS.out)) ?_
                        simp only [List.mem_cons, List.not_mem_nil, or_false, forall_eq]
                        refine wpOp_one rfl ?_
                        go_wp2
                        simp only [nrm]
                        refine wpAnyC_next [10] (by kernel_rfl) (by simp) (.inr (onlyC oS.out)) ?_
                        simp only [List.mem_cons, List.not_mem_nil, or_false, forall_eq]
                        refine wpOp_one rfl ?_
                        go_wp2
                        simp only [nrm]
                        refine wpAnyC_next [11] (by kernel_rfl) (by simp) (.inr (onlyC oS.out)) ?_
                        simp only [List.mem_cons, List.not_mem_nil, or_false, forall_eq]
                        refine wpOp_one rfl ?_
                        go_wp2
                        simp only [nrm]
                        refine wpAnyC_next [12] (by kernel_rfl) (by simp) (.inr (onlyC oS.out)) ?_
                        simp only [List.mem_cons, List.not_mem_nil, or_false, forall_eq]
                        refine wpOp_one rfl ?_
                        have BP := Lib.hid (oS.out.got R6.out.box hbS)
                        have lp := got_lt BP.out
                        have qc := cell_got BP.out 0; have fq := frozen_got BP.out 0
                        go_wp2
                        simp only [nrm]
                        refine wpAnyC_done (by kernel_rfl) (.inl (late_of (by kernel_rfl))) ⟨(g9, cap9), rfl, ?_, ?_⟩
                        · refine (Ob.row (S := S) OA.out oB.out (fun k hk => ?_)).setCell (.inl (by simp)) _
                          rw [HSE.out] at hk
                          exact RA.out.nd.blockC (by simpa using hk)
                        · rw [HSE.out] at oB
                          exact RA.out.addN (x' := (⟨{ x.sc with nd := x.sc.nd ++ [⟨0, [], m1, true, V, m2, []⟩] }, x.at_⟩ : SSt)) oB.out WB.out ⟨rfl, rfl, rfl, rfl, rfl, rfl⟩ ((Only.refl [b] wb).setCell (.inl (by simp)) _) (setCell_got _ BP.out) rfl rfl rfl
                  · have HQ : Hid (res = none) := Lib.hid (by rw [HM.out, hq]; exact if_neg hw6)
                    have tC : ¬ (bstr x6).toList = [114, 101, 102] := fun q => hw6 (by rw [Lib.toList_data] at q; exact q)
                    have tCb : ((bstr x6).toList == [114, 101, 102]) = false := beq_eq_false_iff_ne.2 tC
                    have tCn : (!(bstr x6).toList == [114, 101, 102]) = true := by rw [tCb]; rfl
                    generalize bstr x6 = S6 at t6 tC tCb tCn
                    clear hq hw6 HM
                    go_wp2
                    go_ret
                    rw [HQ.out]
                    exact ⟨rfl, O6.out⟩
                · have HQ : Hid (res = none) := Lib.hid (by rw [HM.out, hq])
                  clear hq HM
                  go_wp2
                  go_ret
                  rw [HQ.out]
                  exact ⟨rfl, O6.out⟩
              · refine wpAnyC_next [8] (by kernel_rfl) (by simp) (.inr (onlyC (Only.refl [] w4).drew)) ?_
                simp only [List.mem_cons, List.not_mem_nil, or_false, forall_eq]
                refine wpOp_one rfl ?_
                go_wp2
                simp only [nrm]
                refine allocd_abs (G := wpAnyC _ _ _ _ _ _ _ _ _) ?_
                intro w5 hn5 ho5 hs5
                have M5 := Lib.hid hn5; have o25 := Lib.hid ho5
                clear hn5 hs5 ho5
                refine wpAnyC_next [9] (by kernel_rfl) (by simp) (.inr (onlyC o25.out)) ?_
                simp only [List.mem_cons, List.not_mem_nil, or_false, forall_eq]
                refine wpOp_one rfl ?_
                have la := got_lt M5.out
                have fa0 := frozen_got M5.out 0; have ca0 := cell_got M5.out 0
                have fa1 := frozen_got M5.out 1; have ca1 := cell_got M5.out 1
                have fa2 := frozen_got M5.out 2; have ca2 := cell_got M5.out 2
                have fa3 := frozen_got M5.out 3; have ca3 := cell_got M5.out 3
                have fa4 := frozen_got M5.out 4; have ca4 := cell_got M5.out 4
                have fa5 := frozen_got M5.out 5; have ca5 := cell_got M5.out 5
                have fa6 := frozen_got M5.out 6; have ca6 := cell_got M5.out 6
                go_wp2
                simp only [nrm]
                clear la fa0 ca0 fa1 ca1 fa2 ca2 fa3 ca3 fa4 ca4 fa5 ca5 fa6 ca6
                have o2 : Only [w4.heap.size] w5 (((((((w5.setCell ⟨w4.heap.size, 0, none⟩ (.int .i64 0)).setCell ⟨w4.heap.size, 1, none⟩ (.slice none 0 0)).setCell ⟨w4.heap.size, 2, none⟩ (.int .i64 m1)).setCell ⟨w4.heap.size, 3, none⟩ (.bool true)).setCell ⟨w4.heap.size, 4, none⟩ (.int .i64 0)).setCell ⟨w4.heap.size, 5, none⟩ (.int .i64 m2)).setCell ⟨w4.heap.size, 6, none⟩ (.slice none 0 0)) := ((((((((Only.refl _ w5).setCell (.inl (by simp)) _).setCell (.inl (by simp)) _).setCell (.inl (by simp)) _).setCell (.inl (by simp)) _).setCell (.inl (by simp)) _).setCell (.inl (by simp)) _).setCell (.inl (by simp)) _)
                have o3 := o25.out.trans o2 (by simp)
                exact wpAnyC_done (by kernel_rfl) (.inr (onlyC o3)) ⟨w4.heap.size, rfl, (setCell_got _ (setCell_got _ (setCell_got _ (setCell_got _ (setCell_got _ (setCell_got _ (setCell_got _ M5.out))))))), o3, Nat.le_refl _⟩
            · have dA : (m0 == (ns.length : Int)) = false := by simp [hm0]
              have dAn : (m0 != (ns.length : Int)) = true := by simp [hm0]
              have HQ : Hid (res = none) := Lib.hid (by rw [HM2.out]; exact if_neg (fun q => hm0 (by rw [HXN.out] at q; exact q)))
              clear hm0 HM2
              go_wp2_with fail
              refine wp_region_grown [0, 1, 2, 3, 4, 5, 6, 7, 8, 9, 10, 11, 12, 13] [] (by kernel_rfl) (by kernel_rfl) ?_
              simp only [pick, List.map_cons, List.map_nil, List.getD_cons_succ, List.getD_cons_zero]
              iterate 1 (refine wpQuiet_step (fun K hK => ?_); go_simp; refine hK _ ?_; clear hK K)
              repeat (go_big_quiet_step (fail))
              refine wpQuiet_nil ?_
              intro w4 hw4
              have o4 := only_of_plus hw4
              clear hw4
              have O4 := Lib.hid (O2.out.nil_trans o4)
              go_wp2
              go_ret
              rw [HQ.out]
              exact ⟨rfl, O4.out⟩
        · refine wpAnyC_next [9] (by kernel_rfl) (by simp) (.inr (onlyC (Only.refl [] w).drew)) ?_
          simp only [List.mem_cons, List.not_mem_nil, or_false, forall_eq]
          refine wpOp_one rfl ?_
          go_wp2
          simp only [nrm]
          refine allocd_abs (G := wpAnyC _ _ _ _ _ _ _ _ _) ?_
          intro wa hna hoa hsa
          have hrow : RowAt strC 9 1 wa w.heap.size 3 [i, t, s] := ⟨_, hna, rfl, Nat.le_refl _, by decide, rfl⟩
          have HN := Lib.hid (pNumbers (hrow.vrow strC_len rfl) (by simp) (by intro y hy; simp only [List.mem_cons, List.not_mem_nil, or_false] at hy; rcases hy with rfl | rfl | rfl <;> assumption) (HE.out.kept hoa))
          have oA := Lib.hid hoa
          clear hna hsa hoa hrow
          refine wpAnyC_next [10] (by kernel_rfl) (by simp) (.inl (late_of (by kernel_rfl))) ?_
          simp only [List.mem_cons, List.not_mem_nil, or_false, forall_eq]
          refine wpOp_one rfl ?_
          go_wp2_with fail
          refine HN.out.mono ?_
          rintro e wc ⟨hv4, ho4⟩
          obtain ⟨v0, v1, rfl⟩ := numsR_form hv4
          have HV4 : Hid (NumsR (numsO [i, t, s]) w (.returned (.tuple #[v0, v1])) wc) := Lib.hid (hv4.back oA.out)
          have HO4 := Lib.hid (oA.out.nil_trans ho4)
          clear hv4 ho4 HN
          go_wp2
          simp only [nrm]
          refine wpAnyC_next [11] (by kernel_rfl) (by simp) (.inl (late_of (by kernel_rfl))) ?_
          simp only [List.mem_cons, List.not_mem_nil, or_false, forall_eq]
          refine wpOp_one rfl ?_
          go_wp2
          simp only [nrm]
          refine wpAnyC_next [12, 13] (by kernel_rfl) (by simp) (.inl (late_of (by kernel_rfl))) ?_
          simp only [List.mem_cons, List.not_mem_nil, or_false, forall_eq_or_imp, forall_eq]
          refine ⟨?_, ?_⟩
          · refine wpOp_one rfl ?_
            go_wp2
            simp only [nrm]
            refine wpAnyC_next [13, 14] (by kernel_rfl) (by simp) (.inl (late_of (by kernel_rfl))) ?_
            simp only [List.mem_cons, List.not_mem_nil, or_false, forall_eq_or_imp, forall_eq]
            refine ⟨?_, ?_⟩
            · refine wpOp_one rfl ?_
              go_wp2
              simp only [nrm]
              refine wpAnyC_next [14] (by kernel_rfl) (by simp) (.inl (late_of (by kernel_rfl))) ?_
              simp only [List.mem_cons, List.not_mem_nil, or_false, forall_eq]
              refine wpOp_one rfl ?_
              go_wp2
              simp only [nrm]
              refine wpAnyC_next [15] (by kernel_rfl) (by simp) (.inl (late_of (by kernel_rfl))) ?_
              simp only [List.mem_cons, List.not_mem_nil, or_false, forall_eq]
              refine wpOp_one rfl ?_
              go_wp2
              simp only [nrm]
              refine wpAnyC_done (by kernel_rfl) (.inl (late_of (by kernel_rfl))) ⟨(v0, v1), ?_, HV4.out, HO4.out⟩
              simp only [Act.put, List.setIfInBounds_toArray, List.set_cons_succ, List.set_cons_zero]
            · refine wpOp_one rfl ?_
              go_wp2
              simp only [nrm]
              refine wpAnyC_next [13] (by kernel_rfl) (by simp) (.inl (late_of (by kernel_rfl))) ?_
              simp only [List.mem_cons, List.not_mem_nil, or_false, forall_eq]
              refine wpOp_one rfl ?_
              go_wp2
              simp only [nrm]
              refine wpAnyC_next [15] (by kernel_rfl) (by simp) (.inl (late_of (by kernel_rfl))) ?_
              simp only [List.mem_cons, List.not_mem_nil, or_false, forall_eq]
              refine wpOp_one rfl ?_
              go_wp2
              simp only [nrm]
              refine wpAnyC_done (by kernel_rfl) (.inl (late_of (by kernel_rfl))) ⟨(v0, v1), ?_, HV4.out, HO4.out⟩
              simp only [Act.put, List.setIfInBounds_toArray, List.set_cons_succ, List.set_cons_zero]
          · refine wpOp_one rfl ?_
            go_wp2
            simp only [nrm]
            refine wpAnyC_next [12] (by kernel_rfl) (by simp) (.inl (late_of (by kernel_rfl))) ?_
            simp only [List.mem_cons, List.not_mem_nil, or_false, forall_eq]
            refine wpOp_one rfl ?_
            go_wp2
            simp only [nrm]
            refine wpAnyC_next [14] (by kernel_rfl) (by simp) (.inl (late_of (by kernel_rfl))) ?_
            simp only [List.mem_cons, List.not_mem_nil, or_false, forall_eq]
            refine wpOp_one rfl ?_
            go_wp2
            simp only [nrm]
            refine wpAnyC_next [15] (by kernel_rfl) (by simp) (.inl (late_of (by kernel_rfl))) ?_
            simp only [List.mem_cons, List.not_mem_nil, or_false, forall_eq]
            refine wpOp_one rfl ?_
            go_wp2
            simp only [nrm]
            refine wpAnyC_done (by kernel_rfl) (.inl (late_of (by kernel_rfl))) ⟨(v0, v1), ?_, HV4.out, HO4.out⟩
            simp only [Act.put, List.setIfInBounds_toArray, List.set_cons_succ, List.set_cons_zero]
      · have HQ : Hid (res = none) := Lib.hid (by rw [HRD.out]; exact if_neg (fun q => hw4 q.2.2))
        have tA : (bstr x2).toList = [116, 111, 108] := by rw [Lib.toList_data, hw2]; rfl
        generalize bstr x2 = S2 at t2 tA
        have tB : ¬ (bstr x4).toList = [115, 116, 97, 114, 116] := fun q => hw4 (by rw [Lib.toList_data] at q; exact q)
        have tBb : ((bstr x4).toList == [115, 116, 97, 114, 116]) = false := beq_eq_false_iff_ne.2 tB
        have tBn : (!(bstr x4).toList == [115, 116, 97, 114, 116]) = true := by rw [tBb]; rfl
        generalize bstr x4 = S4 at t4 tB tBb tBn
        clear hw2 hw4 HRD
        go_wp2
        go_ret
        rw [HQ.out]
        exact ⟨rfl, H1.out⟩
    · have HQ : Hid (res = none) := Lib.hid (by rw [HRD.out]; exact if_neg (fun q => hw2 q.2.1))
      have tA : ¬ (bstr x2).toList = [116, 111, 108] := fun q => hw2 (by rw [Lib.toList_data] at q; exact q)
      have tAb : ((bstr x2).toList == [116, 111, 108]) = false := beq_eq_false_iff_ne.2 tA
      have tAn : (!(bstr x2).toList == [116, 111, 108]) = true := by rw [tAb]; rfl
      generalize bstr x2 = S2 at t2 tA tAb tAn
      clear hw2 HRD
      go_wp2
      go_ret
      rw [HQ.out]
      exact ⟨rfl, H1.out⟩
end Go.Proofs.YthmeifdgkodjlaaDoor
