/- Texts of one chain: XSw XSx XSy. -/
import Derived.Test.YthmeifdgkodjlaaGreatDoorG4
import Derived.Deep.DeepCutAuto
import Derived.Test.YthmeifdgkodjlaaGreatDoorG2
/- node of the reader. Conditions: the library's variables are laid; the lengths. -/
namespace Go.Proofs.YthmeifdgkodjlaaGreatDoor
open Go.RowKit

theorem rd_otherN {B b eb : Nat} {w w' : World} {x : SSt} {ns : List NdW} {ls : List LkW} {vn vl vf : Value} {c : Array Value} {t : TypeId} (h : RdW B b w x ns ls vn vl vf) (he : w.heap[eb]? = some (.cells c t (0, 0))) (ho : Only [eb] w w') (hb : b ≠ eb) (hv : vn.ownBlock ≠ some eb)
    (ht : 54 ≠ t ∧ 60 ≠ t ∧ 96 ≠ t ∧ 3 ≠ t ∧ 98 ≠ t) : RdW B b w' x ns ls vn vl vf :=
  ⟨ho.got h.box (by simpa using hb), h.hn, h.hl, h.nd.keptS ho (fun k hk => by rw [List.mem_singleton] at hk; rw [hk]; exact hv), own_setB h.lk he ht.1 ho, own_setB h.ft he ht.2.1 ho, fun y hy => own_setB (h.sg y hy) he ht.2.2.1 ho, fun y hy => own_setB (h.sv y hy) he ht.2.2.2.1 ho, fun y hy => own_setB (h.ch y hy) he ht.2.2.2.2 ho, h.apN, h.apL⟩
set_option maxRecDepth 100000 in
set_option maxHeartbeats 8000000 in
theorem kNode6 {W0 : Two} {w : World} {b : Nat} {x : SSt} {p : Option Addr} {cap : Nat} {wd i x2 t x4 s : List UInt8} (h : RdX W0 b w x) (hsz : SLe 100000 x) (hv : VRow strC 1 w p 6 cap [wd, i, x2, t, x4, s]) (hl : ∀ y ∈ ([wd, i, x2, t, x4, s] : List (List UInt8)), y.length ≤ 1000000) (he : Env w) (hst : x.at_ = 2 ∨ x.at_ = 4 ∨ x.at_ = 5) :
    Calls Tryz.prog 70 #[.pointer (some ⟨b, 0, none⟩), .slice p 6 cap] w fun e' w' => RdR W0 b (rdNode x [i, x2, t, x4, s]) e' w' := by
  obtain ⟨hb0, hb1, ns, ls, vn, vl, vf, hR⟩ := h
  have hxn : x.sc.nd.length = ns.length := by rw [hR.hn, List.length_map]
  have hfl : ns.length ≤ 100000 := by rw [← hxn]; exact hsz.nd
  have HRD : Hid (rdNode x [i, x2, t, x4, s] = if (x.at_ = 2 ∨ x.at_ = 4 ∨ x.at_ = 5) ∧ x2 = wTol ∧ x4 = wStart then (match numsO [i, t, s] with
  | some [a, b, c] => if a = x.sc.nd.length then some (addN x ⟨0, [], b, false, 0, c, []⟩) else none
  | _ => none) else none) := Lib.hid rfl
  generalize rdNode x [i, x2, t, x4, s] = res at HRD ⊢
  have HR := Lib.hid hR; have HV := Lib.hid hv; have HE := Lib.hid he; have H0 := Lib.hid hb0; have H1 := Lib.hid hb1
  have hl1 := hl i (by simp)
  have hl3 := hl t (by simp)
  have hl5 := hl s (by simp)
  obtain ⟨bw, off, hp, _, lw⟩ := VRow.str (l := [wd, i, x2, t, x4, s]) HV.out (Only.refl [] w) (k := 0) (by simp)
  subst hp
  obtain ⟨_, _, hp1, s1, _⟩ := VRow.str (l := [wd, i, x2, t, x4, s]) HV.out (Only.refl [] w) (k := 1) (by simp)
  cases hp1
  have t1 : w.cell? ⟨bw, off + 1, none⟩ = some (.string (bstr i)) := s1
  clear s1
  obtain ⟨_, _, hp2, s2, _⟩ := VRow.str (l := [wd, i, x2, t, x4, s]) HV.out (Only.refl [] w) (k := 2) (by simp)
  cases hp2
  have t2 : w.cell? ⟨bw, off + 2, none⟩ = some (.string (bstr x2)) := s2
  clear s2
  obtain ⟨_, _, hp3, s3, _⟩ := VRow.str (l := [wd, i, x2, t, x4, s]) HV.out (Only.refl [] w) (k := 3) (by simp)
  cases hp3
  have t3 : w.cell? ⟨bw, off + 3, none⟩ = some (.string (bstr t)) := s3
  clear s3
  obtain ⟨_, _, hp4, s4, _⟩ := VRow.str (l := [wd, i, x2, t, x4, s]) HV.out (Only.refl [] w) (k := 4) (by simp)
  cases hp4
  have t4 : w.cell? ⟨bw, off + 4, none⟩ = some (.string (bstr x4)) := s4
  clear s4
  obtain ⟨_, _, hp5, s5, _⟩ := VRow.str (l := [wd, i, x2, t, x4, s]) HV.out (Only.refl [] w) (k := 5) (by simp)
  cases hp5
  have t5 : w.cell? ⟨bw, off + 5, none⟩ = some (.string (bstr s)) := s5
  clear s5
  have HXN := Lib.hid hxn; have HST := Lib.hid hst
  have hcap := hv.le
  have q5 := cell_got HR.out.box 5; have lq := got_lt HR.out.box
  clear hR hv he hl hb0 hb1 hsz hxn hst
  go_enter Tryz.func70, Tryz.ntmps70
  go_upto_region 1 with (fail)
  go_cut [27] (fun u27 wx => u27 = .bool false ∧ w = wx)
  case first =>
    rcases HST.out with h | h | h
    · have e2 : ((x.at_ : Int) == 2) = true := by rw [beq_iff_eq]; omega
      have e2n : ((x.at_ : Int) != 2) = false := by rw [bne_eq_false_iff_eq]; omega
      have e4 : ((x.at_ : Int) == 4) = false := by rw [beq_eq_false_iff_ne]; omega
      have e4n : ((x.at_ : Int) != 4) = true := by rw [bne_iff_ne]; omega
      have e5 : ((x.at_ : Int) == 5) = false := by rw [beq_eq_false_iff_ne]; omega
      have e5n : ((x.at_ : Int) != 5) = true := by rw [bne_iff_ne]; omega
      clear h
      go_wp2_with fail
      go_meet
      exact ⟨rfl, rfl⟩
    · have e2 : ((x.at_ : Int) == 2) = false := by rw [beq_eq_false_iff_ne]; omega
      have e2n : ((x.at_ : Int) != 2) = true := by rw [bne_iff_ne]; omega
      have e4 : ((x.at_ : Int) == 4) = true := by rw [beq_iff_eq]; omega
      have e4n : ((x.at_ : Int) != 4) = false := by rw [bne_eq_false_iff_eq]; omega
      have e5 : ((x.at_ : Int) == 5) = false := by rw [beq_eq_false_iff_ne]; omega
      have e5n : ((x.at_ : Int) != 5) = true := by rw [bne_iff_ne]; omega
      clear h
      go_wp2_with fail
      go_meet
      exact ⟨rfl, rfl⟩
    · have e2 : ((x.at_ : Int) == 2) = false := by rw [beq_eq_false_iff_ne]; omega
      have e2n : ((x.at_ : Int) != 2) = true := by rw [bne_iff_ne]; omega
      have e4 : ((x.at_ : Int) == 4) = false := by rw [beq_eq_false_iff_ne]; omega
      have e4n : ((x.at_ : Int) != 4) = true := by rw [bne_iff_ne]; omega
      have e5 : ((x.at_ : Int) == 5) = true := by rw [beq_iff_eq]; omega
      have e5n : ((x.at_ : Int) != 5) = false := by rw [bne_eq_false_iff_eq]; omega
      clear h
      go_wp2_with fail
      go_meet
      exact ⟨rfl, rfl⟩
  case rest =>
    obtain ⟨rfl, rfl⟩ := hcut
    by_cases hw2 : x2 = wTol
    · by_cases hw4 : x4 = wStart
      · have tA : (bstr x2).toList = [116, 111, 108] := by rw [Lib.toList_data, hw2]; rfl
        generalize bstr x2 = S2 at t2 tA
        have tB : (bstr x4).toList = [115, 116, 97, 114, 116] := by rw [Lib.toList_data, hw4]; rfl
        generalize bstr x4 = S4 at t4 tB
        have HM : Hid (res = (match numsO [i, t, s] with
          | some [a, b, c] => if a = x.sc.nd.length then some (addN x ⟨0, [], b, false, 0, c, []⟩) else none
          | _ => none)) := Lib.hid (by rw [HRD.out]; exact if_pos ⟨HST.out, hw2, hw4⟩)
        clear HRD hw2 hw4
        clear q5
        have lwk := lw
        go_upto_region 6 with (fail)
        refine wp_region_calm2 [0, 1, 2, 3, 4, 5, 6, 7, 8] [9, 10, 11, 12, 13, 14, 15] (OnlyC ([] : List Nat) w) (by kernel_rfl) (by kernel_rfl) ?_
        simp only [pick, List.map_cons, List.map_nil, List.getD_cons_succ, List.getD_cons_zero]
        iterate 9 (refine wpCalm_step (fun K hK => ?_); go_simp; refine hK _ ?_; clear hK K)
        refine wpCalm_nil ?_
        clear t1 t3 t5 lw tA tB
        refine Rest.by (X := Value × Value) (fun y a => ((((((a.put (some 60) (.slice (some ⟨w.heap.size, 0, none⟩) 3 3)).put (some 61) (.tuple #[y.1, y.2])).put (some 50) (.tuple #[y.1, y.2])).put (some 62) y.1).put (some 63) y.2).put (some 6) y.1).put (some 7) y.2) (fun y w' => NumsR (numsO [i, t, s]) w (.returned (.tuple #[y.1, y.2])) w' ∧ Only [] w w') ?_ ?_
        · rintro ⟨v0, v1⟩ wc ⟨hv4, ho4⟩
          simp only [Act.put, List.setIfInBounds_toArray, List.set_cons_succ, List.set_cons_zero]
          dsimp only at hv4
          have R2 := Lib.hid (HR.out.kept ho4); have O2 := Lib.hid (H1.out.nil_trans ho4); have HO2 := Lib.hid ho4
          have HVN : Hid (∀ k ∈ vn.ownBlock.toList, k < w.heap.size) := Lib.hid (fun k hk => by obtain ⟨_, _, hq⟩ := HR.out.nd.block (by simpa using hk); exact hq.lt)
          have HRB : Hid (b < w.heap.size) := Lib.hid (got_lt HR.out.box)
          have HWB : Hid (bw < w.heap.size) := Lib.hid lwk
          have HSZ := Lib.hid ho4.size
          clear ho4 HR
          cases hx : numsO [i, t, s] with
          | none =>
            rw [hx] at hv4
            obtain ⟨rfl, rfl⟩ := numsR_no hv4
            have HQ : Hid (res = none) := Lib.hid (by rw [HM.out, hx])
            clear hv4 hx HM
            have q0 := cell_got R2.out.box 0; have lq := got_lt R2.out.box
            obtain ⟨pn0, cn0, hvn0, _⟩ := R2.out.nd.vrow ndC_len
            subst hvn0
            go_wp2_with fail
            refine wp_region_grown [0, 1, 2, 3, 4, 5, 6, 7, 8, 9, 10, 11, 12, 13] [] (by kernel_rfl) (by kernel_rfl) ?_
            simp only [pick, List.map_cons, List.map_nil, List.getD_cons_succ, List.getD_cons_zero]
            iterate 1 (refine wpQuiet_step (fun K hK => ?_); go_simp; refine hK _ ?_; clear hK K)
            repeat (go_big_quiet_step (fail))
            refine wpQuiet_nil ?_
            intro w4 hw4
            have o4 := only_of_plus hw4
            clear hw4
            have O4 := Lib.hid (O2.out.nil_trans o4)
            go_wp2
            go_ret
            rw [HQ.out]
            exact ⟨rfl, O4.out⟩
          | some ms =>
            rw [hx] at hv4
            obtain ⟨g, rfl, rfl, hrow⟩ := numsR_yes hv4
            have hml := numsO_len hx
            obtain ⟨m0, m1, m2, rfl⟩ : ∃ m0 m1 m2, ms = [m0, m1, m2] := by
              rcases ms with _ | ⟨m0, _ | ⟨m1, _ | ⟨m2, _ | ⟨q, r⟩⟩⟩⟩
              · simp at hml
              · simp at hml
              · simp at hml
              · exact ⟨m0, m1, m2, rfl⟩
              · simp at hml
            have HM2 : Hid (res = if m0 = x.sc.nd.length then some (addN x ⟨0, [], m1, false, 0, m2, []⟩) else none) := Lib.hid (by rw [HM.out, hx])
            have N2 := Lib.hid hrow
            have c0 : wc.cell? ⟨g, 0, none⟩ = some (.int .i64 m0) := hrow.cell (i := 0) (j := 0) itC_len rfl (by decide)
            have lg := hrow.lt
            have q0 := cell_got R2.out.box 0; have lq := got_lt R2.out.box
            obtain ⟨pn0, cn0, hvn0, _⟩ := R2.out.nd.vrow ndC_len
            subst hvn0
            clear hrow hml hx hv4 HM
            by_cases hm0 : m0 = (ns.length : Int)
            · have dA : (m0 == (ns.length : Int)) = true := by simp [hm0]
              have dAn : (m0 != (ns.length : Int)) = false := by simp [hm0]
              have HQ : Hid (res = some (addN x ⟨0, [], m1, false, 0, m2, []⟩)) := Lib.hid (by rw [HM2.out]; exact if_pos (by rw [HXN.out]; exact hm0))
              clear hm0 HM2
              go_wp2_with fail
              refine wp_region_grown [0, 1, 2, 3, 4, 5, 6, 7, 8, 9, 10, 11, 12, 13] [] (by kernel_rfl) (by kernel_rfl) ?_
              simp only [pick, List.map_cons, List.map_nil, List.getD_cons_succ, List.getD_cons_zero]
              iterate 1 (refine wpQuiet_step (fun K hK => ?_); go_simp; refine hK _ ?_; clear hK K)
              repeat (go_big_quiet_step (fail))
              refine wpQuiet_nil ?_
              intro w4 hw4
              have o4 := only_of_plus hw4
              clear hw4
              have R4 := Lib.hid (R2.out.kept o4); have O4 := Lib.hid (O2.out.nil_trans o4); have N4 := Lib.hid (N2.out.kept o4 (by simp)); have S4 := Lib.hid o4.size
              have o4' := o4
              clear o4 c0 lg q0 lq R2 O2 N2 dA dAn
              have O4' := Lib.hid o4'
              clear o4'
              go_wp2_with fail
              have c1 : w4.cell? ⟨g, 1, none⟩ = some (.int .i64 m1) := N4.out.cell (i := 1) (j := 0) itC_len rfl (by decide)
              have c2 : w4.cell? ⟨g, 2, none⟩ = some (.int .i64 m2) := N4.out.cell (i := 2) (j := 0) itC_len rfl (by decide)
              have lg := N4.out.lt
              refine wp_region_calm2 [0, 1, 2, 3, 4, 5, 6, 7] [9] (OnlyC ([] : List Nat) w4) (by kernel_rfl) (by kernel_rfl) ?_
              simp only [pick, List.map_cons, List.map_nil, List.getD_cons_succ, List.getD_cons_zero]
              iterate 8 (refine wpCalm_step (fun K hK => ?_); go_simp; refine hK _ ?_; clear hK K)
              refine wpCalm_nil ?_
              refine Rest.by (X := Nat) (fun y a => a.put (some 8) (.pointer (some ⟨y, 0, none⟩))) (fun y w' => w'.heap[y]? = some (.cells #[.int .i64 0, .slice none 0 0, .int .i64 m1, .bool false, .int .i64 0, .int .i64 m2, .slice none 0 0] 48 (0, 0)) ∧ Only [] w4 w' ∧ w4.heap.size ≤ y) ?_ ?_
              · rintro eb w6 ⟨hbn, hon, hyn⟩
                simp only [Act.put, List.setIfInBounds_toArray, List.set_cons_succ, List.set_cons_zero]
                have EB := Lib.hid hbn; have PE := Lib.hid hon; have YE := Lib.hid hyn
                clear hbn hon hyn c1 c2 lg
                have E6 := EB
                have R6 := Lib.hid (R4.out.kept PE.out); have O6 := Lib.hid (O4.out.nil_trans PE.out)
                clear R4 O4 N4
                have q0 := cell_got R6.out.box 0; have lq := got_lt R6.out.box
                have e0 := cell_got E6.out 0
                have e1 := cell_got E6.out 1
                have e2 := cell_got E6.out 2
                have e3 := cell_got E6.out 3
                have e4 := cell_got E6.out 4
                have e5 := cell_got E6.out 5
                have e6 := cell_got E6.out 6
                have le := got_lt E6.out
                obtain ⟨S, hS⟩ : ∃ S, S = (Value.slice pn0 ns.length cn0).ownBlock.toList := ⟨_, rfl⟩
                have hbS : b ∉ S := fun hm => by rw [hS] at hm; exact R6.out.nd.ne_box R6.out.box (by decide) (by simpa using hm)
                have heS : eb ∉ S := fun hm => by rw [hS] at hm; have := HVN.out eb hm; have h2 := YE.out; have h3 := HSZ.out; have h4 := S4.out; omega
                have HSE := Lib.hid hS
                clear hS
                go_wp2_with fail
                refine wp_region_calm2 [0, 1, 2, 3, 4, 5, 6] [9, 10, 11, 12] (OnlyC S w6) (by kernel_rfl) (by kernel_rfl) ?_
                simp only [pick, List.map_cons, List.map_nil, List.getD_cons_succ, List.getD_cons_zero]
                iterate 7 (refine wpCalm_step (fun K hK => ?_); go_simp; refine hK _ ?_; clear hK K)
                refine wpCalm_nil ?_
                clear q0 lq e0 e1 e2 e3 e4 e5 e6 le
                refine Rest.by (X := Nat × Nat) (fun y a => ((((a.put (some 110) (.slice (some ⟨w6.heap.size, 0, none⟩) 1 1)).put (some 111) (.slice (some ⟨y.1, 0, none⟩) (ns.length + 1) y.2)).put (some 112) (.pointer (some ⟨b, 0, none⟩))).put (some 113) (.pointer (some ⟨b, 0, none⟩))).put (some 114) (.pointer (some ⟨b, 0, none⟩)))
                  (fun y w' => Ob b W0 w' ∧ RdW W0.heap.size b w' (⟨{ x.sc with nd := x.sc.nd ++ [⟨0, [], m1, false, 0, m2, []⟩] }, x.at_⟩ : SSt) (ns ++ [⟨⟨0, [], m1, false, 0, m2, []⟩, none, 0, none, 0⟩]) ls (.slice (some ⟨y.1, 0, none⟩) (ns.length + 1) y.2) vl vf) ?_ ?_
                · rintro ⟨g9, cap9⟩ w9 ⟨ho9, hr9⟩
                  simp only [Act.put, List.setIfInBounds_toArray, List.set_cons_succ, List.set_cons_zero]
                  have O9 := Lib.hid ho9; have R9 := Lib.hid hr9
                  clear ho9 hr9
                  have BP := Lib.hid R9.out.box
                  have lp := got_lt BP.out; have q5 := cell_got BP.out 5; have f5 := frozen_got BP.out 5
                  go_wp2
                  go_ret
                  rw [HQ.out]
                  refine ⟨rfl, H0.out, O9.out.setCell (.inl (by simp)) _, ns ++ [⟨⟨0, [], m1, false, 0, m2, []⟩, none, 0, none, 0⟩], ls, .slice (some ⟨g9, 0, none⟩) (ns.length + 1) cap9, vl, vf, ?_⟩
                  exact R9.out.cell (x' := addN x ⟨0, [], m1, false, 0, m2, []⟩) ((Only.refl [b] w9).setCell (.inl (by simp)) _) (setCell_got _ BP.out) rfl rfl rfl
                · refine wpAnyC_next [7] (by kernel_rfl) (by simp) (.inr (onlyC (Only.refl S w6).drew)) ?_
                  simp only [List.mem_cons, List.not_mem_nil, or_false, forall_eq]
                  refine wpOp_one rfl ?_
                  go_wp2
                  simp only [nrm]
                  refine allocd_abs (G := wpAnyC _ _ _ _ _ _ _ _ _) ?_
                  intro wa hna hoa hsa
                  have MA := Lib.hid hna; have oA := Lib.hid hoa; have RA := Lib.hid (R6.out.kept hoa); have OA := Lib.hid (O6.out.nil_trans hoa)
                  clear hna hsa hoa
                  refine wpAnyC_next [8] (by kernel_rfl) (by simp) (.inr (onlyC (oA.out.mono (by simp)))) ?_
                  simp only [List.mem_cons, List.not_mem_nil, or_false, forall_eq]
                  refine wpOp_one rfl ?_
                  refine wpList_append_B (B := W0.heap.size) rfl _ _ 22 rfl 48 (.agg #[.int .i64 0, .slice none 0 0, .int .i64 0, .bool false, .int .i64 0, .int .i64 0, .slice none 0 0]) 7 88 Tryz.underlying22 (by kernel_rfl) rfl (by decide) ndC_len ndC_one ns (Value.slice pn0 ns.length cn0) rfl RA.out.nd w6.heap.size (⟨⟨0, [], m1, false, 0, m2, []⟩, none, 0, none, 0⟩ : NdW) rfl (fun j u hj => ?_) (by simp [maxLen]; omega) (by omega) (Nat.le_trans (by have := OA.out.size; omega) (Nat.le_refl _)) ?_
                  · rw [cell_got MA.out]; rw [← hj]; simp [ndC]
                  · intro g9 cap9 wb hown hob _
                    rw [← HSE.out] at hob
                    have WB := Lib.hid hown; have oB := Lib.hid hob; have oS := Lib.hid ((oA.out.mono (S' := S) (by simp)).trans hob (fun x h => .inl h))
                    clear hown hob
                    simp only [wpList, nrm]
                    refine wpAnyC_next [9] (by kernel_rfl) (by simp) (.inr (onlyC oS.out)) ?_
                    simp only [List.mem_cons, List.not_mem_nil, or_false, forall_eq]
                    refine wpOp_one rfl ?_
                    go_wp2
                    simp only [nrm]
                    refine wpAnyC_next [10] (by kernel_rfl) (by simp) (.inr (onlyC oS.out)) ?_
                    simp only [List.mem_cons, List.not_mem_nil, or_false, forall_eq]
                    refine wpOp_one rfl ?_
                    go_wp2
                    simp only [nrm]
                    refine wpAnyC_next [11] (by kernel_rfl) (by simp) (.inr (onlyC oS.out)) ?_
                    simp only [List.mem_cons, List.not_mem_nil, or_false, forall_eq]
                    refine wpOp_one rfl ?_
                    go_wp2
                    simp only [nrm]
                    refine wpAnyC_next [12] (by kernel_rfl) (by simp) (.inr (onlyC oS.out)) ?_
                    simp only [List.mem_cons, List.not_mem_nil, or_false, forall_eq]
                    refine wpOp_one rfl ?_
                    have BP := Lib.hid (oS.out.got R6.out.box hbS)
                    have lp := got_lt BP.out
                    have qc := cell_got BP.out 0; have fq := frozen_got BP.out 0
                    go_wp2
                    simp only [nrm]
                    refine wpAnyC_done (by kernel_rfl) (.inl (late_of (by kernel_rfl))) ⟨(g9, cap9), rfl, ?_, ?_⟩
                    · refine (Ob.row (S := S) OA.out oB.out (fun k hk => ?_)).setCell (.inl (by simp)) _
                      rw [HSE.out] at hk
                      exact RA.out.nd.blockC (by simpa using hk)
                    · rw [HSE.out] at oB
                      exact RA.out.addN (x' := (⟨{ x.sc with nd := x.sc.nd ++ [⟨0, [], m1, false, 0, m2, []⟩] }, x.at_⟩ : SSt)) oB.out WB.out ⟨rfl, rfl, rfl, rfl, rfl, rfl⟩ ((Only.refl [b] wb).setCell (.inl (by simp)) _) (setCell_got _ BP.out) rfl rfl rfl
              · refine wpAnyC_next [8] (by kernel_rfl) (by simp) (.inr (onlyC (Only.refl [] w4).drew)) ?_
                simp only [List.mem_cons, List.not_mem_nil, or_false, forall_eq]
                refine wpOp_one rfl ?_
                go_wp2
                simp only [nrm]
                refine allocd_abs (G := wpAnyC _ _ _ _ _ _ _ _ _) ?_
                intro w5 hn5 ho5 hs5
                have M5 := Lib.hid hn5; have o25 := Lib.hid ho5
                clear hn5 hs5 ho5
                refine wpAnyC_next [9] (by kernel_rfl) (by simp) (.inr (onlyC o25.out)) ?_
                simp only [List.mem_cons, List.not_mem_nil, or_false, forall_eq]
                refine wpOp_one rfl ?_
                have la := got_lt M5.out
                have fa0 := frozen_got M5.out 0; have ca0 := cell_got M5.out 0
                have fa1 := frozen_got M5.out 1; have ca1 := cell_got M5.out 1
                have fa2 := frozen_got M5.out 2; have ca2 := cell_got M5.out 2
                have fa3 := frozen_got M5.out 3; have ca3 := cell_got M5.out 3
                have fa4 := frozen_got M5.out 4; have ca4 := cell_got M5.out 4
                have fa5 := frozen_got M5.out 5; have ca5 := cell_got M5.out 5
                have fa6 := frozen_got M5.out 6; have ca6 := cell_got M5.out 6
                go_wp2
                simp only [nrm]
                clear la fa0 ca0 fa1 ca1 fa2 ca2 fa3 ca3 fa4 ca4 fa5 ca5 fa6 ca6
                have o2 : Only [w4.heap.size] w5 (((((((w5.setCell ⟨w4.heap.size, 0, none⟩ (.int .i64 0)).setCell ⟨w4.heap.size, 1, none⟩ (.slice none 0 0)).setCell ⟨w4.heap.size, 2, none⟩ (.int .i64 m1)).setCell ⟨w4.heap.size, 3, none⟩ (.bool false)).setCell ⟨w4.heap.size, 4, none⟩ (.int .i64 0)).setCell ⟨w4.heap.size, 5, none⟩ (.int .i64 m2)).setCell ⟨w4.heap.size, 6, none⟩ (.slice none 0 0)) := ((((((((Only.refl _ w5).setCell (.inl (by simp)) _).setCell (.inl (by simp)) _).setCell (.inl (by simp)) _).setCell (.inl (by simp)) _).setCell (.inl (by simp)) _).setCell (.inl (by simp)) _).setCell (.inl (by simp)) _)
                have o3 := o25.out.trans o2 (by simp)
                exact wpAnyC_done (by kernel_rfl) (.inr (onlyC o3)) ⟨w4.heap.size, rfl, (setCell_got _ (setCell_got _ (setCell_got _ (setCell_got _ (setCell_got _ (setCell_got _ (setCell_got _ M5.out))))))), o3, Nat.le_refl _⟩
            · have dA : (m0 == (ns.length : Int)) = false := by simp [hm0]
              have dAn : (m0 != (ns.length : Int)) = true := by simp [hm0]
              have HQ : Hid (res = none) := Lib.hid (by rw [HM2.out]; exact if_neg (fun q => hm0 (by rw [HXN.out] at q; exact q)))
              clear hm0 HM2
              go_wp2_with fail
              refine wp_region_grown [0, 1, 2, 3, 4, 5, 6, 7, 8, 9, 10, 11, 12, 13] [] (by kernel_rfl) (by kernel_rfl) ?_
              simp only [pick, List.map_cons, List.map_nil, List.getD_cons_succ, List.getD_cons_zero]
              iterate 1 (refine wpQuiet_step (fun K hK => ?_); go_simp; refine hK _ ?_; clear hK K)
              repeat (go_big_quiet_step (fail))
              refine wpQuiet_nil ?_
              intro w4 hw4
              have o4 := only_of_plus hw4
              clear hw4
              have O4 := Lib.hid (O2.out.nil_trans o4)
              go_wp2
              go_ret
              rw [HQ.out]
              exact ⟨rfl, O4.out⟩
        · refine wpAnyC_next [9] (by kernel_rfl) (by simp) (.inr (onlyC (Only.refl [] w).drew)) ?_
          simp only [List.mem_cons, List.not_mem_nil, or_false, forall_eq]
          refine wpOp_one rfl ?_
          go_wp2
          simp only [nrm]
          refine allocd_abs (G := wpAnyC _ _ _ _ _ _ _ _ _) ?_
          intro wa hna hoa hsa
          have hrow : RowAt strC 9 1 wa w.heap.size 3 [i, t, s] := ⟨_, hna, rfl, Nat.le_refl _, by decide, rfl⟩
          have HN := Lib.hid (pNumbers (hrow.vrow strC_len rfl) (by simp) (by intro y hy; simp only [List.mem_cons, List.not_mem_nil, or_false] at hy; rcases hy with rfl | rfl | rfl <;> assumption) (HE.out.kept hoa))
          have oA := Lib.hid hoa
          clear hna hsa hoa hrow
          refine wpAnyC_next [10] (by kernel_rfl) (by simp) (.inl (late_of (by kernel_rfl))) ?_
          simp only [List.mem_cons, List.not_mem_nil, or_false, forall_eq]
          refine wpOp_one rfl ?_
          go_wp2_with fail
          refine HN.out.mono ?_
          rintro e wc ⟨hv4, ho4⟩
          obtain ⟨v0, v1, rfl⟩ := numsR_form hv4
          have HV4 : Hid (NumsR (numsO [i, t, s]) w (.returned (.tuple #[v0, v1])) wc) := Lib.hid (hv4.back oA.out)
          have HO4 := Lib.hid (oA.out.nil_trans ho4)
          clear hv4 ho4 HN
          go_wp2
          simp only [nrm]
          refine wpAnyC_next [11] (by kernel_rfl) (by simp) (.inl (late_of (by kernel_rfl))) ?_
          simp only [List.mem_cons, List.not_mem_nil, or_false, forall_eq]
          refine wpOp_one rfl ?_
          go_wp2
          simp only [nrm]
          refine wpAnyC_next [12, 13] (by kernel_rfl) (by simp) (.inl (late_of (by kernel_rfl))) ?_
          simp only [List.mem_cons, List.not_mem_nil, or_false, forall_eq_or_imp, forall_eq]
          refine ⟨?_, ?_⟩
          · refine wpOp_one rfl ?_
            go_wp2
            simp only [nrm]
            refine wpAnyC_next [13, 14] (by kernel_rfl) (by simp) (.inl (late_of (by kernel_rfl))) ?_
            simp only [List.mem_cons, List.not_mem_nil, or_false, forall_eq_or_imp, forall_eq]
            refine ⟨?_, ?_⟩
            · refine wpOp_one rfl ?_
              go_wp2
              simp only [nrm]
              refine wpAnyC_next [14] (by kernel_rfl) (by simp) (.inl (late_of (by kernel_rfl))) ?_
              simp only [List.mem_cons, List.not_mem_nil, or_false, forall_eq]
              refine wpOp_one rfl ?_
              go_wp2
              simp only [nrm]
              refine wpAnyC_next [15] (by kernel_rfl) (by simp) (.inl (late_of (by kernel_rfl))) ?_
              simp only [List.mem_cons, List.not_mem_nil, or_false, forall_eq]
              refine wpOp_one rfl ?_
              go_wp2
              simp only [nrm]
              refine wpAnyC_done (by kernel_rfl) (.inl (late_of (by kernel_rfl))) ⟨(v0, v1), ?_, HV4.out, HO4.out⟩
              simp only [Act.put, List.setIfInBounds_toArray, List.set_cons_succ, List.set_cons_zero]
            · refine wpOp_one rfl ?_
              go_wp2
              simp only [nrm]
              refine wpAnyC_next [13] (by kernel_rfl) (by simp) (.inl (late_of (by kernel_rfl))) ?_
              simp only [List.mem_cons, List.not_mem_nil, or_false, forall_eq]
              refine wpOp_one rfl ?_
              go_wp2
              simp only [nrm]
              refine wpAnyC_next [15] (by kernel_rfl) (by simp) (.inl (late_of (by kernel_rfl))) ?_
              simp only [List.mem_cons, List.not_mem_nil, or_false, forall_eq]
              refine wpOp_one rfl ?_
              go_wp2
              simp only [nrm]
              refine wpAnyC_done (by kernel_rfl) (.inl (late_of (by kernel_rfl))) ⟨(v0, v1), ?_, HV4.out, HO4.out⟩
              simp only [Act.put, List.setIfInBounds_toArray, List.set_cons_succ, List.set_cons_zero]
          · refine wpOp_one rfl ?_
            go_wp2
            simp only [nrm]
            refine wpAnyC_next [12] (by kernel_rfl) (by simp) (.inl (late_of (by kernel_rfl))) ?_
            simp only [List.mem_cons, List.not_mem_nil, or_false, forall_eq]
            refine wpOp_one rfl ?_
            go_wp2
            simp only [nrm]
            refine wpAnyC_next [14] (by kernel_rfl) (by simp) (.inl (late_of (by kernel_rfl))) ?_
            simp only [List.mem_cons, List.not_mem_nil, or_false, forall_eq]
            refine wpOp_one rfl ?_
            go_wp2
            simp only [nrm]
            refine wpAnyC_next [15] (by kernel_rfl) (by simp) (.inl (late_of (by kernel_rfl))) ?_
            simp only [List.mem_cons, List.not_mem_nil, or_false, forall_eq]
            refine wpOp_one rfl ?_
            go_wp2
            simp only [nrm]
            refine wpAnyC_done (by kernel_rfl) (.inl (late_of (by kernel_rfl))) ⟨(v0, v1), ?_, HV4.out, HO4.out⟩
            simp only [Act.put, List.setIfInBounds_toArray, List.set_cons_succ, List.set_cons_zero]
      · have HQ : Hid (res = none) := Lib.hid (by rw [HRD.out]; exact if_neg (fun q => hw4 q.2.2))
        have tA : (bstr x2).toList = [116, 111, 108] := by rw [Lib.toList_data, hw2]; rfl
        generalize bstr x2 = S2 at t2 tA
        have tB : ¬ (bstr x4).toList = [115, 116, 97, 114, 116] := fun q => hw4 (by rw [Lib.toList_data] at q; exact q)
        have tBb : ((bstr x4).toList == [115, 116, 97, 114, 116]) = false := beq_eq_false_iff_ne.2 tB
        have tBn : (!(bstr x4).toList == [115, 116, 97, 114, 116]) = true := by rw [tBb]; rfl
        generalize bstr x4 = S4 at t4 tB tBb tBn
        clear hw2 hw4 HRD
        go_wp2
        go_ret
        rw [HQ.out]
        exact ⟨rfl, H1.out⟩
    · have HQ : Hid (res = none) := Lib.hid (by rw [HRD.out]; exact if_neg (fun q => hw2 q.2.1))
      have tA : ¬ (bstr x2).toList = [116, 111, 108] := fun q => hw2 (by rw [Lib.toList_data] at q; exact q)
      have tAb : ((bstr x2).toList == [116, 111, 108]) = false := beq_eq_false_iff_ne.2 tA
      have tAn : (!(bstr x2).toList == [116, 111, 108]) = true := by rw [tAb]; rfl
      generalize bstr x2 = S2 at t2 tA tAb tAn
      clear hw2 HRD
      go_wp2
      go_ret
      rw [HQ.out]
      exact ⟨rfl, H1.out⟩
set_option maxRecDepth 100000 in
set_option maxHeartbeats 8000000 in
theorem kNode8 {W0 : Two} {w : World} {b : Nat} {x : SSt} {p : Option Addr} {cap : Nat} {wd i x2 t x4 s x6 e : List UInt8} (h : RdX W0 b w x) (hsz : SLe 100000 x) (hv : VRow strC 1 w p 8 cap [wd, i, x2, t, x4, s, x6, e]) (hl : ∀ y ∈ ([wd, i, x2, t, x4, s, x6, e] : List (List UInt8)), y.length ≤ 1000000) (he : Env w) (hst : x.at_ = 2 ∨ x.at_ = 4 ∨ x.at_ = 5) :
    Calls Tryz.prog 70 #[.pointer (some ⟨b, 0, none⟩), .slice p 8 cap] w fun e' w' => RdR W0 b (rdNode x [i, x2, t, x4, s, x6, e]) e' w' := by
  obtain ⟨hb0, hb1, ns, ls, vn, vl, vf, hR⟩ := h
  have hxn : x.sc.nd.length = ns.length := by rw [hR.hn, List.length_map]
  have hfl : ns.length ≤ 100000 := by rw [← hxn]; exact hsz.nd
  have HRD : Hid (rdNode x [i, x2, t, x4, s, x6, e] = if (x.at_ = 2 ∨ x.at_ = 4 ∨ x.at_ = 5) ∧ x2 = wTol ∧ x4 = wStart then (match numsO [i, t, s] with
  | some [a, b, c] => if a = x.sc.nd.length then (match numO e with
    | some d => if x6 = wRef then some (addN x ⟨0, [], b, true, d, c, []⟩) else none
    | none => none) else none
  | _ => none) else none) := Lib.hid rfl
  generalize rdNode x [i, x2, t, x4, s, x6, e] = res at HRD ⊢
  have HR := Lib.hid hR; have HV := Lib.hid hv; have HE := Lib.hid he; have H0 := Lib.hid hb0; have H1 := Lib.hid hb1
  have hl1 := hl i (by simp)
  have hl3 := hl t (by simp)
  have hl5 := hl s (by simp)
  have hl7 := hl e (by simp)
  obtain ⟨bw, off, hp, _, lw⟩ := VRow.str (l := [wd, i, x2, t, x4, s, x6, e]) HV.out (Only.refl [] w) (k := 0) (by simp)
  subst hp
  obtain ⟨_, _, hp1, s1, _⟩ := VRow.str (l := [wd, i, x2, t, x4, s, x6, e]) HV.out (Only.refl [] w) (k := 1) (by simp)
  cases hp1
  have t1 : w.cell? ⟨bw, off + 1, none⟩ = some (.string (bstr i)) := s1
  clear s1
  obtain ⟨_, _, hp2, s2, _⟩ := VRow.str (l := [wd, i, x2, t, x4, s, x6, e]) HV.out (Only.refl [] w) (k := 2) (by simp)
  cases hp2
  have t2 : w.cell? ⟨bw, off + 2, none⟩ = some (.string (bstr x2)) := s2
  clear s2
  obtain ⟨_, _, hp3, s3, _⟩ := VRow.str (l := [wd, i, x2, t, x4, s, x6, e]) HV.out (Only.refl [] w) (k := 3) (by simp)
  cases hp3
  have t3 : w.cell? ⟨bw, off + 3, none⟩ = some (.string (bstr t)) := s3
  clear s3
  obtain ⟨_, _, hp4, s4, _⟩ := VRow.str (l := [wd, i, x2, t, x4, s, x6, e]) HV.out (Only.refl [] w) (k := 4) (by simp)
  cases hp4
  have t4 : w.cell? ⟨bw, off + 4, none⟩ = some (.string (bstr x4)) := s4
  clear s4
  obtain ⟨_, _, hp5, s5, _⟩ := VRow.str (l := [wd, i, x2, t, x4, s, x6, e]) HV.out (Only.refl [] w) (k := 5) (by simp)
  cases hp5
  have t5 : w.cell? ⟨bw, off + 5, none⟩ = some (.string (bstr s)) := s5
  clear s5
  obtain ⟨_, _, hp6, s6, _⟩ := VRow.str (l := [wd, i, x2, t, x4, s, x6, e]) HV.out (Only.refl [] w) (k := 6) (by simp)
  cases hp6
  have t6 : w.cell? ⟨bw, off + 6, none⟩ = some (.string (bstr x6)) := s6
  clear s6
  obtain ⟨_, _, hp7, s7, _⟩ := VRow.str (l := [wd, i, x2, t, x4, s, x6, e]) HV.out (Only.refl [] w) (k := 7) (by simp)
  cases hp7
  have t7 : w.cell? ⟨bw, off + 7, none⟩ = some (.string (bstr e)) := s7
  clear s7
  have HXN := Lib.hid hxn; have HST := Lib.hid hst
  have hcap := hv.le
  have q5 := cell_got HR.out.box 5; have lq := got_lt HR.out.box
  clear hR hv he hl hb0 hb1 hsz hxn hst
  go_enter Tryz.func70, Tryz.ntmps70
  go_upto_region 1 with (fail)
  go_cut [27] (fun u27 wx => u27 = .bool false ∧ w = wx)
  case first =>
    rcases HST.out with h | h | h
    · have e2 : ((x.at_ : Int) == 2) = true := by rw [beq_iff_eq]; omega
      have e2n : ((x.at_ : Int) != 2) = false := by rw [bne_eq_false_iff_eq]; omega
      have e4 : ((x.at_ : Int) == 4) = false := by rw [beq_eq_false_iff_ne]; omega
      have e4n : ((x.at_ : Int) != 4) = true := by rw [bne_iff_ne]; omega
      have e5 : ((x.at_ : Int) == 5) = false := by rw [beq_eq_false_iff_ne]; omega
      have e5n : ((x.at_ : Int) != 5) = true := by rw [bne_iff_ne]; omega
      clear h
      go_wp2_with fail
      go_meet
      exact ⟨rfl, rfl⟩
    · have e2 : ((x.at_ : Int) == 2) = false := by rw [beq_eq_false_iff_ne]; omega
      have e2n : ((x.at_ : Int) != 2) = true := by rw [bne_iff_ne]; omega
      have e4 : ((x.at_ : Int) == 4) = true := by rw [beq_iff_eq]; omega
      have e4n : ((x.at_ : Int) != 4) = false := by rw [bne_eq_false_iff_eq]; omega
      have e5 : ((x.at_ : Int) == 5) = false := by rw [beq_eq_false_iff_ne]; omega
      have e5n : ((x.at_ : Int) != 5) = true := by rw [bne_iff_ne]; omega
      clear h
      go_wp2_with fail
      go_meet
      exact ⟨rfl, rfl⟩
    · have e2 : ((x.at_ : Int) == 2) = false := by rw [beq_eq_false_iff_ne]; omega
      have e2n : ((x.at_ : Int) != 2) = true := by rw [bne_iff_ne]; omega
      have e4 : ((x.at_ : Int) == 4) = false := by rw [beq_eq_false_iff_ne]; omega
      have e4n : ((x.at_ : Int) != 4) = true := by rw [bne_iff_ne]; omega
      have e5 : ((x.at_ : Int) == 5) = true := by rw [beq_iff_eq]; omega
      have e5n : ((x.at_ : Int) != 5) = false := by rw [bne_eq_false_iff_eq]; omega
      clear h
      go_wp2_with fail
      go_meet
      exact ⟨rfl, rfl⟩
  case rest =>
    obtain ⟨rfl, rfl⟩ := hcut
    by_cases hw2 : x2 = wTol
    · by_cases hw4 : x4 = wStart
      · have tA : (bstr x2).toList = [116, 111, 108] := by rw [Lib.toList_data, hw2]; rfl
        generalize bstr x2 = S2 at t2 tA
        have tB : (bstr x4).toList = [115, 116, 97, 114, 116] := by rw [Lib.toList_data, hw4]; rfl
        generalize bstr x4 = S4 at t4 tB
        have HM : Hid (res = (match numsO [i, t, s] with
          | some [a, b, c] => if a = x.sc.nd.length then (match numO e with
            | some d => if x6 = wRef then some (addN x ⟨0, [], b, true, d, c, []⟩) else none
            | none => none) else none
          | _ => none)) := Lib.hid (by rw [HRD.out]; exact if_pos ⟨HST.out, hw2, hw4⟩)
        clear HRD hw2 hw4
        clear q5
        have lwk := lw
        go_upto_region 6 with (fail)
        refine wp_region_calm2 [0, 1, 2, 3, 4, 5, 6, 7, 8] [9, 10, 11, 12, 13, 14, 15] (OnlyC ([] : List Nat) w) (by kernel_rfl) (by kernel_rfl) ?_
        simp only [pick, List.map_cons, List.map_nil, List.getD_cons_succ, List.getD_cons_zero]
        iterate 9 (refine wpCalm_step (fun K hK => ?_); go_simp; refine hK _ ?_; clear hK K)
        refine wpCalm_nil ?_
        clear t1 t3 t5 lw tA tB
        refine Rest.by (X := Value × Value) (fun y a => ((((((a.put (some 60) (.slice (some ⟨w.heap.size, 0, none⟩) 3 3)).put (some 61) (.tuple #[y.1, y.2])).put (some 50) (.tuple #[y.1, y.2])).put (some 62) y.1).put (some 63) y.2).put (some 6) y.1).put (some 7) y.2) (fun y w' => NumsR (numsO [i, t, s]) w (.returned (.tuple #[y.1, y.2])) w' ∧ Only [] w w') ?_ ?_
        · rintro ⟨v0, v1⟩ wc ⟨hv4, ho4⟩
          simp only [Act.put, List.setIfInBounds_toArray, List.set_cons_succ, List.set_cons_zero]
          dsimp only at hv4
          have R2 := Lib.hid (HR.out.kept ho4); have O2 := Lib.hid (H1.out.nil_trans ho4); have HO2 := Lib.hid ho4
          have HVN : Hid (∀ k ∈ vn.ownBlock.toList, k < w.heap.size) := Lib.hid (fun k hk => by obtain ⟨_, _, hq⟩ := HR.out.nd.block (by simpa using hk); exact hq.lt)
          have HRB : Hid (b < w.heap.size) := Lib.hid (got_lt HR.out.box)
          have HWB : Hid (bw < w.heap.size) := Lib.hid lwk
          have HSZ := Lib.hid ho4.size
          clear ho4 HR
          cases hx : numsO [i, t, s] with
          | none =>
            rw [hx] at hv4
            obtain ⟨rfl, rfl⟩ := numsR_no hv4
            have HQ : Hid (res = none) := Lib.hid (by rw [HM.out, hx])
            clear hv4 hx HM
            have q0 := cell_got R2.out.box 0; have lq := got_lt R2.out.box
            obtain ⟨pn0, cn0, hvn0, _⟩ := R2.out.nd.vrow ndC_len
            subst hvn0
            go_wp2_with fail
            refine wp_region_grown [0, 1, 2, 3, 4, 5, 6, 7, 8, 9, 10, 11, 12, 13] [] (by kernel_rfl) (by kernel_rfl) ?_
            simp only [pick, List.map_cons, List.map_nil, List.getD_cons_succ, List.getD_cons_zero]
            iterate 1 (refine wpQuiet_step (fun K hK => ?_); go_simp; refine hK _ ?_; clear hK K)
            repeat (go_big_quiet_step (fail))
            refine wpQuiet_nil ?_
            intro w4 hw4
            have o4 := only_of_plus hw4
            clear hw4
            have O4 := Lib.hid (O2.out.nil_trans o4)
            go_wp2
            go_ret
            rw [HQ.out]
            exact ⟨rfl, O4.out⟩
          | some ms =>
            rw [hx] at hv4
            obtain ⟨g, rfl, rfl, hrow⟩ := numsR_yes hv4
            have hml := numsO_len hx
            obtain ⟨m0, m1, m2, rfl⟩ : ∃ m0 m1 m2, ms = [m0, m1, m2] := by
              rcases ms with _ | ⟨m0, _ | ⟨m1, _ | ⟨m2, _ | ⟨q, r⟩⟩⟩⟩
              · simp at hml
              · simp at hml
              · simp at hml
              · exact ⟨m0, m1, m2, rfl⟩
              · simp at hml
            have HM2 : Hid (res = if m0 = x.sc.nd.length then (match numO e with
              | some d => if x6 = wRef then some (addN x ⟨0, [], m1, true, d, m2, []⟩) else none
              | none => none) else none) := Lib.hid (by rw [HM.out, hx])
            have N2 := Lib.hid hrow
            have c0 : wc.cell? ⟨g, 0, none⟩ = some (.int .i64 m0) := hrow.cell (i := 0) (j := 0) itC_len rfl (by decide)
            have lg := hrow.lt
            have q0 := cell_got R2.out.box 0; have lq := got_lt R2.out.box
            obtain ⟨pn0, cn0, hvn0, _⟩ := R2.out.nd.vrow ndC_len
            subst hvn0
            clear hrow hml hx hv4 HM
            by_cases hm0 : m0 = (ns.length : Int)
            · have dA : (m0 == (ns.length : Int)) = true := by simp [hm0]
              have dAn : (m0 != (ns.length : Int)) = false := by simp [hm0]
              have HM : Hid (res = (match numO e with
              | some d => if x6 = wRef then some (addN x ⟨0, [], m1, true, d, m2, []⟩) else none
              | none => none)) := Lib.hid (by rw [HM2.out]; exact if_pos (by rw [HXN.out]; exact hm0))
              clear hm0 HM2
              go_wp2_with fail
              refine wp_region_grown [0, 1, 2, 3, 4, 5, 6, 7, 8, 9, 10, 11, 12, 13] [] (by kernel_rfl) (by kernel_rfl) ?_
              simp only [pick, List.map_cons, List.map_nil, List.getD_cons_succ, List.getD_cons_zero]
              iterate 1 (refine wpQuiet_step (fun K hK => ?_); go_simp; refine hK _ ?_; clear hK K)
              repeat (go_big_quiet_step (fail))
              refine wpQuiet_nil ?_
              intro w4 hw4
              have o4 := only_of_plus hw4
              clear hw4
              have R4 := Lib.hid (R2.out.kept o4); have O4 := Lib.hid (O2.out.nil_trans o4); have N4 := Lib.hid (N2.out.kept o4 (by simp)); have S4 := Lib.hid o4.size
              have o4' := o4
              clear o4 c0 lg q0 lq R2 O2 N2 dA dAn
              have O4' := Lib.hid o4'
              clear o4'
              go_wp2_with fail
              have c1 : w4.cell? ⟨g, 1, none⟩ = some (.int .i64 m1) := N4.out.cell (i := 1) (j := 0) itC_len rfl (by decide)
              have c2 : w4.cell? ⟨g, 2, none⟩ = some (.int .i64 m2) := N4.out.cell (i := 2) (j := 0) itC_len rfl (by decide)
              have lg := N4.out.lt
              refine wp_region_calm2 [0, 1, 2, 3, 4, 5, 6, 7] [9] (OnlyC ([] : List Nat) w4) (by kernel_rfl) (by kernel_rfl) ?_
              simp only [pick, List.map_cons, List.map_nil, List.getD_cons_succ, List.getD_cons_zero]
              iterate 8 (refine wpCalm_step (fun K hK => ?_); go_simp; refine hK _ ?_; clear hK K)
              refine wpCalm_nil ?_
              refine Rest.by (X := Nat) (fun y a => a.put (some 8) (.pointer (some ⟨y, 0, none⟩))) (fun y w' => w'.heap[y]? = some (.cells #[.int .i64 0, .slice none 0 0, .int .i64 m1, .bool true, .int .i64 0, .int .i64 m2, .slice none 0 0] 48 (0, 0)) ∧ Only [] w4 w' ∧ w4.heap.size ≤ y) ?_ ?_
              · rintro eb w5 ⟨hbn, hon, hyn⟩
                simp only [Act.put, List.setIfInBounds_toArray, List.set_cons_succ, List.set_cons_zero]
                have EB := Lib.hid hbn; have PE := Lib.hid hon; have YE := Lib.hid hyn
                clear hbn hon hyn c1 c2 lg
                have R5 := Lib.hid (R4.out.kept PE.out); have O5 := Lib.hid (O4.out.nil_trans PE.out)
                obtain ⟨_, _, hq6, s6, lw9⟩ := VRow.str (l := [wd, i, x2, t, x4, s, x6, e]) HV.out ((HO2.out.nil_trans O4'.out).nil_trans PE.out) (k := 6) (by simp)
                cases hq6
                obtain ⟨_, _, hq7, s7, _⟩ := VRow.str (l := [wd, i, x2, t, x4, s, x6, e]) HV.out ((HO2.out.nil_trans O4'.out).nil_trans PE.out) (k := 7) (by simp)
                cases hq7
                have t6 : w5.cell? ⟨bw, off + 6, none⟩ = some (.string (bstr x6)) := s6
                have t7 : w5.cell? ⟨bw, off + 7, none⟩ = some (.string (bstr e)) := s7
                have HC := Lib.hid (pNumber e hl7 w5 (HE.out.kept ((HO2.out.nil_trans O4'.out).nil_trans PE.out)))
                have OW := Lib.hid ((HO2.out.nil_trans O4'.out).nil_trans PE.out)
                clear s6 s7 R4 O4 N4 t6
                go_wp2_with fail
                refine HC.out.mono ?_
                rintro e5 w7 ⟨hvs, ho7⟩
                have R7 := Lib.hid (R5.out.kept ho7); have O7 := Lib.hid (O5.out.nil_trans ho7); have E7 := Lib.hid (ho7.got EB.out (by simp)); have OW7 := Lib.hid (OW.out.nil_trans ho7)
                obtain ⟨V, ok, rfl, hok⟩ : ∃ (V : Int) (ok : Bool), e5 = .returned (.tuple #[.int .i64 V, .bool ok]) ∧ ((ok = true ∧ numO e = some V) ∨ (ok = false ∧ numO e = none)) := by
                  cases hq : numO e with
                  | none => rw [hq] at hvs; obtain ⟨V, h⟩ := hvs; exact ⟨V, false, h, .inr ⟨rfl, rfl⟩⟩
                  | some u => rw [hq] at hvs; exact ⟨u, true, hvs, .inl ⟨rfl, rfl⟩⟩
                have HOK := Lib.hid hok
                have hbe : b ≠ eb := by have h1 := YE.out; have h2 := HRB.out; have h3 := HSZ.out; have h4 := S4.out; omega
                have hve : (Value.slice pn0 ns.length cn0).ownBlock ≠ some eb := fun hk => by have := HVN.out eb (by rw [hk]; simp); have h1 := YE.out; have h3 := HSZ.out; have h4 := S4.out; omega
                clear hok hvs ho7 HC t7 lw9 R5 O5 EB OW
                have fe4 := frozen_got E7.out 4; have ce4 := cell_got E7.out 4; have lee := got_lt E7.out
                go_upto_region 12 with (fail)
                refine wabs (G := fun w0 => Code.wp _ _ _ _ w0) (R := fun w0 => w0.heap[eb]? = some (.cells #[.int .i64 0, .slice none 0 0, .int .i64 m1, .bool true, .int .i64 V, .int .i64 m2, .slice none 0 0] 48 (0, 0)) ∧ Only [eb] w7 w0) ⟨setCell_got _ E7.out, (Only.refl _ _).setCell (.inl (by simp)) _⟩ ?_
                rintro w6 ⟨hE6, hO6⟩
                have E6 := Lib.hid hE6
                have R6 : Hid (RdW W0.heap.size b w6 x ns ls (.slice pn0 ns.length cn0) vl vf) := Lib.hid (rd_otherN R7.out E7.out hO6 hbe hve (by decide))
                have hwe : bw ≠ eb := by have h1 := YE.out; have h2 := HWB.out; have h3 := HSZ.out; have h4 := S4.out; omega
                have O6 : Hid (Ob b W0 w6) := Lib.hid (O7.out.row hO6 (fun k hk => by rw [List.mem_singleton] at hk; subst hk; exact ⟨by have h1 := YE.out; have h2 := H1.out.size; have h3 := HSZ.out; have h4 := S4.out; omega, _, _, E7.out⟩))
                obtain ⟨_, _, hq6, s6, lw8⟩ := VRow.str (l := [wd, i, x2, t, x4, s, x6, e]) HV.out OW7.out (k := 6) (by simp)
                cases hq6
                have t6 : w6.cell? ⟨bw, off + 6, none⟩ = some (.string (bstr x6)) := by rw [hO6.cell lw8 (by simpa using hwe)]; exact s6
                have lw9 : bw < w6.heap.size := Nat.lt_of_lt_of_le lw8 hO6.size
                clear hE6 hO6 fe4 ce4 lee R7 O7 E7 s6 lw8
                rcases HOK.out with ⟨rfl, hq⟩ | ⟨rfl, hq⟩
                · by_cases hw6 : x6 = wRef
                  · have HQ : Hid (res = some (addN x ⟨0, [], m1, true, V, m2, []⟩)) := Lib.hid (by rw [HM.out, hq]; exact if_pos hw6)
                    have tC : (bstr x6).toList = [114, 101, 102] := by rw [Lib.toList_data, hw6]; rfl
                    generalize bstr x6 = S6 at t6 tC
                    clear hq hw6 HM
                    go_upto_region 14 with (fail)
                    clear t6 tC lw9
                    have q0 := cell_got R6.out.box 0; have lq := got_lt R6.out.box
                    have e0 := cell_got E6.out 0
                    have e1 := cell_got E6.out 1
                    have e2 := cell_got E6.out 2
                    have e3 := cell_got E6.out 3
                    have e4 := cell_got E6.out 4
                    have e5 := cell_got E6.out 5
                    have e6 := cell_got E6.out 6
                    have le := got_lt E6.out
                    obtain ⟨S, hS⟩ : ∃ S, S = (Value.slice pn0 ns.length cn0).ownBlock.toList := ⟨_, rfl⟩
                    have hbS : b ∉ S := fun hm => by rw [hS] at hm; exact R6.out.nd.ne_box R6.out.box (by decide) (by simpa using hm)
                    have heS : eb ∉ S := fun hm => by rw [hS] at hm; have := HVN.out eb hm; have h2 := YE.out; have h3 := HSZ.out; have h4 := S4.out; omega
                    have HSE := Lib.hid hS
                    clear hS
                    go_wp2_with fail
                    refine wp_region_calm2 [0, 1, 2, 3, 4, 5, 6] [9, 10, 11, 12] (OnlyC S w6) (by kernel_rfl) (by kernel_rfl) ?_
                    simp only [pick, List.map_cons, List.map_nil, List.getD_cons_succ, List.getD_cons_zero]
                    iterate 7 (refine wpCalm_step (fun K hK => ?_); go_simp; refine hK _ ?_; clear hK K)
                    refine wpCalm_nil ?_
                    clear q0 lq e0 e1 e2 e3 e4 e5 e6 le
                    refine Rest.by (X := Nat × Nat) (fun y a => ((((a.put (some 110) (.slice (some ⟨w6.heap.size, 0, none⟩) 1 1)).put (some 111) (.slice (some ⟨y.1, 0, none⟩) (ns.length + 1) y.2)).put (some 112) (.pointer (some ⟨b, 0, none⟩))).put (some 113) (.pointer (some ⟨b, 0, none⟩))).put (some 114) (.pointer (some ⟨b, 0, none⟩)))
                      (fun y w' => Ob b W0 w' ∧ RdW W0.heap.size b w' (⟨{ x.sc with nd := x.sc.nd ++ [⟨0, [], m1, true, V, m2, []⟩] }, x.at_⟩ : SSt) (ns ++ [⟨⟨0, [], m1, true, V, m2, []⟩, none, 0, none, 0⟩]) ls (.slice (some ⟨y.1, 0, none⟩) (ns.length + 1) y.2) vl vf) ?_ ?_
                    · rintro ⟨g9, cap9⟩ w9 ⟨ho9, hr9⟩
                      simp only [Act.put, List.setIfInBounds_toArray, List.set_cons_succ, List.set_cons_zero]
                      have O9 := Lib.hid ho9; have R9 := Lib.hid hr9
                      clear ho9 hr9
                      have BP := Lib.hid R9.out.box
                      have lp := got_lt BP.out; have q5 := cell_got BP.out 5; have f5 := frozen_got BP.out 5
                      go_wp2
                      go_ret
                      rw [HQ.out]
                      refine ⟨rfl, H0.out, O9.out.setCell (.inl (by simp)) _, ns ++ [⟨⟨0, [], m1, true, V, m2, []⟩, none, 0, none, 0⟩], ls, .slice (some ⟨g9, 0, none⟩) (ns.length + 1) cap9, vl, vf, ?_⟩
                      exact R9.out.cell (x' := addN x ⟨0, [], m1, true, V, m2, []⟩) ((Only.refl [b] w9).setCell (.inl (by simp)) _) (setCell_got _ BP.out) rfl rfl rfl
                    · refine wpAnyC_next [7] (by kernel_rfl) (by simp) (.inr (onlyC (Only.refl S w6).drew)) ?_
                      simp only [List.mem_cons, List.not_mem_nil, or_false, forall_eq]
                      refine wpOp_one rfl ?_
                      go_wp2
                      simp only [nrm]
                      refine allocd_abs (G := wpAnyC _ _ _ _ _ _ _ _ _) ?_
                      intro wa hna hoa hsa
                      have MA := Lib.hid hna; have oA := Lib.hid hoa; have RA := Lib.hid (R6.out.kept hoa); have OA := Lib.hid (O6.out.nil_trans hoa)
                      clear hna hsa hoa
                      refine wpAnyC_next [8] (by kernel_rfl) (by simp) (.inr (onlyC (oA.out.mono (by simp)))) ?_
                      simp only [List.mem_cons, List.not_mem_nil, or_false, forall_eq]
                      refine wpOp_one rfl ?_
                      refine wpList_append_B (B := W0.heap.size) rfl _ _ 22 rfl 48 (.agg #[.int .i64 0, .slice none 0 0, .int .i64 0, .bool false, .int .i64 0, .int .i64 0, .slice none 0 0]) 7 88 Tryz.underlying22 (by kernel_rfl) rfl (by decide) ndC_len ndC_one ns (Value.slice pn0 ns.length cn0) rfl RA.out.nd w6.heap.size (⟨⟨0, [], m1, true, V, m2, []⟩, none, 0, none, 0⟩ : NdW) rfl (fun j u hj => ?_) (by simp [maxLen]; omega) (by omega) (Nat.le_trans (by have := OA.out.size; omega) (Nat.le_refl _)) ?_
                      · rw [cell_got MA.out]; rw [← hj]; simp [ndC]
                      · intro g9 cap9 wb hown hob _
                        rw [← HSE.out] at hob
                        have WB := Lib.hid hown; have oB := Lib.hid hob; have oS := Lib.hid ((oA.out.mono (S' := S) (by simp)).trans hob (fun x h => .inl h))
                        clear hown hob
                        simp only [wpList, nrm]
                        refine wpAnyC_next [9] (by kernel_rfl) (by simp) (.inr (onlyC oS.out)) ?_
                        simp only [List.mem_cons, List.not_mem_nil, or_false, forall_eq]
                        refine wpOp_one rfl ?_
                        go_wp2
                        simp only [nrm]
                        refine wpAnyC_next [10] (by kernel_rfl) (by simp) (.inr (onlyC oS.out)) ?_
                        simp only [List.mem_cons, List.not_mem_nil, or_false, forall_eq]
                        refine wpOp_one rfl ?_
                        go_wp2
                        simp only [nrm]
                        refine wpAnyC_next [11] (by kernel_rfl) (by simp) (.inr (onlyC oS.out)) ?_
                        simp only [List.mem_cons, List.not_mem_nil, or_false, forall_eq]
                        refine wpOp_one rfl ?_
                        go_wp2
                        simp only [nrm]
                        refine wpAnyC_next [12] (by kernel_rfl) (by simp) (.inr (onlyC oS.out)) ?_
                        simp only [List.mem_cons, List.not_mem_nil, or_false, forall_eq]
                        refine wpOp_one rfl ?_
                        have BP := Lib.hid (oS.out.got R6.out.box hbS)
                        have lp := got_lt BP.out
                        have qc := cell_got BP.out 0; have fq := frozen_got BP.out 0
                        go_wp2
                        simp only [nrm]
                        refine wpAnyC_done (by kernel_rfl) (.inl (late_of (by kernel_rfl))) ⟨(g9, cap9), rfl, ?_, ?_⟩
                        · refine (Ob.row (S := S) OA.out oB.out (fun k hk => ?_)).setCell (.inl (by simp)) _
                          rw [HSE.out] at hk
                          exact RA.out.nd.blockC (by simpa using hk)
                        · rw [HSE.out] at oB
                          exact RA.out.addN (x' := (⟨{ x.sc with nd := x.sc.nd ++ [⟨0, [], m1, true, V, m2, []⟩] }, x.at_⟩ : SSt)) oB.out WB.out ⟨rfl, rfl, rfl, rfl, rfl, rfl⟩ ((Only.refl [b] wb).setCell (.inl (by simp)) _) (setCell_got _ BP.out) rfl rfl rfl
                  · have HQ : Hid (res = none) := Lib.hid (by rw [HM.out, hq]; exact if_neg hw6)
                    have tC : ¬ (bstr x6).toList = [114, 101, 102] := fun q => hw6 (by rw [Lib.toList_data] at q; exact q)
                    have tCb : ((bstr x6).toList == [114, 101, 102]) = false := beq_eq_false_iff_ne.2 tC
                    have tCn : (!(bstr x6).toList == [114, 101, 102]) = true := by rw [tCb]; rfl
                    generalize bstr x6 = S6 at t6 tC tCb tCn
                    clear hq hw6 HM
                    go_wp2
                    go_ret
                    rw [HQ.out]
                    exact ⟨rfl, O6.out⟩
                · have HQ : Hid (res = none) := Lib.hid (by rw [HM.out, hq])
                  clear hq HM
                  go_wp2
                  go_ret
                  rw [HQ.out]
                  exact ⟨rfl, O6.out⟩
              · refine wpAnyC_next [8] (by kernel_rfl) (by simp) (.inr (onlyC (Only.refl [] w4).drew)) ?_
                simp only [List.mem_cons, List.not_mem_nil, or_false, forall_eq]
                refine wpOp_one rfl ?_
                go_wp2
                simp only [nrm]
                refine allocd_abs (G := wpAnyC _ _ _ _ _ _ _ _ _) ?_
                intro w5 hn5 ho5 hs5
                have M5 := Lib.hid hn5; have o25 := Lib.hid ho5
                clear hn5 hs5 ho5
                refine wpAnyC_next [9] (by kernel_rfl) (by simp) (.inr (onlyC o25.out)) ?_
                simp only [List.mem_cons, List.not_mem_nil, or_false, forall_eq]
                refine wpOp_one rfl ?_
                have la := got_lt M5.out
                have fa0 := frozen_got M5.out 0; have ca0 := cell_got M5.out 0
                have fa1 := frozen_got M5.out 1; have ca1 := cell_got M5.out 1
                have fa2 := frozen_got M5.out 2; have ca2 := cell_got M5.out 2
                have fa3 := frozen_got M5.out 3; have ca3 := cell_got M5.out 3
                have fa4 := frozen_got M5.out 4; have ca4 := cell_got M5.out 4
                have fa5 := frozen_got M5.out 5; have ca5 := cell_got M5.out 5
                have fa6 := frozen_got M5.out 6; have ca6 := cell_got M5.out 6
                go_wp2
                simp only [nrm]
                clear la fa0 ca0 fa1 ca1 fa2 ca2 fa3 ca3 fa4 ca4 fa5 ca5 fa6 ca6
                have o2 : Only [w4.heap.size] w5 (((((((w5.setCell ⟨w4.heap.size, 0, none⟩ (.int .i64 0)).setCell ⟨w4.heap.size, 1, none⟩ (.slice none 0 0)).setCell ⟨w4.heap.size, 2, none⟩ (.int .i64 m1)).setCell ⟨w4.heap.size, 3, none⟩ (.bool true)).setCell ⟨w4.heap.size, 4, none⟩ (.int .i64 0)).setCell ⟨w4.heap.size, 5, none⟩ (.int .i64 m2)).setCell ⟨w4.heap.size, 6, none⟩ (.slice none 0 0)) := ((((((((Only.refl _ w5).setCell (.inl (by simp)) _).setCell (.inl (by simp)) _).setCell (.inl (by simp)) _).setCell (.inl (by simp)) _).setCell (.inl (by simp)) _).setCell (.inl (by simp)) _).setCell (.inl (by simp)) _)
                have o3 := o25.out.trans o2 (by simp)
                exact wpAnyC_done (by kernel_rfl) (.inr (onlyC o3)) ⟨w4.heap.size, rfl, (setCell_got _ (setCell_got _ (setCell_got _ (setCell_got _ (setCell_got _ (setCell_got _ (setCell_got _ M5.out))))))), o3, Nat.le_refl _⟩
            · have dA : (m0 == (ns.length : Int)) = false := by simp [hm0]
              have dAn : (m0 != (ns.length : Int)) = true := by simp [hm0]
              have HQ : Hid (res = none) := Lib.hid (by rw [HM2.out]; exact if_neg (fun q => hm0 (by rw [HXN.out] at q; exact q)))
              clear hm0 HM2
              go_wp2_with fail
              refine wp_region_grown [0, 1, 2, 3, 4, 5, 6, 7, 8, 9, 10, 11, 12, 13] [] (by kernel_rfl) (by kernel_rfl) ?_
              simp only [pick, List.map_cons, List.map_nil, List.getD_cons_succ, List.getD_cons_zero]
              iterate 1 (refine wpQuiet_step (fun K hK => ?_); go_simp; refine hK _ ?_; clear hK K)
              repeat (go_big_quiet_step (fail))
              refine wpQuiet_nil ?_
              intro w4 hw4
              have o4 := only_of_plus hw4
              clear hw4
              have O4 := Lib.hid (O2.out.nil_trans o4)
              go_wp2
              go_ret
              rw [HQ.out]
              exact ⟨rfl, O4.out⟩
        · refine wpAnyC_next [9] (by kernel_rfl) (by simp) (.inr (onlyC (Only.refl [] w).drew)) ?_
          simp only [List.mem_cons, List.not_mem_nil, or_false, forall_eq]
          refine wpOp_one rfl ?_
          go_wp2
          simp only [nrm]
          refine allocd_abs (G := wpAnyC _ _ _ _ _ _ _ _ _) ?_
          intro wa hna hoa hsa
          have hrow : RowAt strC 9 1 wa w.heap.size 3 [i, t, s] := ⟨_, hna, rfl, Nat.le_refl _, by decide, rfl⟩
          have HN := Lib.hid (pNumbers (hrow.vrow strC_len rfl) (by simp) (by intro y hy; simp only [List.mem_cons, List.not_mem_nil, or_false] at hy; rcases hy with rfl | rfl | rfl <;> assumption) (HE.out.kept hoa))
          have oA := Lib.hid hoa
          clear hna hsa hoa hrow
          refine wpAnyC_next [10] (by kernel_rfl) (by simp) (.inl (late_of (by kernel_rfl))) ?_
          simp only [List.mem_cons, List.not_mem_nil, or_false, forall_eq]
          refine wpOp_one rfl ?_
          go_wp2_with fail
          refine HN.out.mono ?_
          rintro e wc ⟨hv4, ho4⟩
          obtain ⟨v0, v1, rfl⟩ := numsR_form hv4
          have HV4 : Hid (NumsR (numsO [i, t, s]) w (.returned (.tuple #[v0, v1])) wc) := Lib.hid (hv4.back oA.out)
          have HO4 := Lib.hid (oA.out.nil_trans ho4)
          clear hv4 ho4 HN
          go_wp2
          simp only [nrm]
          refine wpAnyC_next [11] (by kernel_rfl) (by simp) (.inl (late_of (by kernel_rfl))) ?_
          simp only [List.mem_cons, List.not_mem_nil, or_false, forall_eq]
          refine wpOp_one rfl ?_
          go_wp2
          simp only [nrm]
          refine wpAnyC_next [12, 13] (by kernel_rfl) (by simp) (.inl (late_of (by kernel_rfl))) ?_
          simp only [List.mem_cons, List.not_mem_nil, or_false, forall_eq_or_imp, forall_eq]
          refine ⟨?_, ?_⟩
          · refine wpOp_one rfl ?_
            go_wp2
            simp only [nrm]
            refine wpAnyC_next [13, 14] (by kernel_rfl) (by simp) (.inl (late_of (by kernel_rfl))) ?_
            simp only [List.mem_cons, List.not_mem_nil, or_false, forall_eq_or_imp, forall_eq]
            refine ⟨?_, ?_⟩
            · refine wpOp_one rfl ?_
              go_wp2
              simp only [nrm]
              refine wpAnyC_next [14] (by kernel_rfl) (by simp) (.inl (late_of (by kernel_rfl))) ?_
              simp only [List.mem_cons, List.not_mem_nil, or_false, forall_eq]
              refine wpOp_one rfl ?_
              go_wp2
              simp only [nrm]
              refine wpAnyC_next [15] (by kernel_rfl) (by simp) (.inl (late_of (by kernel_rfl))) ?_
              simp only [List.mem_cons, List.not_mem_nil, or_false, forall_eq]
              refine wpOp_one rfl ?_
              go_wp2
              simp only [nrm]
              refine wpAnyC_done (by kernel_rfl) (.inl (late_of (by kernel_rfl))) ⟨(v0, v1), ?_, HV4.out, HO4.out⟩
              simp only [Act.put, List.setIfInBounds_toArray, List.set_cons_succ, List.set_cons_zero]
            · refine wpOp_one rfl ?_
              go_wp2
              simp only [nrm]
              refine wpAnyC_next [13] (by kernel_rfl) (by simp) (.inl (late_of (by kernel_rfl))) ?_
              simp only [List.mem_cons, List.not_mem_nil, or_false, forall_eq]
              refine wpOp_one rfl ?_
              go_wp2
              simp only [nrm]
              refine wpAnyC_next [15] (by kernel_rfl) (by simp) (.inl (late_of (by kernel_rfl))) ?_
              simp only [List.mem_cons, List.not_mem_nil, or_false, forall_eq]
              refine wpOp_one rfl ?_
              go_wp2
              simp only [nrm]
              refine wpAnyC_done (by kernel_rfl) (.inl (late_of (by kernel_rfl))) ⟨(v0, v1), ?_, HV4.out, HO4.out⟩
              simp only [Act.put, List.setIfInBounds_toArray, List.set_cons_succ, List.set_cons_zero]
          · refine wpOp_one rfl ?_
            go_wp2
            simp only [nrm]
            refine wpAnyC_next [12] (by kernel_rfl) (by simp) (.inl (late_of (by kernel_rfl))) ?_
            simp only [List.mem_cons, List.not_mem_nil, or_false, forall_eq]
            refine wpOp_one rfl ?_
            go_wp2
            simp only [nrm]
            refine wpAnyC_next [14] (by kernel_rfl) (by simp) (.inl (late_of (by kernel_rfl))) ?_
            simp only [List.mem_cons, List.not_mem_nil, or_false, forall_eq]
            refine wpOp_one rfl ?_
            go_wp2
            simp only [nrm]
            refine wpAnyC_next [15] (by kernel_rfl) (by simp) (.inl (late_of (by kernel_rfl))) ?_
            simp only [List.mem_cons, List.not_mem_nil, or_false, forall_eq]
            refine wpOp_one rfl ?_
            go_wp2
            simp only [nrm]
            refine wpAnyC_done (by kernel_rfl) (.inl (late_of (by kernel_rfl))) ⟨(v0, v1), ?_, HV4.out, HO4.out⟩
            simp only [Act.put, List.setIfInBounds_toArray, List.set_cons_succ, List.set_cons_zero]
      · have HQ : Hid (res = none) := Lib.hid (by rw [HRD.out]; exact if_neg (fun q => hw4 q.2.2))
        have tA : (bstr x2).toList = [116, 111, 108] := by rw [Lib.toList_data, hw2]; rfl
        generalize bstr x2 = S2 at t2 tA
        have tB : ¬ (bstr x4).toList = [115, 116, 97, 114, 116] := fun q => hw4 (by rw [Lib.toList_data] at q; exact q)
        have tBb : ((bstr x4).toList == [115, 116, 97, 114, 116]) = false := beq_eq_false_iff_ne.2 tB
        have tBn : (!(bstr x4).toList == [115, 116, 97, 114, 116]) = true := by rw [tBb]; rfl
        generalize bstr x4 = S4 at t4 tB tBb tBn
        clear hw2 hw4 HRD
        go_wp2
        go_ret
        rw [HQ.out]
        exact ⟨rfl, H1.out⟩
    · have HQ : Hid (res = none) := Lib.hid (by rw [HRD.out]; exact if_neg (fun q => hw2 q.2.1))
      have tA : ¬ (bstr x2).toList = [116, 111, 108] := fun q => hw2 (by rw [Lib.toList_data] at q; exact q)
      have tAb : ((bstr x2).toList == [116, 111, 108]) = false := beq_eq_false_iff_ne.2 tA
      have tAn : (!(bstr x2).toList == [116, 111, 108]) = true := by rw [tAb]; rfl
      generalize bstr x2 = S2 at t2 tA tAb tAn
      clear hw2 HRD
      go_wp2
      go_ret
      rw [HQ.out]
      exact ⟨rfl, H1.out⟩
end Go.Proofs.YthmeifdgkodjlaaGreatDoor

/- The numbered lines of a text, and reading them one by one. Plain Lean, no condition. -/
namespace Go.Proofs.YthmeifdgkodjlaaGreatDoor
open Go

/-- the lines with their line feeds and numbers, out of the pieces between line feeds -/
def lnsO : Nat → List (List UInt8) → List (Nat × List UInt8)
  | _, [] => []
  | n, [l] => if l = [] then [] else [(n, l)]
  | n, l :: q :: r => (n, l ++ [10]) :: lnsO (n + 1) (q :: r)
theorem lnsO_cons (n : Nat) (l : List UInt8) {r : List (List UInt8)} (h : r ≠ []) : lnsO n (l :: r) = (n, l ++ [10]) :: lnsO (n + 1) r := by
  cases r with
  | nil => exact absurd rfl h
  | cons q r => rfl
/-- reading them -/
def rdI : SSt → List (Nat × List UInt8) → Except Nat SSt
  | x, [] => .ok x
  | x, (n, l) :: r => if l.getLast? = some 10 then (match rdW x (pcs 32 l.dropLast) with
      | none => .error n
      | some y => rdI y r) else .error n
theorem rdI_snoc : ∀ (p : List (Nat × List UInt8)) (x y : SSt) (n : Nat) (l : List UInt8), rdI x p = .ok y →
    rdI x (p ++ [(n, l)]) = if l.getLast? = some 10 then (match rdW y (pcs 32 l.dropLast) with
      | none => .error n
      | some z => .ok z) else .error n
  | [], x, y, n, l, h => by
    cases h
    simp only [List.nil_append, rdI]
  | (m, q) :: p, x, y, n, l, h => by
    simp only [List.cons_append, rdI] at h ⊢
    split at h
    · rename_i hq
      rw [if_pos hq]
      cases hz : rdW x (pcs 32 q.dropLast) with
      | none => rw [hz] at h; cases h
      | some z => rw [hz] at h; exact rdI_snoc p z y n l h
    · cases h
theorem rdI_err : ∀ (p r : List (Nat × List UInt8)) (x : SSt) (m : Nat), rdI x p = .error m → rdI x (p ++ r) = .error m
  | [], _, _, _, h => by cases h
  | (n, q) :: p, r, x, m, h => by
    simp only [List.cons_append, rdI] at h ⊢
    split at h
    · rename_i hq
      rw [if_pos hq]
      cases hz : rdW x (pcs 32 q.dropLast) with
      | none => rw [hz] at h; exact h
      | some z => rw [hz] at h; exact rdI_err p r z m h
    · rename_i hq
      rw [if_neg hq]; exact h
theorem rdA_lns : ∀ (ps : List (List UInt8)) (x : SSt) (n : Nat), ps ≠ [] → (∀ p ∈ ps, (10 : UInt8) ∉ p) →
    rdA x n ps = match rdI x (lnsO n ps) with
      | .error m => .error m
      | .ok y => if whole y.at_ = true then .ok y else .error (n + (lnsO n ps).length)
  | [], _, _, h, _ => absurd rfl h
  | [l], x, n, _, hn => by
    rw [rdA, lnsO]
    by_cases hl : l = []
    · subst hl
      simp only [if_true, rdI, true_and, List.length_nil, Nat.add_zero]
    · have hg : l.getLast? ≠ some 10 := fun e => hn l (by simp) (List.mem_of_getLast? e)
      rw [if_neg (fun h => hl h.1), if_neg hl]
      simp only [rdI, if_neg hg]
  | l :: q :: r, x, n, _, hn => by
    rw [rdA]
    · rw [lnsO]
      have hg : (l ++ [10]).getLast? = some 10 := by simp
      simp only [rdI, if_pos hg, List.dropLast_concat]
      cases hz : rdW x (pcs 32 l) with
      | none => rfl
      | some y =>
        simp only
        rw [rdA_lns (q :: r) y (n + 1) (by simp) (fun p hp => hn p (by simp [hp]))]
        cases rdI y (lnsO (n + 1) (q :: r)) with
        | error m => rfl
        | ok z => simp only [List.length_cons]; rw [show n + ((lnsO (n + 1) (q :: r)).length + 1) = n + 1 + (lnsO (n + 1) (q :: r)).length by omega]
    · intro e; cases e
theorem lnsO_num : ∀ (ps : List (List UInt8)) (n i : Nat) (y : Nat × List UInt8), (lnsO n ps)[i]? = some y → y.1 = n + i
  | [], _, _, _, h => by simp [lnsO] at h
  | [l], n, i, y, h => by
    rw [lnsO] at h
    split at h
    · simp at h
    · cases i with
      | zero => simp at h; rw [← h]; simp
      | succ i => simp at h
  | l :: q :: r, n, i, y, h => by
    rw [lnsO] at h
    cases i with
    | zero => simp at h; rw [← h]; simp
    | succ i =>
      rw [List.getElem?_cons_succ] at h
      have := lnsO_num (q :: r) (n + 1) i y h
      omega
theorem lnsO_length : ∀ (ps : List (List UInt8)) (n : Nat), (lnsO n ps).length ≤ ps.length
  | [], _ => by simp [lnsO]
  | [l], n => by rw [lnsO]; split <;> simp
  | l :: q :: r, n => by
    rw [lnsO]
    have := lnsO_length (q :: r) (n + 1)
    simp at this ⊢; omega
/-- one line is taken off a text -/
theorem lns_step (n : Nat) (L : List UInt8) (h : L ≠ []) : ∃ l r, L = l ++ r ∧ l ≠ [] ∧ lnsO n (pcs 10 L) = (n, l) :: lnsO (n + 1) (pcs 10 r) ∧
    ((10 : UInt8) ∉ L ∧ l = L ∧ r = [] ∨ ∃ a, (10 : UInt8) ∉ a ∧ l = a ++ [10]) := by
  by_cases hc : (10 : UInt8) ∈ L
  · obtain ⟨a, r, rfl, ha⟩ := cut_first L hc
    refine ⟨a ++ [10], r, by simp, by simp, ?_, .inr ⟨a, ha, rfl⟩⟩
    rw [pcs_cut r ha, lnsO_cons n a (pcs_ne 10 r)]
  · refine ⟨L, [], by simp, h, ?_, .inl ⟨hc, rfl, rfl⟩⟩
    rw [pcs_no hc]
    simp [lnsO, h, pcs]
theorem lns_nil (n : Nat) : lnsO n (pcs 10 []) = [] := by simp [lnsO, pcs]
theorem lnsO_mem : ∀ (ps : List (List UInt8)) (n : Nat) (y : Nat × List UInt8), y ∈ lnsO n ps → ∃ p ∈ ps, y.2 = p ∨ y.2 = p ++ [10]
  | [], _, _, h => by simp [lnsO] at h
  | [l], n, y, h => by
    rw [lnsO] at h
    split at h
    · simp at h
    · simp at h; exact ⟨l, by simp, .inl (by rw [h])⟩
  | l :: q :: r, n, y, h => by
    rw [lnsO] at h
    rcases List.mem_cons.1 h with rfl | h
    · exact ⟨l, by simp, .inr rfl⟩
    · obtain ⟨p, hp, hy⟩ := lnsO_mem (q :: r) (n + 1) y h
      exact ⟨p, List.mem_cons_of_mem _ hp, hy⟩
theorem mem_pcs_len {c : UInt8} : ∀ {l p : List UInt8}, p ∈ pcs c l → p.length ≤ l.length
  | [], p, h => by simp [pcs] at h; simp [h]
  | x :: r, p, h => by
    unfold pcs at h
    split at h
    · rcases List.mem_cons.1 h with rfl | h
      · simp
      · have := mem_pcs_len h; simp; omega
    · split at h
      · rename_i e; exact absurd e (pcs_ne c r)
      · rename_i q t e
        rcases List.mem_cons.1 h with rfl | h
        · have := mem_pcs_len (c := c) (l := r) (p := q) (by rw [e]; simp)
          simp; omega
        · have := mem_pcs_len (c := c) (l := r) (p := p) (by rw [e]; simp [h])
          simp; omega
/-- what reading gives, for Parse -/
def endS (r : Except Nat SSt) (n : Nat) : Sc × Nat × Int := match r with
  | .error m => (sc0, m, 19)
  | .ok x => if whole x.at_ = true then (if chkS x.sc = 0 then (x.sc, 0, 0) else (sc0, 0, chkS x.sc)) else (sc0, n + 1, 19)
theorem prsS_lns (s : List UInt8) : prsS s = endS (rdI ss0 (lnsO 1 (pcs 10 s))) (lnsO 1 (pcs 10 s)).length := by
  unfold prsS endS
  rw [rdA_lns _ _ _ (pcs_ne 10 s) (fun p hp => mem_pcs hp)]
  cases rdI ss0 (lnsO 1 (pcs 10 s)) with
  | error m => rfl
  | ok y =>
    simp only
    by_cases hw : whole y.at_ = true
    · rw [if_pos hw, if_pos hw]
    · rw [if_neg hw, if_neg hw, Nat.add_comm]

/-- the parts are not more than the lines -/
structure SLm (n : Nat) (x : SSt) : Prop where
  nd : x.sc.nd.length ≤ n
  lk : x.sc.lk.length ≤ n
  ft : x.sc.ft.length ≤ n
  sg : ∀ y ∈ x.sc.nd, y.sg.length ≤ n ∧ y.sv.length ≤ n
  ch : ∀ y ∈ x.sc.lk, y.ch.length ≤ n
  l6 : x.at_ = 6 → 0 < x.sc.lk.length
theorem slm0 : SLm 0 ss0 := ⟨by simp [ss0, sc0], by simp [ss0, sc0], by simp [ss0, sc0], by simp [ss0, sc0], by simp [ss0, sc0], by simp [ss0]⟩
theorem slm_step {x y : SSt} {ws : List (List UInt8)} {n : Nat} (hi : SLm n x) (h : rdW x ws = some y) : SLm (n + 1) y := by
  obtain ⟨⟨nd, lk, ft, un, sd⟩, a⟩ := x
  obtain ⟨i1, i2, i3, i4, i5, i6⟩ := hi
  simp only at i1 i2 i3 i4 i5 i6
  have i4' : ∀ y ∈ nd, y.sg.length ≤ n + 1 ∧ y.sv.length ≤ n + 1 := fun y hy => by have := i4 y hy; omega
  have i5' : ∀ y ∈ lk, y.ch.length ≤ n + 1 := fun y hy => by have := i5 y hy; omega
  rcases ws with _ | ⟨w, r⟩
  · cases h
  · rw [rdW] at h
    split at h
    · obtain ⟨m, rfl, h0, rfl⟩ := until_inv h
      exact ⟨by simp; omega, by simp; omega, by simp; omega, i4', i5', by simp⟩
    · split at h
      · obtain ⟨m, rfl, h0, rfl, _⟩ := seed_inv h
        exact ⟨by simp; omega, by simp; omega, by simp; omega, i4', i5', by simp⟩
      · split at h
        · obtain ⟨m, hr, h0, rfl, e1, e2, e3⟩ := node_inv h
          refine ⟨by simp [addN]; omega, by simp [addN]; omega, by simp [addN]; omega, fun y hy => ?_, i5', by simp [addN]⟩
          rcases List.mem_append.1 hy with hy | hy
          · exact i4' y hy
          · obtain rfl : y = m := by simpa using hy
            rw [e2, e3]; simp
        · split at h
          · obtain ⟨l, m, hl, hc⟩ := part_inv h
            simp only at hl
            have hm := i4 m (by rw [hl]; simp)
            have hlen : nd.length = l.length + 1 := by rw [hl]; simp
            have key : ∀ m' : Nd, m'.sg.length ≤ n + 1 ∧ m'.sv.length ≤ n + 1 → ∀ y ∈ l ++ [m'], y.sg.length ≤ n + 1 ∧ y.sv.length ≤ n + 1 := fun m' hm' y hy => by
              rcases List.mem_append.1 hy with hy | hy
              · exact i4' y (by rw [hl]; simp [hy])
              · obtain rfl : y = m' := by simpa using hy
                exact hm'
            rcases hc with ⟨p, rfl, h3, _, rfl⟩ | ⟨v, rfl, h3, _, rfl⟩ | ⟨s, rfl, h3, _, rfl⟩
            · exact ⟨by simp; omega, by simp; omega, by simp; omega, key _ ⟨by simp; omega, by simp; omega⟩, i5', by simp⟩
            · exact ⟨by simp; omega, by simp; omega, by simp; omega, key _ ⟨by simp; omega, by simp; omega⟩, i5', by simp⟩
            · exact ⟨by simp; omega, by simp; omega, by simp; omega, key _ ⟨by simp; omega, by simp; omega⟩, i5', by simp⟩
          · split at h
            · obtain ⟨k, hr, h0, rfl, e1, e2, e3⟩ := link_inv h
              refine ⟨by simp; omega, by simp; omega, by simp; omega, i4', fun y hy => ?_, by simp⟩
              rcases List.mem_append.1 hy with hy | hy
              · exact i5' y hy
              · obtain rfl : y = k := by simpa using hy
                rw [e1]; simp
            · split at h
              · obtain ⟨l, k, c, hl, h6, hr, rfl⟩ := change_inv h
                simp only at hl
                have hm := i5 k (by rw [hl]; simp)
                have hlen : lk.length = l.length + 1 := by rw [hl]; simp
                refine ⟨by simp; omega, by simp; omega, by simp; omega, i4', fun y hy => ?_, by simp⟩
                rcases List.mem_append.1 hy with hy | hy
                · exact i5' y (by rw [hl]; simp [hy])
                · obtain rfl : y = { k with ch := k.ch ++ [c] } := by simpa using hy
                  simp; omega
              · split at h
                · obtain ⟨f, hr, h0, rfl⟩ := fault_inv h
                  exact ⟨by simp; omega, by simp; omega, by simp; omega, i4', i5', by simp⟩
                · cases h
theorem slm_run : ∀ (p : List (Nat × List UInt8)) (x y : SSt) (n : Nat), SLm n x → rdI x p = .ok y → SLm (n + p.length) y
  | [], x, y, n, hi, h => by cases h; exact hi
  | (m, l) :: p, x, y, n, hi, h => by
    simp only [rdI] at h
    split at h
    · cases hz : rdW x (pcs 32 l.dropLast) with
      | none => rw [hz] at h; cases h
      | some z =>
        rw [hz] at h
        have := slm_run p z y (n + 1) (slm_step hi hz) h
        rw [List.length_cons, show n + (p.length + 1) = n + 1 + p.length by omega]
        exact this
    · cases h
end Go.Proofs.YthmeifdgkodjlaaGreatDoor

/- node and read of the reader. Conditions: the library's variables are laid; the lengths. -/
namespace Go.Proofs.YthmeifdgkodjlaaGreatDoor
open Go.RowKit

theorem rdNode_st {x : SSt} {r : List (List UInt8)} (h : ¬ (x.at_ = 2 ∨ x.at_ = 4 ∨ x.at_ = 5)) : rdNode x r = none := by
  unfold rdNode
  split
  · exact if_neg (fun q => h q.1)
  · exact if_neg (fun q => h q.1)
  · rfl
theorem rdNode_len {x : SSt} {r : List (List UInt8)} (h5 : r.length ≠ 5) (h7 : r.length ≠ 7) : rdNode x r = none := by
  unfold rdNode
  split
  · exact absurd rfl h5
  · exact absurd rfl h7
  · rfl
set_option maxRecDepth 100000 in
set_option maxHeartbeats 4000000 in
theorem kNode {W0 : Two} {w : World} {b : Nat} {x : SSt} {p : Option Addr} {n cap : Nat} {wd : List UInt8} {r : List (List UInt8)} (h : RdX W0 b w x) (hsz : SLe 100000 x) (hv : VRow strC 1 w p n cap (wd :: r)) (hn : n ≤ 100000) (hl : ∀ y ∈ wd :: r, y.length ≤ 1000000) (he : Env w) :
    Calls Tryz.prog 70 #[.pointer (some ⟨b, 0, none⟩), .slice p n cap] w fun e' w' => RdR W0 b (rdNode x r) e' w' := by
  have hlen := hv.len
  subst hlen
  by_cases hst : x.at_ = 2 ∨ x.at_ = 4 ∨ x.at_ = 5
  · by_cases h5 : r.length = 5
    · rcases r with _ | ⟨i, _ | ⟨x2, _ | ⟨t, _ | ⟨x4, _ | ⟨s, _ | ⟨q, r⟩⟩⟩⟩⟩⟩
      · simp at h5
      · simp at h5
      · simp at h5
      · simp at h5
      · simp at h5
      · exact kNode6 h hsz hv hl he hst
      · simp at h5
    · by_cases h7 : r.length = 7
      · rcases r with _ | ⟨i, _ | ⟨x2, _ | ⟨t, _ | ⟨x4, _ | ⟨s, _ | ⟨x6, _ | ⟨e, _ | ⟨q, r⟩⟩⟩⟩⟩⟩⟩⟩
        · simp at h7
        · simp at h7
        · simp at h7
        · simp at h7
        · simp at h7
        · simp at h7
        · simp at h7
        · exact kNode8 h hsz hv hl he hst
        · simp at h7
      · have HQ := Lib.hid (rdNode_len (x := x) h5 h7)
        generalize rdNode x r = res at HQ ⊢
        obtain ⟨hb0, hb1, ns, ls, vn, vl, vf, hR⟩ := h
        have hlq : (wd :: r).length = r.length + 1 := rfl
        rw [hlq] at hn ⊢
        generalize r.length = m at hn h5 h7 ⊢
        have HR := Lib.hid hR; have H1 := Lib.hid hb1; have HST := Lib.hid hst
        have q5 := cell_got HR.out.box 5; have lq := got_lt HR.out.box
        have z8 : (((m : Int) + 1) == 8) = false := by rw [beq_eq_false_iff_ne]; omega
        have z8n : (((m : Int) + 1) != 8) = true := by rw [bne_iff_ne]; omega
        have z6 : (((m : Int) + 1) == 6) = false := by rw [beq_eq_false_iff_ne]; omega
        have z6n : (((m : Int) + 1) != 6) = true := by rw [bne_iff_ne]; omega
        clear hR hb0 hb1 hsz hv hl he hst h5 h7 hlq
        go_enter Tryz.func70, Tryz.ntmps70
        go_upto_region 1 with (fail)
        go_cut [27] (fun u27 wx => u27 = .bool false ∧ w = wx)
        case first =>
          rcases HST.out with h | h | h
          · have e2 : ((x.at_ : Int) == 2) = true := by rw [beq_iff_eq]; omega
            have e2n : ((x.at_ : Int) != 2) = false := by rw [bne_eq_false_iff_eq]; omega
            have e4 : ((x.at_ : Int) == 4) = false := by rw [beq_eq_false_iff_ne]; omega
            have e4n : ((x.at_ : Int) != 4) = true := by rw [bne_iff_ne]; omega
            have e5 : ((x.at_ : Int) == 5) = false := by rw [beq_eq_false_iff_ne]; omega
            have e5n : ((x.at_ : Int) != 5) = true := by rw [bne_iff_ne]; omega
            clear h
            go_wp2_with fail
            go_meet
            exact ⟨rfl, rfl⟩
          · have e2 : ((x.at_ : Int) == 2) = false := by rw [beq_eq_false_iff_ne]; omega
            have e2n : ((x.at_ : Int) != 2) = true := by rw [bne_iff_ne]; omega
            have e4 : ((x.at_ : Int) == 4) = true := by rw [beq_iff_eq]; omega
            have e4n : ((x.at_ : Int) != 4) = false := by rw [bne_eq_false_iff_eq]; omega
            have e5 : ((x.at_ : Int) == 5) = false := by rw [beq_eq_false_iff_ne]; omega
            have e5n : ((x.at_ : Int) != 5) = true := by rw [bne_iff_ne]; omega
            clear h
            go_wp2_with fail
            go_meet
            exact ⟨rfl, rfl⟩
          · have e2 : ((x.at_ : Int) == 2) = false := by rw [beq_eq_false_iff_ne]; omega
            have e2n : ((x.at_ : Int) != 2) = true := by rw [bne_iff_ne]; omega
            have e4 : ((x.at_ : Int) == 4) = false := by rw [beq_eq_false_iff_ne]; omega
            have e4n : ((x.at_ : Int) != 4) = true := by rw [bne_iff_ne]; omega
            have e5 : ((x.at_ : Int) == 5) = true := by rw [beq_iff_eq]; omega
            have e5n : ((x.at_ : Int) != 5) = false := by rw [bne_eq_false_iff_eq]; omega
            clear h
            go_wp2_with fail
            go_meet
            exact ⟨rfl, rfl⟩
        case rest =>
          obtain ⟨rfl, rfl⟩ := hcut
          go_wp2
          go_ret
          rw [HQ.out]
          exact ⟨rfl, H1.out⟩
  · have HQ := Lib.hid (rdNode_st (r := r) hst)
    generalize rdNode x r = res at HQ ⊢
    obtain ⟨hb0, hb1, ns, ls, vn, vl, vf, hR⟩ := h
    have HR := Lib.hid hR; have H1 := Lib.hid hb1
    have q5 := cell_got HR.out.box 5; have lq := got_lt HR.out.box
    have e2 : ((x.at_ : Int) == 2) = false := by rw [beq_eq_false_iff_ne]; omega
    have e2n : ((x.at_ : Int) != 2) = true := by rw [bne_iff_ne]; omega
    have e4 : ((x.at_ : Int) == 4) = false := by rw [beq_eq_false_iff_ne]; omega
    have e4n : ((x.at_ : Int) != 4) = true := by rw [bne_iff_ne]; omega
    have e5 : ((x.at_ : Int) == 5) = false := by rw [beq_eq_false_iff_ne]; omega
    have e5n : ((x.at_ : Int) != 5) = true := by rw [bne_iff_ne]; omega
    clear hR hb0 hb1 hsz hv hl he hst hn
    generalize (wd :: r).length = nn
    go_enter Tryz.func70, Tryz.ntmps70
    go_wp2
    go_ret
    rw [HQ.out]
    exact ⟨rfl, H1.out⟩
theorem rdR_form {W0 : Two} {w : World} {b : Nat} {r : Option SSt} {e : Ending} (h : RdR W0 b r e w) : ∃ ok, e = .returned (.bool ok) := by
  cases r with
  | none => exact ⟨_, h.1⟩
  | some y => exact ⟨_, h.1⟩
set_option maxRecDepth 100000 in
set_option maxHeartbeats 4000000 in
theorem kRead_wUntil {W0 : Two} {w : World} {b : Nat} {x : SSt} {p : Option Addr} {n cap : Nat} {r : List (List UInt8)} (h : RdX W0 b w x) (hsz : SLe 100000 x) (hlk : x.at_ = 6 → 0 < x.sc.lk.length) (hv : VRow strC 1 w p n cap (wUntil :: r)) (hn : n ≤ 100000) (hl : ∀ y ∈ wUntil :: r, y.length ≤ 1000000) (he : Env w) :
    Calls Tryz.prog 39 #[.pointer (some ⟨b, 0, none⟩), .slice p n cap] w fun e w' => RdR W0 b (rdW x (wUntil :: r)) e w' := by
  have _u : True := by have := hsz; have := hlk; have := hl; have := he; trivial
  rw [show rdW x (wUntil :: r) = rdUntil x r by
    rw [rdW]
    rw [if_pos rfl]]
  have HC := Lib.hid (kUntil h hv hn hl he)
  generalize rdUntil x r = res at HC ⊢
  have hlen := hv.len
  have HV := Lib.hid hv
  subst hlen
  obtain ⟨bw, off, hp, s0, lw⟩ := HV.out.str (Only.refl [] w) (k := 0) (by simp)
  subst hp
  have t0 : w.cell? ⟨bw, off, none⟩ = some (.string (bstr wUntil)) := s0
  have tO : (bstr wUntil).toList = [117, 110, 116, 105, 108] := by rw [Lib.toList_data]; rfl
  generalize bstr wUntil = S at t0 tO
  have hlq : (wUntil :: r).length = r.length + 1 := rfl
  have hcp := HV.out.le
  rw [hlq] at hn hcp HC ⊢
  generalize r.length = m at hn hcp HC ⊢
  clear h hsz hlk hv hl he s0 HV hlq
  go_enter Tryz.func39, Tryz.ntmps39
  go_wp2_with fail
  refine HC.out.mono ?_
  rintro e w1 hr
  obtain ⟨ok, rfl⟩ := rdR_form hr
  have HR := Lib.hid hr
  clear hr HC
  go_wp2
  go_ret
  exact HR.out
set_option maxRecDepth 100000 in
set_option maxHeartbeats 4000000 in
theorem kRead_wSeed {W0 : Two} {w : World} {b : Nat} {x : SSt} {p : Option Addr} {n cap : Nat} {r : List (List UInt8)} (h : RdX W0 b w x) (hsz : SLe 100000 x) (hlk : x.at_ = 6 → 0 < x.sc.lk.length) (hv : VRow strC 1 w p n cap (wSeed :: r)) (hn : n ≤ 100000) (hl : ∀ y ∈ wSeed :: r, y.length ≤ 1000000) (he : Env w) :
    Calls Tryz.prog 39 #[.pointer (some ⟨b, 0, none⟩), .slice p n cap] w fun e w' => RdR W0 b (rdW x (wSeed :: r)) e w' := by
  have _u : True := by have := hsz; have := hlk; have := hl; have := he; trivial
  rw [show rdW x (wSeed :: r) = rdSeed x r by
    rw [rdW]
    rw [if_neg (show ¬ wSeed = wUntil by decide)]
    rw [if_pos rfl]]
  have HC := Lib.hid (kSeed h hv hn hl he)
  generalize rdSeed x r = res at HC ⊢
  have hlen := hv.len
  have HV := Lib.hid hv
  subst hlen
  obtain ⟨bw, off, hp, s0, lw⟩ := HV.out.str (Only.refl [] w) (k := 0) (by simp)
  subst hp
  have t0 : w.cell? ⟨bw, off, none⟩ = some (.string (bstr wSeed)) := s0
  have tO : (bstr wSeed).toList = [115, 101, 101, 100] := by rw [Lib.toList_data]; rfl
  generalize bstr wSeed = S at t0 tO
  have hlq : (wSeed :: r).length = r.length + 1 := rfl
  have hcp := HV.out.le
  rw [hlq] at hn hcp HC ⊢
  generalize r.length = m at hn hcp HC ⊢
  clear h hsz hlk hv hl he s0 HV hlq
  go_enter Tryz.func39, Tryz.ntmps39
  go_wp2_with fail
  refine HC.out.mono ?_
  rintro e w1 hr
  obtain ⟨ok, rfl⟩ := rdR_form hr
  have HR := Lib.hid hr
  clear hr HC
  go_wp2
  go_ret
  exact HR.out
set_option maxRecDepth 100000 in
set_option maxHeartbeats 4000000 in
theorem kRead_wNode {W0 : Two} {w : World} {b : Nat} {x : SSt} {p : Option Addr} {n cap : Nat} {r : List (List UInt8)} (h : RdX W0 b w x) (hsz : SLe 100000 x) (hlk : x.at_ = 6 → 0 < x.sc.lk.length) (hv : VRow strC 1 w p n cap (wNode :: r)) (hn : n ≤ 100000) (hl : ∀ y ∈ wNode :: r, y.length ≤ 1000000) (he : Env w) :
    Calls Tryz.prog 39 #[.pointer (some ⟨b, 0, none⟩), .slice p n cap] w fun e w' => RdR W0 b (rdW x (wNode :: r)) e w' := by
  have _u : True := by have := hsz; have := hlk; have := hl; have := he; trivial
  rw [show rdW x (wNode :: r) = rdNode x r by
    rw [rdW]
    rw [if_neg (show ¬ wNode = wUntil by decide)]
    rw [if_neg (show ¬ wNode = wSeed by decide)]
    rw [if_pos rfl]]
  have HC := Lib.hid (kNode h hsz hv hn hl he)
  generalize rdNode x r = res at HC ⊢
  have hlen := hv.len
  have HV := Lib.hid hv
  subst hlen
  obtain ⟨bw, off, hp, s0, lw⟩ := HV.out.str (Only.refl [] w) (k := 0) (by simp)
  subst hp
  have t0 : w.cell? ⟨bw, off, none⟩ = some (.string (bstr wNode)) := s0
  have tO : (bstr wNode).toList = [110, 111, 100, 101] := by rw [Lib.toList_data]; rfl
  generalize bstr wNode = S at t0 tO
  have hlq : (wNode :: r).length = r.length + 1 := rfl
  have hcp := HV.out.le
  rw [hlq] at hn hcp HC ⊢
  generalize r.length = m at hn hcp HC ⊢
  clear h hsz hlk hv hl he s0 HV hlq
  go_enter Tryz.func39, Tryz.ntmps39
  go_wp2_with fail
  refine HC.out.mono ?_
  rintro e w1 hr
  obtain ⟨ok, rfl⟩ := rdR_form hr
  have HR := Lib.hid hr
  clear hr HC
  go_wp2
  go_ret
  exact HR.out
set_option maxRecDepth 100000 in
set_option maxHeartbeats 4000000 in
theorem kRead_wOsc {W0 : Two} {w : World} {b : Nat} {x : SSt} {p : Option Addr} {n cap : Nat} {r : List (List UInt8)} (h : RdX W0 b w x) (hsz : SLe 100000 x) (hlk : x.at_ = 6 → 0 < x.sc.lk.length) (hv : VRow strC 1 w p n cap (wOsc :: r)) (hn : n ≤ 100000) (hl : ∀ y ∈ wOsc :: r, y.length ≤ 1000000) (he : Env w) :
    Calls Tryz.prog 39 #[.pointer (some ⟨b, 0, none⟩), .slice p n cap] w fun e w' => RdR W0 b (rdW x (wOsc :: r)) e w' := by
  have _u : True := by have := hsz; have := hlk; have := hl; have := he; trivial
  rw [show rdW x (wOsc :: r) = rdPart x wOsc r by
    rw [rdW]
    rw [if_neg (show ¬ wOsc = wUntil by decide)]
    rw [if_neg (show ¬ wOsc = wSeed by decide)]
    rw [if_neg (show ¬ wOsc = wNode by decide)]
    rw [if_pos (by decide)]]
  have HC := Lib.hid (kPartOsc h hsz hv hn hl he)
  generalize rdPart x wOsc r = res at HC ⊢
  have hlen := hv.len
  have HV := Lib.hid hv
  subst hlen
  obtain ⟨bw, off, hp, s0, lw⟩ := HV.out.str (Only.refl [] w) (k := 0) (by simp)
  subst hp
  have t0 : w.cell? ⟨bw, off, none⟩ = some (.string (bstr wOsc)) := s0
  have tO : (bstr wOsc).toList = [111, 115, 99] := by rw [Lib.toList_data]; rfl
  generalize bstr wOsc = S at t0 tO
  have hlq : (wOsc :: r).length = r.length + 1 := rfl
  have hcp := HV.out.le
  rw [hlq] at hn hcp HC ⊢
  generalize r.length = m at hn hcp HC ⊢
  clear h hsz hlk hv hl he s0 HV hlq
  go_enter Tryz.func39, Tryz.ntmps39
  go_wp2_with fail
  refine HC.out.mono ?_
  rintro e w1 hr
  obtain ⟨ok, rfl⟩ := rdR_form hr
  have HR := Lib.hid hr
  clear hr HC
  go_wp2
  go_ret
  exact HR.out
set_option maxRecDepth 100000 in
set_option maxHeartbeats 4000000 in
theorem kRead_wSeg {W0 : Two} {w : World} {b : Nat} {x : SSt} {p : Option Addr} {n cap : Nat} {r : List (List UInt8)} (h : RdX W0 b w x) (hsz : SLe 100000 x) (hlk : x.at_ = 6 → 0 < x.sc.lk.length) (hv : VRow strC 1 w p n cap (wSeg :: r)) (hn : n ≤ 100000) (hl : ∀ y ∈ wSeg :: r, y.length ≤ 1000000) (he : Env w) :
    Calls Tryz.prog 39 #[.pointer (some ⟨b, 0, none⟩), .slice p n cap] w fun e w' => RdR W0 b (rdW x (wSeg :: r)) e w' := by
  have _u : True := by have := hsz; have := hlk; have := hl; have := he; trivial
  rw [show rdW x (wSeg :: r) = rdPart x wSeg r by
    rw [rdW]
    rw [if_neg (show ¬ wSeg = wUntil by decide)]
    rw [if_neg (show ¬ wSeg = wSeed by decide)]
    rw [if_neg (show ¬ wSeg = wNode by decide)]
    rw [if_pos (by decide)]]
  have HC := Lib.hid (kPartSeg h hsz hv hn hl he)
  generalize rdPart x wSeg r = res at HC ⊢
  have hlen := hv.len
  have HV := Lib.hid hv
  subst hlen
  obtain ⟨bw, off, hp, s0, lw⟩ := HV.out.str (Only.refl [] w) (k := 0) (by simp)
  subst hp
  have t0 : w.cell? ⟨bw, off, none⟩ = some (.string (bstr wSeg)) := s0
  have tO : (bstr wSeg).toList = [115, 101, 103] := by rw [Lib.toList_data]; rfl
  generalize bstr wSeg = S at t0 tO
  have hlq : (wSeg :: r).length = r.length + 1 := rfl
  have hcp := HV.out.le
  rw [hlq] at hn hcp HC ⊢
  generalize r.length = m at hn hcp HC ⊢
  clear h hsz hlk hv hl he s0 HV hlq
  go_enter Tryz.func39, Tryz.ntmps39
  go_wp2_with fail
  refine HC.out.mono ?_
  rintro e w1 hr
  obtain ⟨ok, rfl⟩ := rdR_form hr
  have HR := Lib.hid hr
  clear hr HC
  go_wp2
  go_ret
  exact HR.out
set_option maxRecDepth 100000 in
set_option maxHeartbeats 4000000 in
theorem kRead_wUse {W0 : Two} {w : World} {b : Nat} {x : SSt} {p : Option Addr} {n cap : Nat} {r : List (List UInt8)} (h : RdX W0 b w x) (hsz : SLe 100000 x) (hlk : x.at_ = 6 → 0 < x.sc.lk.length) (hv : VRow strC 1 w p n cap (wUse :: r)) (hn : n ≤ 100000) (hl : ∀ y ∈ wUse :: r, y.length ≤ 1000000) (he : Env w) :
    Calls Tryz.prog 39 #[.pointer (some ⟨b, 0, none⟩), .slice p n cap] w fun e w' => RdR W0 b (rdW x (wUse :: r)) e w' := by
  have _u : True := by have := hsz; have := hlk; have := hl; have := he; trivial
  rw [show rdW x (wUse :: r) = rdPart x wUse r by
    rw [rdW]
    rw [if_neg (show ¬ wUse = wUntil by decide)]
    rw [if_neg (show ¬ wUse = wSeed by decide)]
    rw [if_neg (show ¬ wUse = wNode by decide)]
    rw [if_pos (by decide)]]
  have HC := Lib.hid (kPartUse h hsz hv hn hl he)
  generalize rdPart x wUse r = res at HC ⊢
  have hlen := hv.len
  have HV := Lib.hid hv
  subst hlen
  obtain ⟨bw, off, hp, s0, lw⟩ := HV.out.str (Only.refl [] w) (k := 0) (by simp)
  subst hp
  have t0 : w.cell? ⟨bw, off, none⟩ = some (.string (bstr wUse)) := s0
  have tO : (bstr wUse).toList = [117, 115, 101] := by rw [Lib.toList_data]; rfl
  generalize bstr wUse = S at t0 tO
  have hlq : (wUse :: r).length = r.length + 1 := rfl
  have hcp := HV.out.le
  rw [hlq] at hn hcp HC ⊢
  generalize r.length = m at hn hcp HC ⊢
  clear h hsz hlk hv hl he s0 HV hlq
  go_enter Tryz.func39, Tryz.ntmps39
  go_wp2_with fail
  refine HC.out.mono ?_
  rintro e w1 hr
  obtain ⟨ok, rfl⟩ := rdR_form hr
  have HR := Lib.hid hr
  clear hr HC
  go_wp2
  go_ret
  exact HR.out
set_option maxRecDepth 100000 in
set_option maxHeartbeats 4000000 in
theorem kRead_wLink {W0 : Two} {w : World} {b : Nat} {x : SSt} {p : Option Addr} {n cap : Nat} {r : List (List UInt8)} (h : RdX W0 b w x) (hsz : SLe 100000 x) (hlk : x.at_ = 6 → 0 < x.sc.lk.length) (hv : VRow strC 1 w p n cap (wLink :: r)) (hn : n ≤ 100000) (hl : ∀ y ∈ wLink :: r, y.length ≤ 1000000) (he : Env w) :
    Calls Tryz.prog 39 #[.pointer (some ⟨b, 0, none⟩), .slice p n cap] w fun e w' => RdR W0 b (rdW x (wLink :: r)) e w' := by
  have _u : True := by have := hsz; have := hlk; have := hl; have := he; trivial
  rw [show rdW x (wLink :: r) = rdLink x r by
    rw [rdW]
    rw [if_neg (show ¬ wLink = wUntil by decide)]
    rw [if_neg (show ¬ wLink = wSeed by decide)]
    rw [if_neg (show ¬ wLink = wNode by decide)]
    rw [if_neg (show ¬ (wLink = wOsc ∨ wLink = wSeg ∨ wLink = wUse) by decide)]
    rw [if_pos rfl]]
  have HC := Lib.hid (kLink h hsz hv hn hl he)
  generalize rdLink x r = res at HC ⊢
  have hlen := hv.len
  have HV := Lib.hid hv
  subst hlen
  obtain ⟨bw, off, hp, s0, lw⟩ := HV.out.str (Only.refl [] w) (k := 0) (by simp)
  subst hp
  have t0 : w.cell? ⟨bw, off, none⟩ = some (.string (bstr wLink)) := s0
  have tO : (bstr wLink).toList = [108, 105, 110, 107] := by rw [Lib.toList_data]; rfl
  generalize bstr wLink = S at t0 tO
  have hlq : (wLink :: r).length = r.length + 1 := rfl
  have hcp := HV.out.le
  rw [hlq] at hn hcp HC ⊢
  generalize r.length = m at hn hcp HC ⊢
  clear h hsz hlk hv hl he s0 HV hlq
  go_enter Tryz.func39, Tryz.ntmps39
  go_wp2_with fail
  refine HC.out.mono ?_
  rintro e w1 hr
  obtain ⟨ok, rfl⟩ := rdR_form hr
  have HR := Lib.hid hr
  clear hr HC
  go_wp2
  go_ret
  exact HR.out
set_option maxRecDepth 100000 in
set_option maxHeartbeats 4000000 in
theorem kRead_wChange {W0 : Two} {w : World} {b : Nat} {x : SSt} {p : Option Addr} {n cap : Nat} {r : List (List UInt8)} (h : RdX W0 b w x) (hsz : SLe 100000 x) (hlk : x.at_ = 6 → 0 < x.sc.lk.length) (hv : VRow strC 1 w p n cap (wChange :: r)) (hn : n ≤ 100000) (hl : ∀ y ∈ wChange :: r, y.length ≤ 1000000) (he : Env w) :
    Calls Tryz.prog 39 #[.pointer (some ⟨b, 0, none⟩), .slice p n cap] w fun e w' => RdR W0 b (rdW x (wChange :: r)) e w' := by
  have _u : True := by have := hsz; have := hlk; have := hl; have := he; trivial
  rw [show rdW x (wChange :: r) = rdChange x r by
    rw [rdW]
    rw [if_neg (show ¬ wChange = wUntil by decide)]
    rw [if_neg (show ¬ wChange = wSeed by decide)]
    rw [if_neg (show ¬ wChange = wNode by decide)]
    rw [if_neg (show ¬ (wChange = wOsc ∨ wChange = wSeg ∨ wChange = wUse) by decide)]
    rw [if_neg (show ¬ wChange = wLink by decide)]
    rw [if_pos rfl]]
  have HC := Lib.hid (kChange h hsz hlk hv hn hl he)
  generalize rdChange x r = res at HC ⊢
  have hlen := hv.len
  have HV := Lib.hid hv
  subst hlen
  obtain ⟨bw, off, hp, s0, lw⟩ := HV.out.str (Only.refl [] w) (k := 0) (by simp)
  subst hp
  have t0 : w.cell? ⟨bw, off, none⟩ = some (.string (bstr wChange)) := s0
  have tO : (bstr wChange).toList = [99, 104, 97, 110, 103, 101] := by rw [Lib.toList_data]; rfl
  generalize bstr wChange = S at t0 tO
  have hlq : (wChange :: r).length = r.length + 1 := rfl
  have hcp := HV.out.le
  rw [hlq] at hn hcp HC ⊢
  generalize r.length = m at hn hcp HC ⊢
  clear h hsz hlk hv hl he s0 HV hlq
  go_enter Tryz.func39, Tryz.ntmps39
  go_wp2_with fail
  refine HC.out.mono ?_
  rintro e w1 hr
  obtain ⟨ok, rfl⟩ := rdR_form hr
  have HR := Lib.hid hr
  clear hr HC
  go_wp2
  go_ret
  exact HR.out
set_option maxRecDepth 100000 in
set_option maxHeartbeats 4000000 in
theorem kRead_wFault {W0 : Two} {w : World} {b : Nat} {x : SSt} {p : Option Addr} {n cap : Nat} {r : List (List UInt8)} (h : RdX W0 b w x) (hsz : SLe 100000 x) (hlk : x.at_ = 6 → 0 < x.sc.lk.length) (hv : VRow strC 1 w p n cap (wFault :: r)) (hn : n ≤ 100000) (hl : ∀ y ∈ wFault :: r, y.length ≤ 1000000) (he : Env w) :
    Calls Tryz.prog 39 #[.pointer (some ⟨b, 0, none⟩), .slice p n cap] w fun e w' => RdR W0 b (rdW x (wFault :: r)) e w' := by
  have _u : True := by have := hsz; have := hlk; have := hl; have := he; trivial
  rw [show rdW x (wFault :: r) = rdFault x r by
    rw [rdW]
    rw [if_neg (show ¬ wFault = wUntil by decide)]
    rw [if_neg (show ¬ wFault = wSeed by decide)]
    rw [if_neg (show ¬ wFault = wNode by decide)]
    rw [if_neg (show ¬ (wFault = wOsc ∨ wFault = wSeg ∨ wFault = wUse) by decide)]
    rw [if_neg (show ¬ wFault = wLink by decide)]
    rw [if_neg (show ¬ wFault = wChange by decide)]
    rw [if_pos rfl]]
  have HC := Lib.hid (kFault h hsz hv hn hl he)
  generalize rdFault x r = res at HC ⊢
  have hlen := hv.len
  have HV := Lib.hid hv
  subst hlen
  obtain ⟨bw, off, hp, s0, lw⟩ := HV.out.str (Only.refl [] w) (k := 0) (by simp)
  subst hp
  have t0 : w.cell? ⟨bw, off, none⟩ = some (.string (bstr wFault)) := s0
  have tO : (bstr wFault).toList = [102, 97, 117, 108, 116] := by rw [Lib.toList_data]; rfl
  generalize bstr wFault = S at t0 tO
  have hlq : (wFault :: r).length = r.length + 1 := rfl
  have hcp := HV.out.le
  rw [hlq] at hn hcp HC ⊢
  generalize r.length = m at hn hcp HC ⊢
  clear h hsz hlk hv hl he s0 HV hlq
  go_enter Tryz.func39, Tryz.ntmps39
  go_wp2_with fail
  refine HC.out.mono ?_
  rintro e w1 hr
  obtain ⟨ok, rfl⟩ := rdR_form hr
  have HR := Lib.hid hr
  clear hr HC
  go_wp2
  go_ret
  exact HR.out
set_option maxRecDepth 100000 in
set_option maxHeartbeats 4000000 in
theorem kRead_no {W0 : Two} {w : World} {b : Nat} {x : SSt} {p : Option Addr} {n cap : Nat} {wd : List UInt8} {r : List (List UInt8)} (h : RdX W0 b w x) (hsz : SLe 100000 x) (hlk : x.at_ = 6 → 0 < x.sc.lk.length) (hv : VRow strC 1 w p n cap (wd :: r)) (hn : n ≤ 100000) (hl : ∀ y ∈ wd :: r, y.length ≤ 1000000) (he : Env w) (nwUntil : wd ≠ wUntil) (nwSeed : wd ≠ wSeed) (nwNode : wd ≠ wNode) (nwOsc : wd ≠ wOsc) (nwSeg : wd ≠ wSeg) (nwUse : wd ≠ wUse) (nwLink : wd ≠ wLink) (nwChange : wd ≠ wChange) (nwFault : wd ≠ wFault) :
    Calls Tryz.prog 39 #[.pointer (some ⟨b, 0, none⟩), .slice p n cap] w fun e w' => RdR W0 b (rdW x (wd :: r)) e w' := by
  have _u : True := by have := hsz; have := hlk; have := hl; have := he; trivial
  rw [show rdW x (wd :: r) = none by
    rw [rdW]
    rw [if_neg nwUntil, if_neg nwSeed, if_neg nwNode, if_neg (fun q => by rcases q with q | q | q; exact nwOsc q; exact nwSeg q; exact nwUse q), if_neg nwLink, if_neg nwChange, if_neg nwFault]]
  obtain ⟨hb0, hb1, ns, ls, vn, vl, vf, hR⟩ := h
  have H1 := Lib.hid hb1
  have hlen := hv.len
  have HV := Lib.hid hv
  subst hlen
  obtain ⟨bw, off, hp, s0, lw⟩ := HV.out.str (Only.refl [] w) (k := 0) (by simp)
  subst hp
  have t0 : w.cell? ⟨bw, off, none⟩ = some (.string (bstr wd)) := s0
  have twUntil : ¬ (bstr wd).toList = [117, 110, 116, 105, 108] := fun q => nwUntil (by rw [Lib.toList_data] at q; exact q)
  have bwUntil : ((bstr wd).toList == [117, 110, 116, 105, 108]) = false := beq_eq_false_iff_ne.2 twUntil
  have twSeed : ¬ (bstr wd).toList = [115, 101, 101, 100] := fun q => nwSeed (by rw [Lib.toList_data] at q; exact q)
  have bwSeed : ((bstr wd).toList == [115, 101, 101, 100]) = false := beq_eq_false_iff_ne.2 twSeed
  have twNode : ¬ (bstr wd).toList = [110, 111, 100, 101] := fun q => nwNode (by rw [Lib.toList_data] at q; exact q)
  have bwNode : ((bstr wd).toList == [110, 111, 100, 101]) = false := beq_eq_false_iff_ne.2 twNode
  have twOsc : ¬ (bstr wd).toList = [111, 115, 99] := fun q => nwOsc (by rw [Lib.toList_data] at q; exact q)
  have bwOsc : ((bstr wd).toList == [111, 115, 99]) = false := beq_eq_false_iff_ne.2 twOsc
  have twSeg : ¬ (bstr wd).toList = [115, 101, 103] := fun q => nwSeg (by rw [Lib.toList_data] at q; exact q)
  have bwSeg : ((bstr wd).toList == [115, 101, 103]) = false := beq_eq_false_iff_ne.2 twSeg
  have twUse : ¬ (bstr wd).toList = [117, 115, 101] := fun q => nwUse (by rw [Lib.toList_data] at q; exact q)
  have bwUse : ((bstr wd).toList == [117, 115, 101]) = false := beq_eq_false_iff_ne.2 twUse
  have twLink : ¬ (bstr wd).toList = [108, 105, 110, 107] := fun q => nwLink (by rw [Lib.toList_data] at q; exact q)
  have bwLink : ((bstr wd).toList == [108, 105, 110, 107]) = false := beq_eq_false_iff_ne.2 twLink
  have twChange : ¬ (bstr wd).toList = [99, 104, 97, 110, 103, 101] := fun q => nwChange (by rw [Lib.toList_data] at q; exact q)
  have bwChange : ((bstr wd).toList == [99, 104, 97, 110, 103, 101]) = false := beq_eq_false_iff_ne.2 twChange
  have twFault : ¬ (bstr wd).toList = [102, 97, 117, 108, 116] := fun q => nwFault (by rw [Lib.toList_data] at q; exact q)
  have bwFault : ((bstr wd).toList == [102, 97, 117, 108, 116]) = false := beq_eq_false_iff_ne.2 twFault
  generalize bstr wd = S at t0 twUntil bwUntil twSeed bwSeed twNode bwNode twOsc bwOsc twSeg bwSeg twUse bwUse twLink bwLink twChange bwChange twFault bwFault
  have hlq : (wd :: r).length = r.length + 1 := rfl
  have hcp := HV.out.le
  rw [hlq] at hn hcp ⊢
  generalize r.length = m at hn hcp ⊢
  clear hR hb0 hb1 hsz hlk hv hl he s0 HV hlq nwUntil nwSeed nwNode nwOsc nwSeg nwUse nwLink nwChange nwFault
  go_enter Tryz.func39, Tryz.ntmps39
  go_wp2
  go_ret
  exact ⟨rfl, H1.out⟩
set_option maxRecDepth 100000 in
set_option maxHeartbeats 4000000 in
theorem kRead {W0 : Two} {w : World} {b : Nat} {x : SSt} {p : Option Addr} {n cap : Nat} {wd : List UInt8} {r : List (List UInt8)} (h : RdX W0 b w x) (hsz : SLe 100000 x) (hlk : x.at_ = 6 → 0 < x.sc.lk.length) (hv : VRow strC 1 w p n cap (wd :: r)) (hn : n ≤ 100000) (hl : ∀ y ∈ wd :: r, y.length ≤ 1000000) (he : Env w) :
    Calls Tryz.prog 39 #[.pointer (some ⟨b, 0, none⟩), .slice p n cap] w fun e w' => RdR W0 b (rdW x (wd :: r)) e w' := by
  have _u : True := by have := hsz; have := hlk; have := hl; have := he; trivial
  by_cases nwUntil : wd = wUntil
  · subst nwUntil
    exact kRead_wUntil h hsz hlk hv hn hl he
  by_cases nwSeed : wd = wSeed
  · subst nwSeed
    exact kRead_wSeed h hsz hlk hv hn hl he
  by_cases nwNode : wd = wNode
  · subst nwNode
    exact kRead_wNode h hsz hlk hv hn hl he
  by_cases nwOsc : wd = wOsc
  · subst nwOsc
    exact kRead_wOsc h hsz hlk hv hn hl he
  by_cases nwSeg : wd = wSeg
  · subst nwSeg
    exact kRead_wSeg h hsz hlk hv hn hl he
  by_cases nwUse : wd = wUse
  · subst nwUse
    exact kRead_wUse h hsz hlk hv hn hl he
  by_cases nwLink : wd = wLink
  · subst nwLink
    exact kRead_wLink h hsz hlk hv hn hl he
  by_cases nwChange : wd = wChange
  · subst nwChange
    exact kRead_wChange h hsz hlk hv hn hl he
  by_cases nwFault : wd = wFault
  · subst nwFault
    exact kRead_wFault h hsz hlk hv hn hl he
  exact kRead_no h hsz hlk hv hn hl he nwUntil nwSeed nwNode nwOsc nwSeg nwUse nwLink nwChange nwFault
end Go.Proofs.YthmeifdgkodjlaaGreatDoor
