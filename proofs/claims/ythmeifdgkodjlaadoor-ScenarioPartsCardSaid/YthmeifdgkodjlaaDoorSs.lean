/- link of the reader. Conditions: the library's variables are laid; the lengths. -/
import Derived.Test.YthmeifdgkodjlaaDoorSr
namespace Go.Proofs.YthmeifdgkodjlaaDoor
open Go.RowKit

theorem VRow.sub {α : Type} {ec : α → List Value} {w : World} {bw off n cap : Nat} {l : List α} (h : VRow ec 1 w (some ⟨bw, off, none⟩) n cap l) (i j : Nat) (hij : i ≤ j) (hj : j ≤ n) : VRow ec 1 w (some ⟨bw, off + i, none⟩) (j - i) (cap - i) ((l.take j).drop i) := by
  have hl := h.len; have hle := h.le; have hcm := h.cm
  refine ⟨by rw [List.length_drop, List.length_take]; omega, by omega, by omega, by simp, fun k x hx => ?_⟩
  rw [List.getElem?_drop, List.getElem?_take] at hx
  by_cases hk : i + k < j
  · rw [if_pos hk] at hx
    obtain ⟨b', off', hp, hb, hc⟩ := h.cell (i + k) x hx
    cases hp
    refine ⟨bw, off + i, rfl, hb, fun q v hv => ?_⟩
    have := hc q v hv
    rw [Nat.mul_one] at this ⊢
    rw [← this]
    congr 2; omega
  · rw [if_neg hk] at hx; cases hx
theorem rd_other {B b eb : Nat} {w w' : World} {x : SSt} {ns : List NdW} {ls : List LkW} {vn vl vf : Value} {c : Array Value} {t : TypeId} (h : RdW B b w x ns ls vn vl vf) (he : w.heap[eb]? = some (.cells c t (0, 0))) (ho : Only [eb] w w') (hb : b ≠ eb)
    (ht : 44 ≠ t ∧ 55 ≠ t ∧ 73 ≠ t ∧ 92 ≠ t ∧ 3 ≠ t ∧ 95 ≠ t) : RdW B b w' x ns ls vn vl vf :=
  ⟨ho.got h.box (by simpa using hb), h.hn, h.hl, own_setB h.nd he ht.1 ho, own_setB h.lk he ht.2.1 ho, own_setB h.ft he ht.2.2.1 ho, fun y hy => own_setB (h.sg y hy) he ht.2.2.2.1 ho, fun y hy => own_setB (h.sv y hy) he ht.2.2.2.2.1 ho, fun y hy => own_setB (h.ch y hy) he ht.2.2.2.2.2 ho, h.apN, h.apL⟩
set_option maxRecDepth 100000 in
set_option maxHeartbeats 8000000 in
theorem kLink {W0 : Two} {w : World} {b : Nat} {x : SSt} {p : Option Addr} {n cap : Nat} {wd : List UInt8} {r : List (List UInt8)} (h : RdX W0 b w x) (hsz : SLe 100000 x) (hv : VRow strC 1 w p n cap (wd :: r)) (hn : n ≤ 100000) (hl : ∀ y ∈ wd :: r, y.length ≤ 1000000) (he : Env w) :
    Calls Tryd.prog 51 #[.pointer (some ⟨b, 0, none⟩), .slice p n cap] w fun e w' => RdR W0 b (rdLink x r) e w' := by
  have hlen := hv.len
  subst hlen
  obtain ⟨hb0, hb1, ns, ls, vn, vl, vf, hR⟩ := h
  have hfl := hsz.lk
  rw [hR.hl, List.length_map] at hfl
  have HR := Lib.hid hR; have HV := Lib.hid hv; have HE := Lib.hid he; have HL := Lib.hid hl; have H0 := Lib.hid hb0; have H1 := Lib.hid hb1
  clear hR hv he hl hb0 hb1 hsz
  have HW := Lib.hid (kWhole HR.out.box)
  by_cases h0 : whole x.at_ = true
  · by_cases h7 : x.at_ = 7
    · rw [h0] at HW
      have HX : Hid (rdLink x r = none) := Lib.hid (by
        rcases r with _ | ⟨a0, _ | ⟨a1, _ | ⟨a2, _ | ⟨a3, _ | ⟨a4, _ | ⟨a5, _ | ⟨a6, _ | ⟨a7, _ | ⟨q, r⟩⟩⟩⟩⟩⟩⟩⟩⟩
        · rfl
        · rfl
        · rfl
        · rfl
        · rfl
        · rfl
        · rfl
        · rfl
        · exact if_neg (fun q => q.2 h7)
        · rfl)
      generalize rdLink x r = res at HX ⊢
      have d7 : ((x.at_ : Int) == 7) = true := by rw [h7]; rfl
      clear h0 h7
      generalize (wd :: r).length = nn at hn ⊢ 
      go_enter Tryd.func51, Tryd.ntmps51
      go_wp2_with fail
      refine HW.out.mono ?_
      rintro e w1 ⟨rfl, ho1⟩
      have O1 := Lib.hid (H1.out.nil_trans ho1); have R1 := Lib.hid (HR.out.kept ho1)
      have q5 := cell_got R1.out.box 5; have lq := got_lt R1.out.box
      go_wp2
      go_ret
      rw [HX.out]
      exact ⟨rfl, O1.out⟩
    · rw [h0] at HW
      by_cases h2 : (wd :: r).length = 9
      · obtain ⟨a0, a1, a2, a3, a4, a5, a6, a7, rfl⟩ : ∃ a0 a1 a2 a3 a4 a5 a6 a7, r = [a0, a1, a2, a3, a4, a5, a6, a7] := by
          rcases r with _ | ⟨a0, _ | ⟨a1, _ | ⟨a2, _ | ⟨a3, _ | ⟨a4, _ | ⟨a5, _ | ⟨a6, _ | ⟨a7, _ | ⟨q, r⟩⟩⟩⟩⟩⟩⟩⟩⟩
          · simp at h2
          · simp at h2
          · simp at h2
          · simp at h2
          · simp at h2
          · simp at h2
          · simp at h2
          · simp at h2
          · exact ⟨a0, a1, a2, a3, a4, a5, a6, a7, rfl⟩
          · simp at h2
        have HRD : Hid (rdLink x [a0, a1, a2, a3, a4, a5, a6, a7] = (match numsO [a0, a1, a2, a3, a4, a5, a6] with
          | some [a, b, c, d, e, f, g] => (natO a7).map fun (n : Nat) => (⟨{ x.sc with lk := x.sc.lk ++ [⟨a, b, c, d, e, f, g, (n : Int), []⟩] }, 6⟩ : SSt)
          | _ => none)) := Lib.hid (if_pos ⟨h0, h7⟩)
        generalize rdLink x [a0, a1, a2, a3, a4, a5, a6, a7] = res at HRD ⊢
        have d7 : ((x.at_ : Int) == 7) = false := by rw [beq_eq_false_iff_ne]; omega
        have z2 : ((([wd, a0, a1, a2, a3, a4, a5, a6, a7] : List (List UInt8)).length : Int) != 9) = false := rfl
        have hla := HL.out a7 (by simp)
        obtain ⟨bw, off, hp, _, lw⟩ := HV.out.str (Only.refl [] w) (k := 8) (by simp)
        subst hp
        have hcp : 9 ≤ cap := HV.out.le
        have HSUB := Lib.hid (HV.out.sub 1 8 (by decide) (by simp))
        have hsl : ∀ y ∈ ([a0, a1, a2, a3, a4, a5, a6] : List (List UInt8)), y.length ≤ 1000000 := fun y hy => HL.out y (by simp only [List.mem_cons, List.not_mem_nil, or_false] at hy ⊢; rcases hy with h | h | h | h | h | h | h <;> simp [h])
        have HSL := Lib.hid hsl
        clear h0 h2 h7 hsl
        go_enter Tryd.func51, Tryd.ntmps51
        go_wp2_with fail
        refine HW.out.mono ?_
        rintro e w1 ⟨rfl, ho1⟩
        have R1 := Lib.hid (HR.out.kept ho1); have O1 := Lib.hid (H1.out.nil_trans ho1); have V1 := Lib.hid (HV.out.kept ho1); have E1 := Lib.hid (HE.out.kept ho1)
        have HN := Lib.hid (pNumbers (HSUB.out.kept ho1) (by simp) HSL.out E1.out)
        clear ho1 HW HR H1 HV HE HSUB HSL
        have q5 := cell_got R1.out.box 5; have lq := got_lt R1.out.box
        go_wp2_with fail
        refine HN.out.mono ?_
        rintro e w2 ⟨hv4, ho2⟩
        have R2 := Lib.hid (R1.out.kept ho2); have O2 := Lib.hid (O1.out.nil_trans ho2); have V2 := Lib.hid (V1.out.kept ho2); have E2 := Lib.hid (E1.out.kept ho2)
        clear ho2 HN R1 O1 V1 E1 q5 lq z2 d7
        obtain ⟨v0, v1, rfl⟩ := numsR_form hv4
        have hv4 : NumsR (numsO [a0, a1, a2, a3, a4, a5, a6]) w1 (.returned (.tuple #[v0, v1])) w2 := hv4
        cases hx : numsO [a0, a1, a2, a3, a4, a5, a6] with
        | none =>
          rw [hx] at hv4 HRD
          obtain ⟨rfl, rfl⟩ := numsR_no hv4
          have HX : Hid (res = none) := HRD
          go_wp2
          go_ret
          rw [HX.out]
          exact ⟨rfl, O2.out⟩
        | some ms =>
          rw [hx] at hv4 HRD
          obtain ⟨g, rfl, rfl, hrow⟩ := numsR_yes hv4
          have hml := numsO_len hx
          obtain ⟨m0, m1, m2, m3, m4, m5, m6, rfl⟩ : ∃ m0 m1 m2 m3 m4 m5 m6, ms = [m0, m1, m2, m3, m4, m5, m6] := by
            rcases ms with _ | ⟨m0, _ | ⟨m1, _ | ⟨m2, _ | ⟨m3, _ | ⟨m4, _ | ⟨m5, _ | ⟨m6, _ | ⟨q, r⟩⟩⟩⟩⟩⟩⟩⟩
            · simp at hml
            · simp at hml
            · simp at hml
            · simp at hml
            · simp at hml
            · simp at hml
            · simp at hml
            · exact ⟨m0, m1, m2, m3, m4, m5, m6, rfl⟩
            · simp at hml
          have HX : Hid (res = (natO a7).map fun (n : Nat) => (⟨{ x.sc with lk := x.sc.lk ++ [⟨m0, m1, m2, m3, m4, m5, m6, (n : Int), []⟩] }, 6⟩ : SSt)) := HRD
          have c0 : w2.cell? ⟨g, 0, none⟩ = some (.int .i64 m0) := hrow.cell (i := 0) (j := 0) itC_len rfl (by decide)
          have c1 : w2.cell? ⟨g, 1, none⟩ = some (.int .i64 m1) := hrow.cell (i := 1) (j := 0) itC_len rfl (by decide)
          have c2 : w2.cell? ⟨g, 2, none⟩ = some (.int .i64 m2) := hrow.cell (i := 2) (j := 0) itC_len rfl (by decide)
          have c3 : w2.cell? ⟨g, 3, none⟩ = some (.int .i64 m3) := hrow.cell (i := 3) (j := 0) itC_len rfl (by decide)
          have c4 : w2.cell? ⟨g, 4, none⟩ = some (.int .i64 m4) := hrow.cell (i := 4) (j := 0) itC_len rfl (by decide)
          have c5 : w2.cell? ⟨g, 5, none⟩ = some (.int .i64 m5) := hrow.cell (i := 5) (j := 0) itC_len rfl (by decide)
          have c6 : w2.cell? ⟨g, 6, none⟩ = some (.int .i64 m6) := hrow.cell (i := 6) (j := 0) itC_len rfl (by decide)
          have lg := hrow.lt
          have N2 := Lib.hid hrow
          clear hrow hml hx hv4 HRD
          go_upto_region 6 with (fail)
          refine wp_region_calm2 [0, 1, 2, 3, 4, 5, 6, 7, 8, 9, 10, 11, 12, 13, 14, 15, 16, 17] [19] (OnlyC ([] : List Nat) w2) (by kernel_rfl) (by kernel_rfl) ?_
          simp only [pick, List.map_cons, List.map_nil, List.getD_cons_succ, List.getD_cons_zero]
          iterate 18 (refine wpCalm_step (fun K hK => ?_); go_simp; refine hK _ ?_; clear hK K)
          refine wpCalm_nil ?_
          refine Rest.by (X := Nat) (fun y a => a.put (some 7) (.pointer (some ⟨y, 0, none⟩))) (fun y w' => w'.heap[y]? = some (.cells #[.int .i64 m2, .int .i64 m3, .int .i64 m4, .int .i64 m5, .int .i64 m6, .int .u64 0, .slice none 0 0] 53 (0, 0)) ∧ Only [] w2 w' ∧ w2.heap.size ≤ y) ?_ ?_
          · rintro eb w3 ⟨hbn, hon, hyn⟩
            simp only [Act.put, List.setIfInBounds_toArray, List.set_cons_succ, List.set_cons_zero]
            have EB := Lib.hid hbn; have PE := Lib.hid hon; have YE := Lib.hid hyn
            clear hbn hon hyn c0 c1 c2 c3 c4 c5 c6 lg lw
            have R6b := Lib.hid (R2.out.kept PE.out); have O6b := Lib.hid (O2.out.nil_trans PE.out); have N6 := Lib.hid (N2.out.kept PE.out (by simp)); have E6 := Lib.hid (E2.out.kept PE.out)
            have hz3 : w3.heap.size = w3.heap.size := rfl
            obtain ⟨_, _, hp8, s8, lw⟩ := V2.out.str PE.out (k := 8) (by simp)
            cases hp8
            have t8 : w3.cell? ⟨bw, off + 8, none⟩ = some (.string (bstr a7)) := s8
            have HC := Lib.hid (pSeed a7 hla w3 E6.out)
            have hsz2 := YE.out
            clear s8 hz3
            go_wp2_with fail
            refine HC.out.mono ?_
            rintro e w4 ⟨hvs, ho4⟩
            have R4 := Lib.hid (R6b.out.kept ho4); have O4 := Lib.hid (O6b.out.nil_trans ho4); have N4 := Lib.hid (N6.out.kept ho4 (by simp)); have E4 := Lib.hid (ho4.got EB.out (by simp))
            have hg0 := N2.out.lt
            have hge : g ≠ eb := by omega
            have hbe : b ≠ eb := by have := got_lt R2.out.box; omega
            have hvlt : ∀ k ∈ vl.ownBlock.toList, k < w2.heap.size := fun k hk => by obtain ⟨_, _, hq⟩ := R2.out.lk.block (by simpa using hk); exact hq.lt
            clear ho4 t8 lw HC R6b O6b N6 EB E6
            obtain ⟨V, ok, rfl, hok⟩ : ∃ (V : Int) (ok : Bool), e = .returned (.tuple #[.int .u64 V, .bool ok]) ∧ ((ok = true ∧ ∃ u : Nat, V = u ∧ natO a7 = some u) ∨ (ok = false ∧ natO a7 = none)) := by
              cases hq : natO a7 with
              | none => rw [hq] at hvs; obtain ⟨V, h⟩ := hvs; exact ⟨V, false, h, .inr ⟨rfl, rfl⟩⟩
              | some u => rw [hq] at hvs; exact ⟨u, true, hvs, .inl ⟨rfl, u, rfl, rfl⟩⟩
            have HOK := Lib.hid hok
            clear hok hvs
            have fe5 := frozen_got E4.out 5; have ce5 := cell_got E4.out 5; have lee := got_lt E4.out
            go_upto_region 8 with (fail)
            refine wabs (G := fun w0 => Code.wp _ _ _ _ w0) (R := fun w0 => w0.heap[eb]? = some (.cells #[.int .i64 m2, .int .i64 m3, .int .i64 m4, .int .i64 m5, .int .i64 m6, .int .u64 V, .slice none 0 0] 53 (0, 0)) ∧ Only [eb] w4 w0) ⟨setCell_got _ E4.out, (Only.refl _ _).setCell (.inl (by simp)) _⟩ ?_
            rintro w6 ⟨hE6, hO6⟩
            have E6 := Lib.hid hE6
            have R6 : Hid (RdW W0.heap.size b w6 x ns ls vn vl vf) := Lib.hid (rd_other R4.out E4.out hO6 hbe (by decide))
            have O6 : Hid (Ob b W0 w6) := Lib.hid (O4.out.row hO6 (fun k hk => by rw [List.mem_singleton] at hk; subst hk; exact ⟨by have := O2.out.size; omega, _, _, E4.out⟩))
            have N6 := Lib.hid (N4.out.kept hO6 (by simpa using hge))
            clear hE6 hO6 fe5 ce5 lee R4 O4 N4 E4
            have c0 : w6.cell? ⟨g, 0, none⟩ = some (.int .i64 m0) := N6.out.cell (i := 0) (j := 0) itC_len rfl (by decide)
            have c1 : w6.cell? ⟨g, 1, none⟩ = some (.int .i64 m1) := N6.out.cell (i := 1) (j := 0) itC_len rfl (by decide)
            have lg := N6.out.lt
            have q1 := cell_got R6.out.box 1; have lq := got_lt R6.out.box
            have e0 := cell_got E6.out 0
            have e1 := cell_got E6.out 1
            have e2 := cell_got E6.out 2
            have e3 := cell_got E6.out 3
            have e4 := cell_got E6.out 4
            have e5 := cell_got E6.out 5
            have e6 := cell_got E6.out 6
            have le := got_lt E6.out
            obtain ⟨S, hS⟩ : ∃ S, S = vl.ownBlock.toList := ⟨_, rfl⟩
            have hbS : b ∉ S := fun hm => by rw [hS] at hm; exact R6.out.lk.ne_box R6.out.box (by decide) (by simpa using hm)
            have heS : eb ∉ S := fun hm => by rw [hS] at hm; have := hvlt eb hm; omega
            have hgS : g ∉ S := fun hm => by
              rw [hS] at hm
              obtain ⟨_, _, hq⟩ := R6.out.lk.block (by simpa using hm)
              exact hq.ne N6.out (by decide) rfl
            have HSE := Lib.hid hS
            clear hS hvlt
            refine wp_region_calm2 [0, 1, 2, 3, 4, 5, 6, 7, 8, 9, 10, 11, 12, 13] [16, 17, 18, 19] (OnlyC S w6) (by kernel_rfl) (by kernel_rfl) ?_
            simp only [pick, List.map_cons, List.map_nil, List.getD_cons_succ, List.getD_cons_zero]
            iterate 14 (refine wpCalm_step (fun K hK => ?_); go_simp; refine hK _ ?_; clear hK K)
            refine wpCalm_nil ?_
            clear c0 c1 lg q1 lq e0 e1 e2 e3 e4 e5 e6 le
            refine Rest.by (X := Nat × Nat) (fun y a => ((((a.put (some 71) (.slice (some ⟨w6.heap.size, 0, none⟩) 1 1)).put (some 72) (.slice (some ⟨y.1, 0, none⟩) (ls.length + 1) y.2)).put (some 73) (.pointer (some ⟨b, 0, none⟩))).put (some 74) (.pointer (some ⟨b, 0, none⟩))).put (some 75) (.pointer (some ⟨b, 1, none⟩)))
              (fun y w' => Ob b W0 w' ∧ RdW W0.heap.size b w' (⟨{ x.sc with lk := x.sc.lk ++ [⟨m0, m1, m2, m3, m4, m5, m6, V, []⟩] }, x.at_⟩ : SSt) ns (ls ++ [⟨⟨m0, m1, m2, m3, m4, m5, m6, V, []⟩, none, 0⟩]) vn (.slice (some ⟨y.1, 0, none⟩) (ls.length + 1) y.2) vf) ?_ ?_
            · rintro ⟨g9, cap9⟩ w9 ⟨ho9, hr9⟩
              simp only [Act.put, List.setIfInBounds_toArray, List.set_cons_succ, List.set_cons_zero]
              have O9 := Lib.hid ho9; have R9 := Lib.hid hr9
              clear ho9 hr9
              have BP := Lib.hid R9.out.box
              have lp := got_lt BP.out; have q5 := cell_got BP.out 5; have f5 := frozen_got BP.out 5
              rcases HOK.out with ⟨rfl, u, rfl, hq⟩ | ⟨rfl, hq⟩
              · have HQ : Hid (res = some ⟨{ x.sc with lk := x.sc.lk ++ [⟨m0, m1, m2, m3, m4, m5, m6, (u : Int), []⟩] }, 6⟩) := Lib.hid (by rw [HX.out, hq]; rfl)
                clear hq HOK
                go_wp2
                go_ret
                rw [HQ.out]
                refine ⟨rfl, H0.out, O9.out.setCell (.inl (by simp)) _, ns, ls ++ [⟨⟨m0, m1, m2, m3, m4, m5, m6, u, []⟩, none, 0⟩], vn, .slice (some ⟨g9, 0, none⟩) (ls.length + 1) cap9, vf, ?_⟩
                exact R9.out.cell ((Only.refl [b] w9).setCell (.inl (by simp)) _) (setCell_got _ BP.out) rfl rfl rfl
              · have HQ : Hid (res = none) := Lib.hid (by rw [HX.out, hq]; rfl)
                clear hq HOK
                go_wp2
                go_ret
                rw [HQ.out]
                exact ⟨rfl, O9.out.setCell (.inl (by simp)) _⟩
            · refine wpAnyC_next [14] (by kernel_rfl) (by simp) (.inr (onlyC (Only.refl S w6).drew)) ?_
              simp only [List.mem_cons, List.not_mem_nil, or_false, forall_eq]
              refine wpOp_one rfl ?_
              go_wp2
              simp only [nrm]
              refine allocd_abs (G := wpAnyC _ _ _ _ _ _ _ _ _) ?_
              intro wa hna hoa hsa
              have MA := Lib.hid hna; have oA := Lib.hid hoa; have RA := Lib.hid (R6.out.kept hoa); have OA := Lib.hid (O6.out.nil_trans hoa)
              clear hna hsa hoa
              refine wpAnyC_next [15] (by kernel_rfl) (by simp) (.inr (onlyC (oA.out.mono (by simp)))) ?_
              simp only [List.mem_cons, List.not_mem_nil, or_false, forall_eq]
              refine wpOp_one rfl ?_
              refine wpList_append_B (B := W0.heap.size) rfl _ _ 23 rfl 55 (.agg #[.int .i64 0, .int .i64 0, .int .i64 0, .int .i64 0, .int .i64 0, .int .i64 0, .int .i64 0, .int .u64 0, .slice none 0 0]) 9 88 Tryd.underlying23 (by kernel_rfl) rfl (by decide) lkC_len lkC_one ls vl rfl RA.out.lk w6.heap.size (⟨⟨m0, m1, m2, m3, m4, m5, m6, V, []⟩, none, 0⟩ : LkW) rfl (fun j u hj => ?_) (by simp [maxLen]; omega) (by omega) (Nat.le_trans (by have := OA.out.size; omega) (Nat.le_refl _)) ?_
              · rw [cell_got MA.out]; rw [← hj]; simp [lkC]
              · intro g9 cap9 wb hown hob _
                rw [← HSE.out] at hob
                have WB := Lib.hid hown; have oB := Lib.hid hob; have oS := Lib.hid ((oA.out.mono (S' := S) (by simp)).trans hob (fun x h => .inl h))
                clear hown hob
                simp only [wpList, nrm]
                refine wpAnyC_next [16] (by kernel_rfl) (by simp) (.inr (onlyC oS.out)) ?_
                simp only [List.mem_cons, List.not_mem_nil, or_false, forall_eq]
                refine wpOp_one rfl ?_
                go_wp2
                simp only [nrm]
                refine wpAnyC_next [17] (by kernel_rfl) (by simp) (.inr (onlyC oS.out)) ?_
                simp only [List.mem_cons, List.not_mem_nil, or_false, forall_eq]
                refine wpOp_one rfl ?_
                go_wp2
                simp only [nrm]
                refine wpAnyC_next [18] (by kernel_rfl) (by simp) (.inr (onlyC oS.out)) ?_
                simp only [List.mem_cons, List.not_mem_nil, or_false, forall_eq]
                refine wpOp_one rfl ?_
                go_wp2
                simp only [nrm]
                refine wpAnyC_next [19] (by kernel_rfl) (by simp) (.inr (onlyC oS.out)) ?_
                simp only [List.mem_cons, List.not_mem_nil, or_false, forall_eq]
                refine wpOp_one rfl ?_
                have BP := Lib.hid (oS.out.got R6.out.box hbS)
                have lp := got_lt BP.out
                have qc := cell_got BP.out 1; have fq := frozen_got BP.out 1
                go_wp2
                simp only [nrm]
                refine wpAnyC_done (by kernel_rfl) (.inl (late_of (by kernel_rfl))) ⟨(g9, cap9), rfl, ?_, ?_⟩
                · refine (Ob.row (S := S) OA.out oB.out (fun k hk => ?_)).setCell (.inl (by simp)) _
                  rw [HSE.out] at hk
                  exact RA.out.lk.blockC (by simpa using hk)
                · rw [HSE.out] at oB
                  exact RA.out.addL (x' := (⟨{ x.sc with lk := x.sc.lk ++ [⟨m0, m1, m2, m3, m4, m5, m6, V, []⟩] }, x.at_⟩ : SSt)) oB.out WB.out ⟨rfl, rfl, rfl⟩ ((Only.refl [b] wb).setCell (.inl (by simp)) _) (setCell_got _ BP.out) rfl rfl rfl
          · refine wpAnyC_next [18] (by kernel_rfl) (by simp) (.inr (onlyC (Only.refl [] w2).drew)) ?_
            simp only [List.mem_cons, List.not_mem_nil, or_false, forall_eq]
            refine wpOp_one rfl ?_
            go_wp2
            simp only [nrm]
            refine allocd_abs (G := wpAnyC _ _ _ _ _ _ _ _ _) ?_
            intro w5 hn5 ho5 hs5
            have M5 := Lib.hid hn5; have o25 := Lib.hid ho5
            clear hn5 hs5 ho5
            refine wpAnyC_next [19] (by kernel_rfl) (by simp) (.inr (onlyC o25.out)) ?_
            simp only [List.mem_cons, List.not_mem_nil, or_false, forall_eq]
            refine wpOp_one rfl ?_
            have la := got_lt M5.out
            have fa0 := frozen_got M5.out 0; have ca0 := cell_got M5.out 0
            have fa1 := frozen_got M5.out 1; have ca1 := cell_got M5.out 1
            have fa2 := frozen_got M5.out 2; have ca2 := cell_got M5.out 2
            have fa3 := frozen_got M5.out 3; have ca3 := cell_got M5.out 3
            have fa4 := frozen_got M5.out 4; have ca4 := cell_got M5.out 4
            have fa5 := frozen_got M5.out 5; have ca5 := cell_got M5.out 5
            have fa6 := frozen_got M5.out 6; have ca6 := cell_got M5.out 6
            go_wp2
            simp only [nrm]
            clear la fa0 ca0 fa1 ca1 fa2 ca2 fa3 ca3 fa4 ca4 fa5 ca5 fa6 ca6
            have o2 : Only [w2.heap.size] w5 (((((((w5.setCell ⟨w2.heap.size, 0, none⟩ (.int .i64 m2)).setCell ⟨w2.heap.size, 1, none⟩ (.int .i64 m3)).setCell ⟨w2.heap.size, 2, none⟩ (.int .i64 m4)).setCell ⟨w2.heap.size, 3, none⟩ (.int .i64 m5)).setCell ⟨w2.heap.size, 4, none⟩ (.int .i64 m6)).setCell ⟨w2.heap.size, 5, none⟩ (.int .u64 0)).setCell ⟨w2.heap.size, 6, none⟩ (.slice none 0 0)) := ((((((((Only.refl _ w5).setCell (.inl (by simp)) _).setCell (.inl (by simp)) _).setCell (.inl (by simp)) _).setCell (.inl (by simp)) _).setCell (.inl (by simp)) _).setCell (.inl (by simp)) _).setCell (.inl (by simp)) _)
            have o3 := o25.out.trans o2 (by simp)
            exact wpAnyC_done (by kernel_rfl) (.inr (onlyC o3)) ⟨w2.heap.size, rfl, (setCell_got _ (setCell_got _ (setCell_got _ (setCell_got _ (setCell_got _ (setCell_got _ (setCell_got _ M5.out))))))), o3, Nat.le_refl _⟩
      · have HX : Hid (rdLink x r = none) := Lib.hid (by
          rcases r with _ | ⟨a0, _ | ⟨a1, _ | ⟨a2, _ | ⟨a3, _ | ⟨a4, _ | ⟨a5, _ | ⟨a6, _ | ⟨a7, _ | ⟨q, r⟩⟩⟩⟩⟩⟩⟩⟩⟩
          · rfl
          · rfl
          · rfl
          · rfl
          · rfl
          · rfl
          · rfl
          · rfl
          · exact absurd rfl h2
          · rfl)
        generalize rdLink x r = res at HX ⊢
        have d7 : ((x.at_ : Int) == 7) = false := by rw [beq_eq_false_iff_ne]; omega
        have z2 : (((wd :: r).length : Int) != 9) = true := by rw [bne_iff_ne]; omega
        have z2p : (((wd :: r).length : Int) == 9) = false := by rw [beq_eq_false_iff_ne]; omega
        clear h0 h7 h2
        generalize (wd :: r).length = nn at hn ⊢ z2 z2p
        go_enter Tryd.func51, Tryd.ntmps51
        go_wp2_with fail
        refine HW.out.mono ?_
        rintro e w1 ⟨rfl, ho1⟩
        have O1 := Lib.hid (H1.out.nil_trans ho1); have R1 := Lib.hid (HR.out.kept ho1)
        have q5 := cell_got R1.out.box 5; have lq := got_lt R1.out.box
        go_wp2
        go_ret
        rw [HX.out]
        exact ⟨rfl, O1.out⟩
  · have hw : whole x.at_ = false := by simpa using h0
    rw [hw] at HW
    have HX : Hid (rdLink x r = none) := Lib.hid (by
      rcases r with _ | ⟨a0, _ | ⟨a1, _ | ⟨a2, _ | ⟨a3, _ | ⟨a4, _ | ⟨a5, _ | ⟨a6, _ | ⟨a7, _ | ⟨q, r⟩⟩⟩⟩⟩⟩⟩⟩⟩
      · rfl
      · rfl
      · rfl
      · rfl
      · rfl
      · rfl
      · rfl
      · rfl
      · exact if_neg (fun q => h0 q.1)
      · rfl)
    generalize rdLink x r = res at HX ⊢
    clear hw
    clear h0 
    generalize (wd :: r).length = nn at hn ⊢ 
    go_enter Tryd.func51, Tryd.ntmps51
    go_wp2_with fail
    refine HW.out.mono ?_
    rintro e w1 ⟨rfl, ho1⟩
    have O1 := Lib.hid (H1.out.nil_trans ho1); have R1 := Lib.hid (HR.out.kept ho1)
    have q5 := cell_got R1.out.box 5; have lq := got_lt R1.out.box
    go_wp2
    go_ret
    rw [HX.out]
    exact ⟨rfl, O1.out⟩
end Go.Proofs.YthmeifdgkodjlaaDoor
