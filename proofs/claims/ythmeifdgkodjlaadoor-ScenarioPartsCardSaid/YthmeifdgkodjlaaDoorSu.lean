/- change of the reader. Conditions: the library's variables are laid; the lengths. -/
import Derived.Test.YthmeifdgkodjlaaDoorSs
namespace Go.Proofs.YthmeifdgkodjlaaDoor
open Go.RowKit

theorem snoc_or {α : Type} (l : List α) : l = [] ∨ ∃ r y, l = r ++ [y] := by
  rcases List.eq_nil_or_concat l with h | ⟨r, y, h⟩
  · exact .inl h
  · exact .inr ⟨r, y, by simpa using h⟩
theorem own_ptr {α : Type} {enc : α → List Value} {e : TypeId} {s B n c k : Nat} {w : World} {p : Option Addr} {l : List α} (h : Own enc e s B w (.slice p n c) l) (hk : (Value.slice p n c).ownBlock = some k) : p = some ⟨k, 0, none⟩ := by
  rcases h with ⟨h, _⟩ | ⟨g, cap, h, _, _⟩
  · rw [h] at hk; simp [Value.ownBlock] at hk
  · rw [h] at hk
    simp only [Value.ownBlock, Option.some.injEq] at hk
    cases h
    rw [hk]
theorem ptr_ne {α : Type} {enc : α → List Value} {e : TypeId} {s B n c n' c' k : Nat} {w : World} {p p' : Option Addr} {l l' : List α} (h : Own enc e s B w (.slice p n c) l) (h' : Own enc e s B w (.slice p' n' c') l') (hne : p ≠ p' ∨ p' = none) (hk : k ∈ (Value.slice p' n' c').ownBlock.toList) : (Value.slice p n c).ownBlock ≠ some k := by
  intro hq
  have h1 := own_ptr h hq; have h2 := own_ptr h' (by simpa using hk)
  rcases hne with h3 | h3
  · exact h3 (by rw [h1, h2])
  · rw [h3] at h2; cases h2
/-- the new slice's block is another one than that of an element's slice -/
theorem ptr_new {α : Type} {enc : α → List Value} {e : TypeId} {s B n c n' c' g : Nat} {w wa : World} {p p' : Option Addr} {l l' : List α} (h : Own enc e s B w (.slice p n c) l) (h' : Own enc e s B w (.slice p' n' c') l') (hne : p ≠ p' ∨ p' = none) (hw : w.heap.size ≤ wa.heap.size)
    (hg : (Value.slice p' n' c').ownBlock = some g ∨ g = wa.heap.size) : p ≠ some ⟨g, 0, none⟩ := by
  intro hp
  rcases hg with hg | hg
  · have h2 := own_ptr h' hg
    rcases hne with h3 | h3
    · exact h3 (by rw [hp, h2])
    · rw [h3] at h2; cases h2
  · have hk : (Value.slice p n c).ownBlock = some g := by rw [hp]; rfl
    obtain ⟨_, _, hq⟩ := h.block hk
    have := hq.lt; omega
set_option maxRecDepth 100000 in
set_option maxHeartbeats 8000000 in
theorem kChange {W0 : Two} {w : World} {b : Nat} {x : SSt} {p : Option Addr} {n cap : Nat} {wd : List UInt8} {r : List (List UInt8)} (h : RdX W0 b w x) (hsz : SLe 100000 x) (hlk : x.at_ = 6 → 0 < x.sc.lk.length) (hv : VRow strC 1 w p n cap (wd :: r)) (hn : n ≤ 100000) (hl : ∀ y ∈ wd :: r, y.length ≤ 1000000) (he : Env w) :
    Calls Tryd.prog 52 #[.pointer (some ⟨b, 0, none⟩), .slice p n cap] w fun e w' => RdR W0 b (rdChange x r) e w' := by
  have hlen := hv.len
  subst hlen
  obtain ⟨hb0, hb1, ns, ls, vn, vl, vf, hR⟩ := h
  have hfl := hsz.ch
  have HR := Lib.hid hR; have HV := Lib.hid hv; have HE := Lib.hid he; have HL := Lib.hid hl; have H0 := Lib.hid hb0; have H1 := Lib.hid hb1
  have hx1 := hR.hl; have hle := hsz.lk
  clear hR hv he hl hb0 hb1 hsz
  have q5 := cell_got HR.out.box 5; have lq := got_lt HR.out.box
  by_cases h6 : x.at_ = 6
  · by_cases h2 : (wd :: r).length = 6
    · obtain ⟨a0, a1, a2, a3, a4, rfl⟩ : ∃ a0 a1 a2 a3 a4, r = [a0, a1, a2, a3, a4] := by
        rcases r with _ | ⟨a0, _ | ⟨a1, _ | ⟨a2, _ | ⟨a3, _ | ⟨a4, _ | ⟨q, r⟩⟩⟩⟩⟩⟩
        · simp at h2
        · simp at h2
        · simp at h2
        · simp at h2
        · simp at h2
        · exact ⟨a0, a1, a2, a3, a4, rfl⟩
        · simp at h2
      obtain ⟨rl, y, hls⟩ : ∃ rl y, ls = rl ++ [y] := by
        rcases snoc_or ls with h | h
        · exact absurd (hlk h6) (by rw [hx1, h]; simp)
        · exact h
      subst hls
      have hrl : rl.length ≤ 100000 := by rw [hx1] at hle; simp at hle; omega
      have hgl : x.sc.lk.getLast? = some y.l := by rw [hx1]; simp
      have hyc : y.l.ch.length ≤ 100000 := hfl y.l (by rw [hx1]; simp)
      have HRD : Hid (rdChange x [a0, a1, a2, a3, a4] = (match numsO [a0, a1, a2, a3, a4] with
        | some [a, b, t, d, q] => (if a = y.l.A ∧ b = y.l.B then some ⟨{ x.sc with lk := lastL x.sc.lk (fun l => { l with ch := l.ch ++ [⟨t, d, q⟩] }) }, 6⟩ else none)
        | _ => none)) := Lib.hid (by
        unfold rdChange
        rw [if_pos h6, hgl]
        rcases numsO [a0, a1, a2, a3, a4] with _ | ms
        · rfl
        · rcases ms with _ | ⟨m0, _ | ⟨m1, _ | ⟨m2, _ | ⟨m3, _ | ⟨m4, _ | ⟨q, ms⟩⟩⟩⟩⟩⟩ <;> rfl)
      generalize rdChange x [a0, a1, a2, a3, a4] = res at HRD ⊢
      have d6 : ((x.at_ : Int) != 6) = false := by rw [h6]; rfl
      have z2 : ((([wd, a0, a1, a2, a3, a4] : List (List UInt8)).length : Int) != 6) = false := rfl
      obtain ⟨bw, off, hp, _, lw⟩ := HV.out.str (Only.refl [] w) (k := 5) (by simp)
      subst hp
      have hcp : 6 ≤ cap := HV.out.le
      have HSUB := Lib.hid (HV.out.sub 1 6 (by decide) (by simp))
      have hsl : ∀ y ∈ ([a0, a1, a2, a3, a4] : List (List UInt8)), y.length ≤ 1000000 := fun y hy => HL.out y (by simp only [List.mem_cons, List.not_mem_nil, or_false] at hy ⊢; rcases hy with h | h | h | h | h <;> simp [h])
      have HSL := Lib.hid hsl
      clear h2 hsl hfl hlk hle hgl
      have HN := Lib.hid (pNumbers HSUB.out (by simp) HSL.out HE.out)
      clear HSUB HSL HE
      go_enter Tryd.func52, Tryd.ntmps52
      go_wp2_with fail
      refine HN.out.mono ?_
      rintro e w2 ⟨hv4, ho2⟩
      have R2 := Lib.hid (HR.out.kept ho2); have O2 := Lib.hid (H1.out.nil_trans ho2)
      clear ho2 HN HR H1 HV q5 lq z2 d6
      obtain ⟨v0, v1, rfl⟩ := numsR_form hv4
      have hv4 : NumsR (numsO [a0, a1, a2, a3, a4]) w (.returned (.tuple #[v0, v1])) w2 := hv4
      obtain ⟨gl, capl, hvl, hglB, hrowl⟩ := own_at R2.out.lk
      subst hvl
      have HRL := Lib.hid hrowl
      have q1 := cell_got R2.out.box 1; have lq := got_lt R2.out.box
      have hsub : ((rl.length : Int) + 1 - 1) = rl.length := by omega
      have hwl : IntKind.i64.wrap (rl.length : Int) = (rl.length : Int) := by rw [IntKind.wrap_i64]; omega
      have hwl2 : IntKind.i64.wrap ((rl.length : Int) + 1 - 1) = (rl.length : Int) := by rw [hsub]; exact hwl
      have hlt2 : (rl.length : Int) < (rl.length : Int) + 1 := by omega
      clear hrowl
      go_wp2_with fail
      refine wp_region_grown [0, 1, 2, 3, 4, 5, 6, 7, 8, 9, 10, 11, 12, 13] [] (by kernel_rfl) (by kernel_rfl) ?_
      simp only [pick, List.map_cons, List.map_nil, List.getD_cons_succ, List.getD_cons_zero]
      iterate 14 (refine wpQuiet_step (fun K hK => ?_); go_simp; refine hK _ ?_; clear hK K)
      refine wpQuiet_nil ?_
      intro w3 hw3
      have o3 := only_of_plus hw3
      have R3 := Lib.hid (R2.out.kept o3); have O3 := Lib.hid (O2.out.nil_trans o3); have L3 := Lib.hid (HRL.out.kept o3 (by simp))
      clear hw3 q1 lq R2 O2 HRL
      go_wp2_with fail
      obtain ⟨gv, hv1', hrest⟩ : ∃ okb : Bool, v1 = .bool okb ∧ ((okb = false ∧ numsO [a0, a1, a2, a3, a4] = none) ∨ (okb = true ∧ ∃ g m0 m1 m2 m3 m4, v0 = .slice (some ⟨g, 0, none⟩) 5 5 ∧ RowAt itC 3 1 w2 g 5 [m0, m1, m2, m3, m4] ∧ numsO [a0, a1, a2, a3, a4] = some [m0, m1, m2, m3, m4])) := by
        cases hx : numsO [a0, a1, a2, a3, a4] with
        | none => rw [hx] at hv4; exact ⟨false, (numsR_no hv4).2, .inl ⟨rfl, rfl⟩⟩
        | some ms =>
          rw [hx] at hv4
          obtain ⟨g, e0, e1, hrow⟩ := numsR_yes hv4
          have hml := numsO_len hx
          rcases ms with _ | ⟨m0, _ | ⟨m1, _ | ⟨m2, _ | ⟨m3, _ | ⟨m4, _ | ⟨q, ms⟩⟩⟩⟩⟩⟩
          · simp at hml
          · simp at hml
          · simp at hml
          · simp at hml
          · simp at hml
          · exact ⟨true, e1, .inr ⟨rfl, g, m0, m1, m2, m3, m4, e0, hrow, rfl⟩⟩
          · simp at hml
      subst hv1'
      rcases hrest with ⟨rfl, hx⟩ | ⟨rfl, g, m0, m1, m2, m3, m4, rfl, hrow, hx⟩
      · have HQ : Hid (res = none) := Lib.hid (by rw [HRD.out, hx])
        clear hx hv4 HRD hsub hwl hwl2 hlt2
        refine wp_region_grown [0, 1, 2, 3, 4, 5, 6, 7, 8, 9, 10, 11, 12, 13, 14, 15, 16, 17, 18, 19, 20, 21] [] (by kernel_rfl) (by kernel_rfl) ?_
        simp only [pick, List.map_cons, List.map_nil, List.getD_cons_succ, List.getD_cons_zero]
        iterate 1 (refine wpQuiet_step (fun K hK => ?_); go_simp; refine hK _ ?_; clear hK K)
        repeat (go_big_quiet_step (fail))
        refine wpQuiet_nil ?_
        intro w4 hw4
        have o4 := only_of_plus hw4
        have O4 := Lib.hid (O3.out.nil_trans o4)
        clear hw4 o4
        go_wp2
        go_ret
        rw [HQ.out]
        exact ⟨rfl, O4.out⟩
      · have HX : Hid (res = if m0 = y.l.A ∧ m1 = y.l.B then some ⟨{ x.sc with lk := lastL x.sc.lk (fun l => { l with ch := l.ch ++ [⟨m2, m3, m4⟩] }) }, 6⟩ else none) := Lib.hid (by rw [HRD.out, hx])
        have N3 := Lib.hid (hrow.kept o3 (by simp))
        clear hx hv4 HRD hsub hwl hwl2 hlt2 hrow o3
        have c0 : w3.cell? ⟨g, 0, none⟩ = some (.int .i64 m0) := N3.out.cell (i := 0) (j := 0) itC_len rfl (by decide)
        have c1 : w3.cell? ⟨g, 1, none⟩ = some (.int .i64 m1) := N3.out.cell (i := 1) (j := 0) itC_len rfl (by decide)
        have lg := N3.out.lt
        have cA : w3.cell? ⟨gl, rl.length * 9, none⟩ = some (.int .i64 y.l.A) := L3.out.cell (i := rl.length) (j := 0) lkC_len row_last (by decide)
        have cB : w3.cell? ⟨gl, rl.length * 9 + 1, none⟩ = some (.int .i64 y.l.B) := L3.out.cell (i := rl.length) (j := 1) lkC_len row_last (by decide)
        have ll := L3.out.lt
        by_cases hA : m0 = y.l.A
        · have dA : (m0 != y.l.A) = false := by simp [hA]
          have dA' : (m0 == y.l.A) = true := by simp [hA]
          by_cases hB : m1 = y.l.B
          · have dB : (m1 != y.l.B) = false := by simp [hB]
            have dB' : (m1 == y.l.B) = true := by simp [hB]
            have HQ : Hid (res = some ⟨{ x.sc with lk := lastL x.sc.lk (fun l => { l with ch := l.ch ++ [⟨m2, m3, m4⟩] }) }, 6⟩) := Lib.hid (by rw [HX.out, if_pos ⟨hA, hB⟩])
            clear HX hA hB
            refine wp_region_grown [0, 1, 2, 3, 4, 5, 6, 7, 8, 9, 10, 11, 12, 13, 14, 15, 16, 17, 18, 19, 20, 21] [] (by kernel_rfl) (by kernel_rfl) ?_
            simp only [pick, List.map_cons, List.map_nil, List.getD_cons_succ, List.getD_cons_zero]
            iterate 1 (refine wpQuiet_step (fun K hK => ?_); go_simp; refine hK _ ?_; clear hK K)
            repeat (go_big_quiet_step (fail))
            refine wpQuiet_nil ?_
            intro w4 hw4
            have o4 := only_of_plus hw4
            have R4 := Lib.hid (R3.out.kept o4); have O4 := Lib.hid (O3.out.nil_trans o4); have L4 := Lib.hid (L3.out.kept o4 (by simp)); have N4 := Lib.hid (N3.out.kept o4 (by simp))
            clear hw4 o4 c0 c1 lg cA cB ll dA dA' dB dB' R3 O3 L3 N3
            go_wp2_with fail
            have c2 : w4.cell? ⟨g, 2, none⟩ = some (.int .i64 m2) := N4.out.cell (i := 2) (j := 0) itC_len rfl (by decide)
            have c3 : w4.cell? ⟨g, 3, none⟩ = some (.int .i64 m3) := N4.out.cell (i := 3) (j := 0) itC_len rfl (by decide)
            have c4 : w4.cell? ⟨g, 4, none⟩ = some (.int .i64 m4) := N4.out.cell (i := 4) (j := 0) itC_len rfl (by decide)
            have lg := N4.out.lt
            have cC : w4.cell? ⟨gl, rl.length * 9 + 8, none⟩ = some (.slice y.p y.l.ch.length y.c) := L4.out.cell (i := rl.length) (j := 8) lkC_len row_last (by decide)
            have ll := L4.out.lt
            have HCO := Lib.hid (R4.out.ch y (by simp))
            obtain ⟨S, hS⟩ : ∃ S, S = (Value.slice y.p y.l.ch.length y.c).ownBlock.toList := ⟨_, rfl⟩
            have hbS : b ∉ S := fun hm => by rw [hS] at hm; exact HCO.out.ne_box R4.out.box (by decide) (by simpa using hm)
            have hlS : gl ∉ S := fun hm => by
              rw [hS] at hm
              obtain ⟨_, _, hq⟩ := HCO.out.block (by simpa using hm)
              exact hq.ne L4.out (by decide) rfl
            have hgS : g ∉ S := fun hm => by
              rw [hS] at hm
              obtain ⟨_, _, hq⟩ := HCO.out.block (by simpa using hm)
              exact hq.ne N4.out (by decide) rfl
            have HSE := Lib.hid hS
            clear hS
            refine wp_region_calm2 [0, 1, 2, 3, 4, 5, 6, 7, 8, 9, 10, 11, 12, 13, 14, 15] [18, 19, 20, 21] (OnlyC S w4) (by kernel_rfl) (by kernel_rfl) ?_
            simp only [pick, List.map_cons, List.map_nil, List.getD_cons_succ, List.getD_cons_zero]
            iterate 16 (refine wpCalm_step (fun K hK => ?_); go_simp; refine hK _ ?_; clear hK K)
            refine wpCalm_nil ?_
            clear c2 c3 c4 lg cC ll
            refine Rest.by (X := Nat × Nat) (fun q a => ((((a.put (some 75) (.slice (some ⟨w4.heap.size, 0, none⟩) 1 1)).put (some 76) (.slice (some ⟨q.1, 0, none⟩) (y.l.ch.length + 1) q.2)).put (some 77) (.pointer (some ⟨gl, rl.length * 9, none⟩))).put (some 78) (.pointer (some ⟨gl, rl.length * 9 + 2, none⟩))).put (some 79) (.pointer (some ⟨gl, rl.length * 9 + 2 + 6, none⟩)))
              (fun q w' => Ob b W0 w' ∧ RdW W0.heap.size b w' (⟨{ x.sc with lk := lastL x.sc.lk (fun l => { l with ch := l.ch ++ [⟨m2, m3, m4⟩] }) }, 6⟩ : SSt) ns (rl ++ [⟨{ y.l with ch := y.l.ch ++ [⟨m2, m3, m4⟩] }, some ⟨q.1, 0, none⟩, q.2⟩]) vn (.slice (some ⟨gl, 0, none⟩) (rl.length + 1) capl) vf) ?_ ?_
            · rintro ⟨g9, cap9⟩ w9 ⟨ho9, hr9⟩
              simp only [Act.put, List.setIfInBounds_toArray, List.set_cons_succ, List.set_cons_zero]
              have O9 := Lib.hid ho9; have R9 := Lib.hid hr9
              clear ho9 hr9
              go_wp2
              go_ret
              rw [HQ.out]
              exact ⟨rfl, H0.out, O9.out, ns, _, vn, _, vf, R9.out⟩
            · refine wpAnyC_next [16] (by kernel_rfl) (by simp) (.inr (onlyC (Only.refl S w4).drew)) ?_
              simp only [List.mem_cons, List.not_mem_nil, or_false, forall_eq]
              refine wpOp_one rfl ?_
              go_wp2
              simp only [nrm]
              refine allocd_abs (G := wpAnyC _ _ _ _ _ _ _ _ _) ?_
              intro wa hna hoa hsa
              have MA := Lib.hid hna; have oA := Lib.hid hoa; have RA := Lib.hid (R4.out.kept hoa); have OA := Lib.hid (O4.out.nil_trans hoa); have CA := Lib.hid (HCO.out.kept hoa)
              clear hna hsa hoa
              refine wpAnyC_next [17] (by kernel_rfl) (by simp) (.inr (onlyC (oA.out.mono (by simp)))) ?_
              simp only [List.mem_cons, List.not_mem_nil, or_false, forall_eq]
              refine wpOp_one rfl ?_
              refine wpList_append_B (B := W0.heap.size) rfl _ _ 51 rfl 95 (.agg #[.int .i64 0, .int .i64 0, .int .i64 0]) 3 24 Tryd.underlying51 (by kernel_rfl) rfl (by decide) chC_len chC_one y.l.ch (.slice y.p y.l.ch.length y.c) rfl CA.out w4.heap.size (⟨m2, m3, m4⟩ : Ch) rfl (fun j u hj => ?_) (by simp [maxLen]; omega) (by omega) (by have := OA.out.size; omega) ?_
              · rw [cell_got MA.out]; rw [← hj]; simp [chC]
              · intro g9 cap9 wb hown hob hg9
                rw [← HSE.out] at hob
                have WB := Lib.hid hown; have oB := Lib.hid hob; have oS := Lib.hid ((oA.out.mono (S' := S) (by simp)).trans hob (fun x h => .inl h)); have HG9 := Lib.hid hg9
                clear hown hob hg9
                simp only [wpList, nrm]
                refine wpAnyC_next [18] (by kernel_rfl) (by simp) (.inr (onlyC oS.out)) ?_
                simp only [List.mem_cons, List.not_mem_nil, or_false, forall_eq]
                refine wpOp_one rfl ?_
                go_wp2
                simp only [nrm]
                refine wpAnyC_next [19] (by kernel_rfl) (by simp) (.inr (onlyC oS.out)) ?_
                simp only [List.mem_cons, List.not_mem_nil, or_false, forall_eq]
                refine wpOp_one rfl ?_
                go_wp2
                simp only [nrm]
                refine wpAnyC_next [20] (by kernel_rfl) (by simp) (.inr (onlyC oS.out)) ?_
                simp only [List.mem_cons, List.not_mem_nil, or_false, forall_eq]
                refine wpOp_one rfl ?_
                go_wp2
                simp only [nrm]
                refine wpAnyC_next [21] (by kernel_rfl) (by simp) (.inr (onlyC oS.out)) ?_
                simp only [List.mem_cons, List.not_mem_nil, or_false, forall_eq]
                refine wpOp_one rfl ?_
                have LB := Lib.hid (L4.out.kept oS.out hlS)
                have cD : wb.cell? ⟨gl, rl.length * 9 + 2 + 6, none⟩ = some (.slice y.p y.l.ch.length y.c) := LB.out.cell (i := rl.length) (j := 8) lkC_len row_last (by decide)
                have fD := LB.out.frozen (rl.length * 9 + 2 + 6); have lD := LB.out.lt
                go_wp2
                simp only [nrm]
                clear cD fD lD
                have hz := oA.out.size
                have hSt := RA.out.setL (y' := ⟨{ y.l with ch := y.l.ch ++ [⟨m2, m3, m4⟩] }, some ⟨g9, 0, none⟩, cap9⟩) (x' := (⟨{ x.sc with lk := lastL x.sc.lk (fun l => { l with ch := l.ch ++ [⟨m2, m3, m4⟩] }) }, 6⟩ : SSt)) (j := 8) (u := .slice (some ⟨g9, 0, none⟩) (y.l.ch.length + 1) cap9) oB.out hbS
                  (fun k hk => by rw [HSE.out] at hk; exact RA.out.nd.ne_of CA.out (by decide) k hk) (fun k hk => by rw [HSE.out] at hk; exact RA.out.lk.ne_of CA.out (by decide) k hk) (fun k hk => by rw [HSE.out] at hk; exact RA.out.ft.ne_of CA.out (by decide) k hk)
                  (fun z hz k hk => by rw [HSE.out] at hk; exact ptr_ne (RA.out.ch z (by simp [hz])) CA.out (RA.out.apL rl y rfl z hz) hk)
                  (fun z hz k hk => by rw [HSE.out] at hk; exact (RA.out.sg z hz).ne_of CA.out (by decide) k hk) (fun z hz k hk => by rw [HSE.out] at hk; exact (RA.out.sv z hz).ne_of CA.out (by decide) k hk)
                  (by simpa using WB.out) (fun z hz => .inl (ptr_new (RA.out.ch z (by simp [hz])) CA.out (RA.out.apL rl y rfl z hz) (Nat.le_refl _) HG9.out)) (by decide) (by simp [lkC]) rfl (by rw [show ((⟨{ x.sc with lk := lastL x.sc.lk (fun l => { l with ch := l.ch ++ [⟨m2, m3, m4⟩] }) }, 6⟩ : SSt)).sc.lk = lastL x.sc.lk (fun l => { l with ch := l.ch ++ [⟨m2, m3, m4⟩] }) from rfl, hx1, List.map_append]; exact lastL_snoc _ _ _) rfl rfl rfl h6.symm
                obtain ⟨gn, capn, he1, hgB, _, hRd⟩ := hSt
                cases he1
                refine wpAnyC_done (by kernel_rfl) (.inl (late_of (by kernel_rfl))) ⟨(g9, cap9), rfl, ?_, hRd⟩
                refine (Ob.row (S := S) OA.out oB.out (fun k hk => ?_)).setCell (.inr hgB) _
                rw [HSE.out] at hk
                exact CA.out.blockC (by simpa using hk)
          · have dB : (m1 != y.l.B) = true := by simp [hB]
            have dB' : (m1 == y.l.B) = false := by simp [hB]
            have HQ : Hid (res = none) := Lib.hid (by rw [HX.out, if_neg (fun q => hB q.2)])
            clear HX hA hB
            refine wp_region_grown [0, 1, 2, 3, 4, 5, 6, 7, 8, 9, 10, 11, 12, 13, 14, 15, 16, 17, 18, 19, 20, 21] [] (by kernel_rfl) (by kernel_rfl) ?_
            simp only [pick, List.map_cons, List.map_nil, List.getD_cons_succ, List.getD_cons_zero]
            iterate 1 (refine wpQuiet_step (fun K hK => ?_); go_simp; refine hK _ ?_; clear hK K)
            repeat (go_big_quiet_step (fail))
            refine wpQuiet_nil ?_
            intro w4 hw4
            have o4 := only_of_plus hw4
            have O4 := Lib.hid (O3.out.nil_trans o4)
            clear hw4 o4
            go_wp2
            go_ret
            rw [HQ.out]
            exact ⟨rfl, O4.out⟩
        · have dA : (m0 != y.l.A) = true := by simp [hA]
          have dA' : (m0 == y.l.A) = false := by simp [hA]
          have HQ : Hid (res = none) := Lib.hid (by rw [HX.out, if_neg (fun q => hA q.1)])
          clear HX hA
          refine wp_region_grown [0, 1, 2, 3, 4, 5, 6, 7, 8, 9, 10, 11, 12, 13, 14, 15, 16, 17, 18, 19, 20, 21] [] (by kernel_rfl) (by kernel_rfl) ?_
          simp only [pick, List.map_cons, List.map_nil, List.getD_cons_succ, List.getD_cons_zero]
          iterate 1 (refine wpQuiet_step (fun K hK => ?_); go_simp; refine hK _ ?_; clear hK K)
          repeat (go_big_quiet_step (fail))
          refine wpQuiet_nil ?_
          intro w4 hw4
          have o4 := only_of_plus hw4
          have O4 := Lib.hid (O3.out.nil_trans o4)
          clear hw4 o4
          go_wp2
          go_ret
          rw [HQ.out]
          exact ⟨rfl, O4.out⟩
    · have HX : Hid (rdChange x r = none) := Lib.hid (by
        unfold rdChange
        rw [if_pos h6]
        cases hq : numsO r with
        | none => rfl
        | some ms =>
          have := numsO_len hq
          rcases ms with _ | ⟨m0, _ | ⟨m1, _ | ⟨m2, _ | ⟨m3, _ | ⟨m4, _ | ⟨q, ms⟩⟩⟩⟩⟩⟩
          · rfl
          · rfl
          · rfl
          · rfl
          · rfl
          · exact absurd (by simp at this ⊢; omega) h2
          · rfl)
      generalize rdChange x r = res at HX ⊢
      have d6 : ((x.at_ : Int) != 6) = false := by rw [h6]; rfl
      have z2 : (((wd :: r).length : Int) != 6) = true := by rw [bne_iff_ne]; omega
      have z2p : (((wd :: r).length : Int) == 6) = false := by rw [beq_eq_false_iff_ne]; omega
      clear h6 h2 hfl hlk hx1 hle
      generalize (wd :: r).length = nn at hn ⊢ z2 z2p
      go_enter Tryd.func52, Tryd.ntmps52
      go_wp2
      go_ret
      rw [HX.out]
      exact ⟨rfl, H1.out⟩
  · have HX : Hid (rdChange x r = none) := Lib.hid (if_neg h6)
    generalize rdChange x r = res at HX ⊢
    have d6 : ((x.at_ : Int) != 6) = true := by rw [bne_iff_ne]; omega
    have d6p : ((x.at_ : Int) == 6) = false := by rw [beq_eq_false_iff_ne]; omega
    clear h6 hfl hlk hx1 hle
    generalize (wd :: r).length = nn at hn ⊢ 
    go_enter Tryd.func52, Tryd.ntmps52
    go_wp2
    go_ret
    rw [HX.out]
    exact ⟨rfl, H1.out⟩
end Go.Proofs.YthmeifdgkodjlaaDoor
