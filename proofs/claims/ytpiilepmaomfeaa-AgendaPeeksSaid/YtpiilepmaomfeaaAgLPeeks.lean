/- AgendaPeeks: Peek returns what Pop returns next, and changes nothing: the law returns true for every input. No condition. -/
import Derived.Test.YtpiilepmaomfeaaAgA
import Derived.Test.YtpiilepmaomfeaaAgD
import Derived.Test.YtpiilepmaomfeaaAgG
import Derived.Test.YtpiilepmaomfeaaCalm
namespace Go.Proofs.Ytpiilepmaomfeaa
open Go.ChangeShapes Go.WideShapes Go.ChangeAt Go.RowKit

/-- two queues with the same events -/
structure Twins (w wr : World) (q p : Nat) (lim : Int) (k : Nat) : Prop where
  ex : ∃ F1 F2 tm pu l1 l2, Que wr q F1 lim tm pu l1 ∧ Que wr p F2 lim tm pu l2 ∧ l2.length = l1.length ∧ (∀ e, e ∈ l1 ↔ e ∈ l2) ∧ (∀ b ∈ F1, w.heap.size ≤ b) ∧ (∀ b ∈ F2, w.heap.size ≤ b) ∧ (∀ b ∈ F1, b ∉ F2) ∧ 0 ≤ pu ∧ pu ≤ k
  only : Only [] w wr

theorem Twins.kept {w wr w' : World} {q p : Nat} {lim : Int} {k : Nat} (h : Twins w wr q p lim k) (ho : Only [] wr w') : Twins w w' q p lim k := by
  obtain ⟨⟨F1, F2, tm, pu, l1, l2, h1, h2, r⟩, hoo⟩ := h
  exact ⟨⟨F1, F2, tm, pu, l1, l2, h1.kept ho (by simp), h2.kept ho (by simp), r⟩, hoo.nil_trans ho⟩

theorem pushTo_twins {lim tm pu at_ item pu1 pu2 : Int} {l1 l2 l1' l2' : List Ev} (hl : l2.length = l1.length) (hm : ∀ e, e ∈ l1 ↔ e ∈ l2) (h1 : PushTo lim tm pu l1 at_ item pu1 l1') (h2 : PushTo lim tm pu l2 at_ item pu2 l2') :
    pu2 = pu1 ∧ l2'.length = l1'.length ∧ (∀ e, e ∈ l1' ↔ e ∈ l2') ∧ (pu1 = pu ∨ pu1 = pu + 1) := by
  rcases h1 with ⟨a, b, _, _, _, c, d⟩ | ⟨a, b, c, d⟩ <;> rcases h2 with ⟨a', b', _, _, _, c', d'⟩ | ⟨a', b', c', d'⟩
  · exact ⟨by omega, by omega, fun e => by rw [d e, d' e, hm e], .inr b⟩
  · rw [hl] at a'; exact absurd a a'
  · rw [hl] at a'; exact absurd a' a
  · exact ⟨by omega, by omega, fun e => by rw [d e, d' e, hm e], .inl b⟩

set_option maxRecDepth 100000 in
set_option maxHeartbeats 4000000 in
theorem peeks_walk (a0 : Int) (p : Option Addr) (n cap : Nat) (ds : List Deed) (w : World) (hwf0 : (Lit.int .u8 a0).wf = true) (hv : VDeeds w p n cap ds) (hok : ∀ d ∈ ds, d.ok) :
    Calls Try.prog 8 #[.int .u8 a0, .slice p n cap] w fun e w' => e = .returned (.bool true) ∧ Only [] w w' := by
  obtain ⟨hlo, hhi⟩ := bounds_u8 hwf0
  obtain ⟨m, hm⟩ : ∃ m, m = min n 300 := ⟨_, rfl⟩
  have hmn : m ≤ n := by omega
  have hm3 : m ≤ 300 := by omega
  have hf := first_any p n cap
  rw [← hm] at hf
  have HF := Lib.hid (fun w => hf w hv.le hv.cm hv.nil)
  have hv' := hv.take m hmn
  obtain ⟨us, hus⟩ : ∃ us, us = ds.take m := ⟨_, rfl⟩
  rw [← hus] at hv'
  have hcm := hv.cm
  unfold maxLen at hcm
  have hmc : m ≤ cap := hv'.le
  have hoks : ∀ d ∈ us, d.ok := fun d hd => hok d (List.mem_of_mem_take (by rw [← hus]; exact hd))
  have HV := Lib.hid hv'; have HK := Lib.hid hoks
  clear hf hm hv hv' hus hok hoks hwf0
  have hr0 : 0 ≤ a0 % 20 := by omega
  have hr1 : a0 % 20 < 20 := by omega
  go_enter Try.func8, Try.ntmps8
  go_wp2_with fail
  refine (new_ok (a0 % 20 + 1) w (by omega) (by omega)).mono ?_
  rintro e w1 ⟨rfl, hq1, ho1⟩
  have Q1 := Lib.hid hq1; clear hq1
  go_wp2_with fail
  refine (new_ok (a0 % 20 + 1) w1 (by omega) (by omega)).mono ?_
  rintro e w2 ⟨rfl, hq2, ho2⟩
  have Q2 := Lib.hid hq2; clear hq2
  have hs1 : w.heap.size < w1.heap.size := Q1.out.blocks _ (by simp)
  go_wp2_with fail
  refine (HF.out w2).mono ?_
  rintro e w3 ⟨rfl, rfl⟩
  have hst : Twins w w2 w.heap.size w1.heap.size (a0 % 20 + 1) 0 := by
    refine ⟨⟨_, _, 0, 0, [], [], Q1.out.kept ho2 (by simp), Q2.out, rfl, by simp, by simp, by simp; omega, by simp; omega, by omega, by omega⟩, ho1.nil_trans ho2⟩
  have ST := Lib.hid hst; clear hst
  go_wp2
  go_loopw [37] (fun vi wr => ∃ k : Nat, vi = .int .i64 k ∧ k ≤ m ∧ Twins w wr w.heap.size w1.heap.size (a0 % 20 + 1) k) (fun vi _ => m - (intOf vi).toNat)
  case atStart => exact ⟨0, rfl, Nat.zero_le _, ST.out⟩
  case round =>
    obtain ⟨k, rfl, hk, htw⟩ := hrel
    have TW := Lib.hid htw; clear htw
    obtain ⟨⟨F1, F2, tm, pu, l1, l2, hq1, hq2, hll, hmm, hF1, hF2, hdj, hp0, hp1⟩, hoo⟩ := TW.out
    have A1 := Lib.hid hq1; have A2 := Lib.hid hq2; have LL := Lib.hid hll; have MM := Lib.hid hmm; have G1 := Lib.hid hF1; have G2 := Lib.hid hF2; have DJ := Lib.hid hdj; have OO := Lib.hid hoo
    clear hq1 hq2 hll hmm hF1 hF2 hdj hoo TW
    by_cases hkm : k < m
    · have hkl : k < us.length := by rw [HV.out.len]; exact hkm
      obtain ⟨bb, off, hp, hb, hcl⟩ := HV.out.cell k us[k] (List.getElem?_eq_getElem hkl)
      obtain ⟨okk, oka, okb⟩ := HK.out us[k] (List.getElem_mem hkl)
      generalize us[k] = d at hcl okk oka okb
      subst hp
      have u0 : wr.cell? ⟨bb, off + k * 3, none⟩ = some (.int .i64 d.k) := by rw [OO.out.cell hb (by simp)]; exact hcl 0 _ rfl
      have u1 : wr.cell? ⟨bb, off + k * 3 + 1, none⟩ = some (.int .i64 d.a) := by rw [OO.out.cell hb (by simp)]; exact hcl 1 _ rfl
      have u2 : wr.cell? ⟨bb, off + k * 3 + 2, none⟩ = some (.int .i64 d.b) := by rw [OO.out.cell hb (by simp)]; exact hcl 2 _ rfl
      have hbw : bb < wr.heap.size := Nat.lt_of_lt_of_le hb OO.out.size
      clear hcl
      go_wp2_with fail
      refine alloc_abs (G := fun w0 => Calls _ _ _ w0 _) ?_
      intro w4 hb4 ho4 hs4
      have B4 := Lib.hid hb4; have S4 := Lib.hid hs4; clear hb4 hs4 u0 u1 u2
      refine (peek_gen (A1.out.rep.kept ho4 (by simp))).mono ?_
      rintro e w5 ⟨rfl, ho5⟩
      have B5 := Lib.hid (ho5.got B4.out (by simp))
      have d0 := cell_got B5.out 0
      have d1 := cell_got B5.out 1
      have d2 := cell_got B5.out 2
      have hb5 := got_lt B5.out
      have o45 : Hid (Only [] wr w5) := ho4.nil_trans ho5
      have C1 := Lib.hid (A1.out.kept o45.out (by simp))
      have C2 := Lib.hid (A2.out.kept o45.out (by simp))
      have fin : ∀ (w6 : World) (S : List Nat) (F1' F2' : List Nat) (tm' pu' : Int) (l1' l2' : List Ev), Only S w5 w6 → (∀ x ∈ S, w.heap.size ≤ x) → Que w6 w.heap.size F1' (a0 % 20 + 1) tm' pu' l1' → Que w6 w1.heap.size F2' (a0 % 20 + 1) tm' pu' l2' → l2'.length = l1'.length → (∀ e, e ∈ l1' ↔ e ∈ l2') →
          (∀ b ∈ F1', w.heap.size ≤ b) → (∀ b ∈ F2', w.heap.size ≤ b) → (∀ b ∈ F1', b ∉ F2') → (pu' = pu ∨ pu' = pu + 1) → Twins w w6 w.heap.size w1.heap.size (a0 % 20 + 1) (k + 1) := by
        intro w6 S F1' F2' tm' pu' l1' l2' ho hS h1 h2 h3 h4 h5 h6 h7 h8
        refine ⟨⟨F1', F2', tm', pu', l1', l2', h1, h2, h3, h4, h5, h6, h7, by omega, by omega⟩, (OO.out.nil_trans o45.out).trans ho (fun x hx => .inr (hS x hx))⟩
      have FIN := Lib.hid fin; clear fin
      have hsw := OO.out.size
      have hsz5 := o45.out.size
      by_cases hk0 : d.k = 0
      · have t0 : (d.k == 0) = true := by rw [beq_iff_eq]; exact hk0
        have HK0 := Lib.hid hk0; clear hk0
        go_wp2_with fail
        refine alloc_abs (G := fun w0 => Calls _ _ _ w0 _) ?_
        intro w6 hb6 ho6 hs6
        have B6 := Lib.hid (ho6.got B5.out (by simp)); clear hb6 hs6
        refine (push_gen (C1.out.kept ho6 (by simp)) d.a d.b hp0 (by omega)).mono ?_
        rintro e w7 ⟨rfl, F1', l1', pu1, hq7, ho7, hF7, hpt7⟩
        have hs6 := ho6.size
        have hs7 := ho7.size
        have hB4 : Hid (∀ b ∈ F1, b < wr.heap.size) := A1.out.blocks
        have B7 := Lib.hid (box_kept B6.out ho7 (fun x hx => .inl (hB4.out x hx)))
        clear d0 d1 d2
        have d1 := cell_got B7.out 1
        have d2 := cell_got B7.out 2
        have P7 := Lib.hid hpt7; have Q7 := Lib.hid hq7; have F7 := Lib.hid hF7; clear hpt7 hq7 hF7
        have C7 := Lib.hid ((C2.out.kept ho6 (by simp)).kept ho7 (fun b hb hb' => DJ.out b hb' hb))
        have hpg := push_gen C7.out d.a d.b hp0 (by omega)
        rw [LL.out] at hpg
        have HPG := Lib.hid hpg; clear hpg
        go_wp2_with fail
        refine HPG.out.mono ?_
        rintro e w8 ⟨rfl, F2', l2', pu2, hq8, ho8, hF8, hpt8⟩
        obtain ⟨e1, e2, e3, e4⟩ := pushTo_twins LL.out MM.out P7.out hpt8
        subst e1
        have hd7 : ∀ b ∈ F1', b ∉ F2 := fun b hb hb' => by
          rcases F7.out b hb with h | h
          · exact DJ.out b h hb'
          · have := A2.out.blocks b hb'; omega
        have hd8 : ∀ b ∈ F1', b ∉ F2' := fun b hb hb' => by
          rcases hF8 b hb' with h | h
          · exact hd7 b hb h
          · have := Q7.out.blocks b hb; omega
        have hT := FIN.out w8 (F1 ++ F2) F1' F2' tm pu2 l1' l2' (((ho6.weak (S' := F1 ++ F2) (by simp)).trans ho7 (fun x hx => .inl (by simp [hx]))).trans ho8 (fun x hx => .inl (by simp [hx])))
          (fun x hx => by rcases List.mem_append.1 hx with h | h; exact G1.out x h; exact G2.out x h) (Q7.out.kept ho8 hd7) hq8 e2 e3
          (fun b hb => by rcases F7.out b hb with h | h; exact G1.out b h; omega) (fun b hb => by rcases hF8 b hb with h | h; exact G2.out b h; omega) hd8 e4
        have TT := Lib.hid hT; clear hT hq8 hF8 hpt8 e2 e3 e4 hd7 hd8
        go_wp2
        go_roundw
        case rel => exact ⟨k + 1, by go_num, by omega, TT.out⟩
        case measure => simp [intOf]; omega
      · have t0 : (d.k == 0) = false := by rw [beq_eq_false_iff_ne]; exact hk0
        clear hk0
        by_cases hk1 : d.k = 1
        · have t1 : (d.k == 1) = true := by rw [beq_iff_eq]; exact hk1
          have HK1 := Lib.hid hk1; clear hk1
          go_wp2_with fail
          refine alloc_abs (G := fun w0 => Calls _ _ _ w0 _) ?_
          intro w6 hb6 ho6 hs6
          have X6 := Lib.hid hb6; clear hb6
          refine (pop_gen (C1.out.kept ho6 (by simp))).mono ?_
          rintro e w7 ⟨rfl, tm7, l1', hq7, ho7, htm7, hl7, hm7⟩
          have hB4 : Hid (∀ b ∈ F1, b < wr.heap.size) := A1.out.blocks
          have hB5 : Hid (∀ b ∈ F2, b < wr.heap.size) := A2.out.blocks
          have hs7 := ho7.size
          have X7 := Lib.hid (box_kept X6.out ho7 (fun x hx => .inl (by have := hB4.out x hx; omega)))
          have Q7 := Lib.hid hq7; have T7 := Lib.hid htm7; have L7 := Lib.hid hl7; have M7 := Lib.hid hm7; clear hq7 htm7 hl7 hm7
          have C7 := Lib.hid ((C2.out.kept ho6 (by simp)).kept ho7 (fun b hb hb' => DJ.out b hb' hb))
          go_wp2_with fail
          refine alloc_abs (G := fun w0 => Calls _ _ _ w0 _) ?_
          intro w8 hb8 ho8 hs8
          have Y8 := Lib.hid hb8; clear hb8
          have X8 := Lib.hid (ho8.got X7.out (by simp))
          have hsf : el l2 0 = el l1 0 := (same_first C1.out C2.out MM.out LL.out.symm).symm
          have hpg := pop_gen (C7.out.kept ho8 (by simp))
          rw [LL.out, hsf] at hpg
          refine hpg.mono ?_
          clear hpg hsf
          rintro e w9 ⟨rfl, tm9, l2', hq9, ho9, htm9, hl9, hm9⟩
          have hs9 := ho9.size
          have X9 := Lib.hid (box_kept X8.out ho9 (fun x hx => .inl (by have := hB5.out x hx; omega)))
          have Y9 := Lib.hid (box_kept Y8.out ho9 (fun x hx => .inl (by have := hB5.out x hx; omega)))
          have hte : tm9 = tm7 := by rw [htm9, T7.out]
          subst hte
          have hT := FIN.out w9 (F1 ++ F2) F1 F2 tm9 pu l1' l2' ((((ho6.weak (S' := F1 ++ F2) (by simp)).trans ho7 (fun x hx => .inl (by simp [hx]))).nil_trans ho8).trans ho9 (fun x hx => .inl (by simp [hx])))
            (fun x hx => by rcases List.mem_append.1 hx with h | h; exact G1.out x h; exact G2.out x h) ((Q7.out.kept ho8 (by simp)).kept ho9 DJ.out) hq9 (by rw [hl9, L7.out]) (fun e => by rw [hm9 e, M7.out e, MM.out e]) G1.out G2.out DJ.out (.inl rfl)
          have TT := Lib.hid hT; clear hT hq9 hl9 hm9 htm9
          clear d0 d1 d2
          have x0 := cell_got X9.out 0; have x1 := cell_got X9.out 1; have x2 := cell_got X9.out 2
          have y0 := cell_got Y9.out 0; have y1 := cell_got Y9.out 1; have y2 := cell_got Y9.out 2
          have z1 := got_lt X9.out
          have z2 := got_lt Y9.out
          go_wp2
          go_roundw
          case rel => exact ⟨k + 1, by go_num, by omega, TT.out.kept ((Only.refl [] _).alloc _)⟩
          case measure => simp [intOf]; omega
        · have t1 : (d.k == 1) = false := by rw [beq_eq_false_iff_ne]; exact hk1
          clear hk1
          by_cases hk3 : d.k = 3
          · have t3 : (d.k == 3) = true := by rw [beq_iff_eq]; exact hk3
            have HK3 := Lib.hid hk3; clear hk3
            go_wp2
            refine alloc_abs (G := Code.wp _ _ _ _) ?_
            intro w6 hb6 ho6 hs6
            have HS6 := Lib.hid hs6; clear hs6 hb6
            have B6 := Lib.hid (ho6.got B5.out (by simp))
            clear d0 d1 d2
            have d1 := cell_got B6.out 1
            have hb6 := got_lt B6.out
            have hB4 : Hid (∀ b ∈ F1, b < wr.heap.size) := A1.out.blocks
            have hnF : wr.heap.size ∉ F1 := fun h => by have := hB4.out _ h; omega
            refine wp_region_calm2 [0,1,2,4,5,6] [7,8] (OnlyC F1 w6) (by kernel_rfl) (by kernel_rfl) ?_
            simp only [pick, List.map_cons, List.map_nil, List.getD_cons_succ, List.getD_cons_zero]
            iterate 6 (refine wpCalm_step (fun K hK => ?_); go_simp; refine hK _ ?_; clear hK K)
            refine wpCalm_nil ?_
            refine Rest.by (X := Unit) (fun _ a => ((a.put (some 111) (.bool (hasId l1 d.a))).put (some 115) (.bool (hasId l1 d.a))).put (some 116) (.bool false)) (fun _ w' => Twins w w' w.heap.size w1.heap.size (a0 % 20 + 1) (k + 1)) ?_ ?_
            · rintro _ w7 hT
              have TT := Lib.hid hT; clear hT
              simp only [Act.put, List.setIfInBounds_toArray, List.set_cons_succ, List.set_cons_zero]
              clear d1
              go_wp2
              go_roundw
              case rel => exact ⟨k + 1, by go_num, by omega, TT.out⟩
              case measure => simp [intOf]; omega
            · refine wpAnyC_next [3] (by kernel_rfl) (by simp) (.inr (onlyC (Only.refl _ _).drew)) ?_
              simp only [List.mem_cons, List.not_mem_nil, or_false, forall_eq]
              refine wpOp_one rfl ?_
              go_wp2_with fail
              have C6 := Lib.hid ((C1.out.kept ho6 (by simp)).kept (Only.refl [] w6).drew (by simp))
              refine (cancel_gen C6.out d.a oka).mono ?_
              rintro e w7 ⟨rfl, l1', hq7, ho7, hl7, hm7⟩
              have Q7 := Lib.hid hq7; have L7 := Lib.hid hl7; have M7 := Lib.hid hm7; clear hq7 hl7 hm7
              have o7 : Hid (Only F1 w6 w7) := ((Only.refl F1 w6).drew).trans ho7 (fun _ h => .inl h)
              go_wp2
              simp only [nrm]
              refine wpAnyC_next [7] (by kernel_rfl) (by simp) (.inr (onlyC o7.out)) ?_
              simp only [List.mem_cons, List.not_mem_nil, or_false, forall_eq]
              refine wpOp_one rfl ?_
              go_wp2_with fail
              have C7 := Lib.hid ((C2.out.kept ho6 (by simp)).kept o7.out (fun b hb hb' => DJ.out b hb' hb))
              have hcg := cancel_gen C7.out d.a oka
              rw [← hasId_congr MM.out, LL.out] at hcg
              refine hcg.mono ?_
              clear hcg
              rintro e w8 ⟨rfl, l2', hq8, ho8, hl8, hm8⟩
              have hT := FIN.out w8 (F1 ++ F2) F1 F2 tm pu l1' l2' (((ho6.weak (S' := F1 ++ F2) (by simp)).trans o7.out (fun x hx => .inl (by simp [hx]))).trans ho8 (fun x hx => .inl (by simp [hx])))
                (fun x hx => by rcases List.mem_append.1 hx with h | h; exact G1.out x h; exact G2.out x h) (Q7.out.kept ho8 DJ.out) hq8 (by rw [hl8, L7.out]) (fun e => by rw [hm8 e, M7.out e, MM.out e]) G1.out G2.out DJ.out (.inl rfl)
              have TT := Lib.hid hT; clear hT hq8 hl8 hm8
              go_wp2
              simp only [nrm]
              refine wpAnyC_next [8] (by kernel_rfl) (by simp) (.inl (late_of (by kernel_rfl))) ?_
              simp only [List.mem_cons, List.not_mem_nil, or_false, forall_eq]
              refine wpOp_one rfl ?_
              go_wp2
              simp only [nrm]
              refine wpAnyC_done (by kernel_rfl) (.inl (late_of (by kernel_rfl))) ⟨(), ?_, TT.out⟩
              simp [Act.put]
          · have t3 : (d.k == 3) = false := by rw [beq_eq_false_iff_ne]; exact hk3
            clear hk3
            go_wp2
            go_roundw
            case rel =>
              have hT := FIN.out w5 [] F1 F2 tm pu l1 l2 (Only.refl _ _) (by simp) C1.out C2.out LL.out MM.out G1.out G2.out DJ.out (.inl rfl)
              exact ⟨k + 1, by go_num, by omega, hT.kept ((Only.refl [] _).alloc _)⟩
            case measure => simp [intOf]; omega
    · have hkm' : k = m := by omega
      have hln : (l2.length : Int) = l1.length := by rw [LL.out]
      have HLN := Lib.hid hln; clear hln
      go_wp2_with fail
      refine (len_any A1.out.rep).mono ?_
      rintro e w5 ⟨rfl, rfl⟩
      go_wp2_with fail
      refine (len_any A2.out.rep).mono ?_
      rintro e w5 ⟨rfl, rfl⟩
      rw [HLN.out]
      go_wp2_with fail
      refine (awake_any _).mono ?_
      rintro e w6 ⟨rfl, ho6⟩
      go_wp2
      go_ret
      exact ⟨rfl, OO.out.nil_trans ho6⟩
set_option maxRecDepth 100000 in
theorem agendaPeeks_lifted (os : Os) (started : os.Started) (H : Type) (enc : TypeId × Value → H) :
    ReturnsInHanded {} Try.checked os 8 .any (Rows.agendaPeeksSpec.pre6 enc Try.prog Try.f8 Rows.agendaPeeksRow.domain false) (Rows.agendaPeeksSpec.post enc Try.prog Try.f8 false true false false) := by
  refine returnsInHanded_of_change (C := Try.checked) law_own started (by kernel_rfl) Try.func8
    (ChangeSpec.witness6 (enc := enc) (C := Try.checked) false ⟨#[], #[.int .u8 0, .slice none 0 0], []⟩ 8 (by kernel_rfl) (by kernel_rfl) (by kernel_rfl) (by kernel_rfl)) ?_
  intro W base args ds gs before hval0 hW hcnd _
  have hval : ∀ (j : Nat) t v, Try.f8.params[j]? = some t → args[j]? = some v → Value.okWide Try.prog W .any base t v := hval0
  have hW' := hW
  obtain ⟨p, q, hA0, hV, rfl, hfz, hnd⟩ := hW
  have hA : DataW.TrodAll enc Try.prog W 0 (fun _ => true) true Try.f8.params.toList args.toList ds p := hA0
  rw [Try.params8] at hA hval
  obtain ⟨v0, vs0, d0, ds0, p0, q0, hargs, rfl, rfl, h0, r0⟩ := trodAll_cons hA
  obtain ⟨v1, vs1, d1, ds1, p1, q1, rfl, rfl, rfl, h1, r1⟩ := trodAll_cons r0
  obtain ⟨rfl, rfl, rfl⟩ := trodAll_nil r1
  obtain rfl : args = #[v0, v1] := by cases args; simp_all
  obtain ⟨rfl, rfl⟩ := trodVars_none hV
  obtain ⟨a0, rfl, rfl, rfl, w0⟩ := open_int Try.underlying5 (hval 0 5 v0 rfl rfl) h0
  have k1 := h1
  have lt1 : ∀ x ∈ p1, x.block < W.heap.size := by obtain ⟨m, hm⟩ := k1; exact DataW.trod_lt m _ _ _ hm
  obtain ⟨a1, len1, cap1, rfl⟩ := okWide_slice Try.underlying38 (hval 1 38 v1 rfl rfl)
  obtain ⟨z1, w1, g1⟩ := vrow_deeds h1
  clear hA0 hval0
  refine (peeks_walk a0 a1 len1 cap1 z1 W w0 w1 g1).mono fun e W' ⟨he, ho⟩ => ?_
  subst he
  have bel : Below W.heap.size W W' := ho.nil_below
  exact ⟨_, rfl, _, _, _, [], _, [], hW', trodAll_mk1 (shut_bool Try.underlying4 _), (trodAll_cons_mk (shut_int Try.underlying5 w0) (trodAll_cons_mk (Below.trod law_laidOut (by kernel_rfl) (of_decide_eq_true (by kernel_rfl)) k1 bel lt1) trodAll_mk0)), rfl, bel.frame _, fun h => by cases h⟩

theorem agendaPeeks_over : Rows.agendaPeeksRow.holds Try.pinned (OpenSpec.ofChange Rows.agendaPeeksSpec) :=
  OpenClaim.holds_of_wide 8 Try.f8 rfl rfl rfl rfl rfl rfl rfl ⟨rfl, rfl, rfl, rfl, rfl⟩ rfl rfl rfl rfl rfl (by kernel_rfl) Try.func8 (by kernel_rfl)
    (of_decide_eq_true (by kernel_rfl)) (by unfold Func.isWrapper; first | (rw [if_pos (by decide +kernel)]; kernel_rfl) | (rw [if_neg (by decide +kernel)]; exact ⟨rfl, rfl⟩))
    (fun os started H enc _ => agendaPeeks_lifted os started H enc)

theorem agendaPeeks_holds : Rows.AgendaPeeksSaid := agendaPeeks_over
end Go.Proofs.Ytpiilepmaomfeaa
