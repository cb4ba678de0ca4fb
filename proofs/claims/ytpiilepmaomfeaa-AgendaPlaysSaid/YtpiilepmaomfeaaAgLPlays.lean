/- AgendaPlays: a queue returns the defined results, whatever is called: the law returns true for every input. No condition. -/
import Derived.Test.YtpiilepmaomfeaaAgA
import Derived.Test.YtpiilepmaomfeaaAgD
import Derived.Test.YtpiilepmaomfeaaAgX
import Derived.Test.YtpiilepmaomfeaaCalm
namespace Go.Proofs.Ytpiilepmaomfeaa
open Go.ChangeShapes Go.WideShapes Go.ChangeAt Go.RowKit

set_option maxRecDepth 100000 in
set_option maxHeartbeats 8000000 in
theorem plays_walk (a0 : Int) (p : Option Addr) (n cap : Nat) (ds : List Deed) (w : World) (_hwf0 : (Lit.int .i64 a0).wf = true) (hv : VDeeds w p n cap ds) (hok : ∀ d ∈ ds, d.ok) :
    Calls Try.prog 5 #[.int .i64 a0, .slice p n cap] w fun e w' => e = .returned (.bool true) ∧ Only [] w w' := by
  obtain ⟨m, hm⟩ : ∃ m, m = min n 300 := ⟨_, rfl⟩
  have hmn : m ≤ n := by omega
  have hm3 : m ≤ 300 := by omega
  have hf := first_any p n cap
  rw [← hm] at hf
  have HF := Lib.hid (fun w => hf w hv.le hv.cm hv.nil)
  have hv' := hv.take m hmn
  obtain ⟨us, hus⟩ : ∃ us, us = ds.take m := ⟨_, rfl⟩
  rw [← hus] at hv'
  have hcm := hv.cm
  unfold maxLen at hcm
  have hmc : m ≤ cap := hv'.le
  have hoks : ∀ d ∈ us, d.ok := fun d hd => hok d (List.mem_of_mem_take (by rw [← hus]; exact hd))
  have HV := Lib.hid hv'; have HK := Lib.hid hoks
  clear hf hm hv hv' hus hok hoks
  by_cases hlim : 1 ≤ a0 ∧ a0 ≤ 4096
  · obtain ⟨hl1, hl2⟩ := hlim
    go_enter Try.func5, Try.ntmps5
    go_wp2_with fail
    refine (new_ok a0 w (by omega) (by omega)).mono ?_
    rintro e w1 ⟨rfl, hq1, ho1⟩
    have Q1 := Lib.hid hq1; clear hq1
    have hs1 : w.heap.size < w1.heap.size := Q1.out.blocks _ (by simp)
    go_wp2_with fail
    refine (rnew_ok a0 w1 (by omega) (by omega)).mono ?_
    rintro e w2 ⟨rfl, hq2, ho2⟩
    have hst : Pl w w2 (.pointer (some ⟨w.heap.size, 0, none⟩)) (.pointer (some ⟨w1.heap.size, 0, none⟩)) 0 := by
      refine ⟨.inr ⟨_, _, _, _, _, _, _, _, _, rfl, rfl, ⟨Q1.out.kept ho2 (by simp), hq2, fun _ => Iff.rfl, rfl, List.Pairwise.nil, by simp [Value.ownBlock]; omega⟩, by omega, by omega, by simp, by simp [Value.ownBlock]; omega⟩, ho1.nil_trans ho2⟩
    have ST := Lib.hid hst; clear hst hq2
    go_wp2_with fail
    refine (HF.out _).mono ?_
    rintro e w3 ⟨rfl, rfl⟩
    go_wp2
    go_loopw [34] (fun vi wr => ∃ k : Nat, vi = .int .i64 k ∧ k ≤ m ∧ Pl w wr (.pointer (some ⟨w.heap.size, 0, none⟩)) (.pointer (some ⟨w1.heap.size, 0, none⟩)) k) (fun vi _ => m - (intOf vi).toNat)
    case atStart => exact ⟨0, rfl, Nat.zero_le _, ST.out⟩
    case round =>
      obtain ⟨k, rfl, hk, hpl⟩ := hrel
      have P0 := Lib.hid hpl; clear hpl
      by_cases hkm : k < m
      · have hkl : k < us.length := by rw [HV.out.len]; exact hkm
        have OO := Lib.hid P0.out.only
        obtain ⟨bb, off, hp, hb, hcl⟩ := HV.out.cell k us[k] (List.getElem?_eq_getElem hkl)
        obtain ⟨okk, oka, okb⟩ := HK.out us[k] (List.getElem_mem hkl)
        generalize us[k] = d at hcl okk oka okb
        subst hp
        have u0 : wr.cell? ⟨bb, off + k * 3, none⟩ = some (.int .i64 d.k) := by rw [OO.out.cell hb (by simp)]; exact hcl 0 _ rfl
        have u1 : wr.cell? ⟨bb, off + k * 3 + 1, none⟩ = some (.int .i64 d.a) := by rw [OO.out.cell hb (by simp)]; exact hcl 1 _ rfl
        have u2 : wr.cell? ⟨bb, off + k * 3 + 2, none⟩ = some (.int .i64 d.b) := by rw [OO.out.cell hb (by simp)]; exact hcl 2 _ rfl
        have hbw : bb < wr.heap.size := Nat.lt_of_lt_of_le hb OO.out.size
        clear hcl
        have OKA := Lib.hid oka; clear okk okb oka
        by_cases hk0 : d.k = 0
        · have t0 : (d.k == 0) = true := by rw [beq_iff_eq]; exact hk0
          have HK0 := Lib.hid hk0; clear hk0
          go_wp2_with fail
          refine alloc_abs (G := fun w0 => Calls _ _ _ w0 _) ?_
          intro w4 hb4 ho4 hs4
          have B4 := Lib.hid hb4; clear hb4 hs4 u0 u1 u2
          refine (pl_push P0.out (by omega) d.a d.b ho4).mono ?_
          rintro e w5 ⟨y1, y2, rfl, hk5, hnx⟩
          have B5 := Lib.hid (hk5.got (Nat.le_refl _) B4.out)
          have NX := Lib.hid (hnx w5 (Only.refl _ _)); clear hnx
          have d1 := cell_got B5.out 1
          have d2 := cell_got B5.out 2
          have hb5 := got_lt B5.out
          go_wp2_with fail
          refine NX.out.mono ?_
          rintro e w6 ⟨rfl, hk6, hp6⟩
          have P6 := Lib.hid hp6; clear hp6
          have PL := Lib.hid (P6.out)
          go_wp2_with fail
          refine (pl_len PL.out).mono ?_
          rintro e w8 ⟨nn, rfl, rfl, hrl⟩
          have RL := Lib.hid hrl; clear hrl
          go_wp2_with fail
          refine RL.out.mono ?_
          rintro e w9 ⟨rfl, rfl⟩
          go_wp2
          go_roundw
          case rel => exact ⟨k + 1, by go_num, by omega, PL.out⟩
          case measure => simp [intOf]; omega
        · have t0 : (d.k == 0) = false := by rw [beq_eq_false_iff_ne]; exact hk0
          clear hk0
          by_cases hk1 : d.k = 1
          · have t1 : (d.k == 1) = true := by rw [beq_iff_eq]; exact hk1
            have HK1 := Lib.hid hk1; clear hk1
            go_wp2_with fail
            refine alloc_abs (G := fun w0 => Calls _ _ _ w0 _) ?_
            intro w4 hb4 ho4 hs4
            have B4 := Lib.hid hb4; clear hb4 hs4 u0 u1 u2
            refine (pl_pop P0.out ho4).mono ?_
            rintro e w5 ⟨x, y, rfl, hk5, hnx⟩
            have NX := Lib.hid hnx; clear hnx
            have hs5 := hk5.size
            have hs4 := ho4.size
            go_wp2_with fail
            refine alloc_abs (G := fun w0 => Calls _ _ _ w0 _) ?_
            intro w6 hb6 ho6 hs6
            have B6 := Lib.hid hb6; clear hb6 hs6
            refine (NX.out w6 ho6).mono ?_
            rintro e w7 ⟨rfl, hk7, hp7⟩
            have P7 := Lib.hid hp7; clear hp7
            have B7 := Lib.hid (hk7.got (by omega) B6.out)
            have x0 := cell_got B7.out 0
            have x1 := cell_got B7.out 1
            have x2 := cell_got B7.out 2
            have z7 := got_lt B7.out
            go_wp2_with fail
            refine alloc_abs (G := fun w0 => Calls _ _ _ w0 _) ?_
            intro w10 hb10 ho10 hs10
            clear hb10 hs10 x0 x1 x2
            have PL := Lib.hid (P7.out.more.kept ho10)
            refine (pl_len PL.out).mono ?_
            rintro e w8 ⟨nn, rfl, rfl, hrl⟩
            have RL := Lib.hid hrl; clear hrl
            go_wp2_with fail
            refine RL.out.mono ?_
            rintro e w9 ⟨rfl, rfl⟩
            go_wp2
            go_roundw
            case rel => exact ⟨k + 1, by go_num, by omega, PL.out⟩
            case measure => simp [intOf]; omega
          · have t1 : (d.k == 1) = false := by rw [beq_eq_false_iff_ne]; exact hk1
            clear hk1
            by_cases hk2 : d.k = 2
            · have t2 : (d.k == 2) = true := by rw [beq_iff_eq]; exact hk2
              have HK2 := Lib.hid hk2; clear hk2
              go_wp2_with fail
              refine alloc_abs (G := fun w0 => Calls _ _ _ w0 _) ?_
              intro w4 hb4 ho4 hs4
              have B4 := Lib.hid hb4; clear hb4 hs4 u0 u1 u2
              refine (pl_peek P0.out ho4).mono ?_
              rintro e w5 ⟨x, y, rfl, hk5, hnx⟩
              have NX := Lib.hid hnx; clear hnx
              have hs5 := hk5.size
              have hs4 := ho4.size
              go_wp2_with fail
              refine alloc_abs (G := fun w0 => Calls _ _ _ w0 _) ?_
              intro w6 hb6 ho6 hs6
              have B6 := Lib.hid hb6; clear hb6 hs6
              refine (NX.out w6 ho6).mono ?_
              rintro e w7 ⟨rfl, hk7, hp7⟩
              have P7 := Lib.hid hp7; clear hp7
              have B7 := Lib.hid (hk7.got (by omega) B6.out)
              have x0 := cell_got B7.out 0
              have x1 := cell_got B7.out 1
              have x2 := cell_got B7.out 2
              have z7 := got_lt B7.out
              go_wp2_with fail
              refine alloc_abs (G := fun w0 => Calls _ _ _ w0 _) ?_
              intro w10 hb10 ho10 hs10
              clear hb10 hs10 x0 x1 x2
              have PL := Lib.hid (P7.out.more.kept ho10)
              refine (pl_len PL.out).mono ?_
              rintro e w8 ⟨nn, rfl, rfl, hrl⟩
              have RL := Lib.hid hrl; clear hrl
              go_wp2_with fail
              refine RL.out.mono ?_
              rintro e w9 ⟨rfl, rfl⟩
              go_wp2
              go_roundw
              case rel => exact ⟨k + 1, by go_num, by omega, PL.out⟩
              case measure => simp [intOf]; omega
            · have t2 : (d.k == 2) = false := by rw [beq_eq_false_iff_ne]; exact hk2
              clear hk2
              by_cases hk3 : d.k = 3
              · have t3 : (d.k == 3) = true := by rw [beq_iff_eq]; exact hk3
                have HK3 := Lib.hid hk3; clear hk3
                go_wp2_with fail
                refine alloc_abs (G := Code.wp _ _ _ _) ?_
                intro w4 hb4 ho4 hs4
                have hqn : wr.heap.size ∉ List.range wr.heap.size := by simp
                have d1 := cell_got hb4 1
                have hb4s := got_lt hb4
                clear hb4 hs4 u0 u1 u2
                refine wp_region_calm2 [0,1,2,4,5,6] [] (OnlyC (List.range wr.heap.size) w4) (by kernel_rfl) (by kernel_rfl) ?_
                simp only [pick, List.map_cons, List.map_nil, List.getD_cons_succ, List.getD_cons_zero]
                iterate 6 (refine wpCalm_step (fun K hK => ?_); go_simp; refine hK _ ?_; clear hK K)
                refine wpCalm_nil ?_
                clear d1
                refine Rest.by (X := Bool) (fun b a => (((a.put (some 113) (.bool b)).put (some 117) (.bool b)).put (some 118) (.bool true)).put (some 9) (.bool true)) (fun b w' => Pl w w' (.pointer (some ⟨w.heap.size, 0, none⟩)) (.pointer (some ⟨w1.heap.size, 0, none⟩)) k) ?_ ?_
                · intro b w5 hp5
                  simp only [Act.put, List.setIfInBounds_toArray, List.set_cons_succ, List.set_cons_zero]
                  have P5 := Lib.hid hp5; clear hp5
                  have PL := Lib.hid (P5.out.more)
                  go_wp2_with fail
                  refine (pl_len PL.out).mono ?_
                  rintro e w8 ⟨nn, rfl, rfl, hrl⟩
                  have RL := Lib.hid hrl; clear hrl
                  go_wp2_with fail
                  refine RL.out.mono ?_
                  rintro e w9 ⟨rfl, rfl⟩
                  go_wp2
                  go_roundw
                  case rel => exact ⟨k + 1, by go_num, by omega, PL.out⟩
                  case measure => simp [intOf]; omega
                · have hC0 : Only (List.range wr.heap.size) w4 w4 := Only.refl _ _
                  refine wpAnyC_next [3] (by kernel_rfl) (by simp) (.inr (onlyC hC0.drew)) ?_
                  simp only [List.mem_cons, List.not_mem_nil, or_false, forall_eq]
                  refine wpOp_one rfl ?_
                  go_wp2_with fail
                  refine (pl_cancel P0.out d.a OKA.out ho4.drew).mono ?_
                  rintro e w5 ⟨b, rfl, hk5, hnx⟩
                  have hk5' : Only (List.range wr.heap.size) w4.drew w5 := by obtain ⟨S, hS, ho⟩ := hk5; exact ho.weak (fun x hx => by simpa using hS x hx)
                  have o5 : Only (List.range wr.heap.size) w4 w5 := hC0.drew.trans hk5' (fun _ h => .inl h)
                  have NX := Lib.hid (hnx w5 (Only.refl _ _)); clear hnx hk5 hk5'
                  go_wp2
                  simp only [nrm]
                  refine wpAnyC_next [7] (by kernel_rfl) (by simp) (.inr (onlyC o5)) ?_
                  simp only [List.mem_cons, List.not_mem_nil, or_false, forall_eq]
                  refine wpOp_one rfl ?_
                  go_wp2_with fail
                  refine NX.out.mono ?_
                  rintro e w6 ⟨rfl, hk6, hp6⟩
                  have hk6' : Only (List.range wr.heap.size) w5 w6 := by obtain ⟨S, hS, ho⟩ := hk6; exact ho.weak (fun x hx => by simpa using hS x hx)
                  have o6 : Only (List.range wr.heap.size) w4 w6 := o5.trans hk6' (fun _ h => .inl h)
                  have P6 := Lib.hid hp6; clear hp6 hk6 hk6'
                  go_wp2
                  simp only [nrm]
                  refine wpAnyC_next [8] (by kernel_rfl) (by simp) (.inr (onlyC o6)) ?_
                  simp only [List.mem_cons, List.not_mem_nil, or_false, forall_eq]
                  refine wpOp_one rfl ?_
                  go_wp2
                  simp only [nrm]
                  refine wpAnyC_next [9] (by kernel_rfl) (by simp) (.inr (onlyC o6)) ?_
                  simp only [List.mem_cons, List.not_mem_nil, or_false, forall_eq]
                  refine wpOp_one rfl ?_
                  go_wp2
                  simp only [nrm]
                  exact wpAnyC_done (by kernel_rfl) (.inr (onlyC o6)) ⟨b, rfl, P6.out⟩
              · have t3 : (d.k == 3) = false := by rw [beq_eq_false_iff_ne]; exact hk3
                clear hk3
                go_wp2_with fail
                refine alloc_abs (G := fun w0 => Calls _ _ _ w0 _) ?_
                intro w4 hb4 ho4 hs4
                clear hb4 hs4 u0 u1 u2
                have PL := Lib.hid ((P0.out.kept ho4).more)
                refine (pl_len PL.out).mono ?_
                rintro e w8 ⟨nn, rfl, rfl, hrl⟩
                have RL := Lib.hid hrl; clear hrl
                go_wp2_with fail
                refine RL.out.mono ?_
                rintro e w9 ⟨rfl, rfl⟩
                go_wp2
                go_roundw
                case rel => exact ⟨k + 1, by go_num, by omega, PL.out⟩
                case measure => simp [intOf]; omega
      · have hkm' : k = m := by omega
        subst hkm'
        go_wp2_with fail
        refine (awake_any _).mono ?_
        rintro e w5 ⟨rfl, ho5⟩
        go_wp2
        go_ret
        exact ⟨rfl, P0.out.only.nil_trans ho5⟩
  · have hlim' : a0 < 1 ∨ 4096 < a0 := by omega
    have HLIM := Lib.hid hlim'; clear hlim hlim'
    go_enter Try.func5, Try.ntmps5
    go_wp2_with fail
    refine (new_no a0 w HLIM.out).mono ?_
    rintro e w1 ⟨rfl, rfl⟩
    go_wp2_with fail
    refine (rnew_no a0 w HLIM.out).mono ?_
    rintro e w2 ⟨rfl, rfl⟩
    have hst : Pl w w (.pointer none) (.pointer none) 0 := ⟨.inl ⟨rfl, rfl⟩, Only.refl _ _⟩
    have ST := Lib.hid hst; clear hst
    go_wp2_with fail
    refine (HF.out _).mono ?_
    rintro e w3 ⟨rfl, rfl⟩
    go_wp2
    go_loopw [34] (fun vi wr => ∃ k : Nat, vi = .int .i64 k ∧ k ≤ m ∧ Pl w wr (.pointer none) (.pointer none) k) (fun vi _ => m - (intOf vi).toNat)
    case atStart => exact ⟨0, rfl, Nat.zero_le _, ST.out⟩
    case round =>
      obtain ⟨k, rfl, hk, hpl⟩ := hrel
      have P0 := Lib.hid hpl; clear hpl
      by_cases hkm : k < m
      · have hkl : k < us.length := by rw [HV.out.len]; exact hkm
        have OO := Lib.hid P0.out.only
        obtain ⟨bb, off, hp, hb, hcl⟩ := HV.out.cell k us[k] (List.getElem?_eq_getElem hkl)
        obtain ⟨okk, oka, okb⟩ := HK.out us[k] (List.getElem_mem hkl)
        generalize us[k] = d at hcl okk oka okb
        subst hp
        have u0 : wr.cell? ⟨bb, off + k * 3, none⟩ = some (.int .i64 d.k) := by rw [OO.out.cell hb (by simp)]; exact hcl 0 _ rfl
        have u1 : wr.cell? ⟨bb, off + k * 3 + 1, none⟩ = some (.int .i64 d.a) := by rw [OO.out.cell hb (by simp)]; exact hcl 1 _ rfl
        have u2 : wr.cell? ⟨bb, off + k * 3 + 2, none⟩ = some (.int .i64 d.b) := by rw [OO.out.cell hb (by simp)]; exact hcl 2 _ rfl
        have hbw : bb < wr.heap.size := Nat.lt_of_lt_of_le hb OO.out.size
        clear hcl
        have OKA := Lib.hid oka; clear okk okb oka
        by_cases hk0 : d.k = 0
        · have t0 : (d.k == 0) = true := by rw [beq_iff_eq]; exact hk0
          have HK0 := Lib.hid hk0; clear hk0
          go_wp2_with fail
          refine alloc_abs (G := fun w0 => Calls _ _ _ w0 _) ?_
          intro w4 hb4 ho4 hs4
          have B4 := Lib.hid hb4; clear hb4 hs4 u0 u1 u2
          refine (pl_push P0.out (by omega) d.a d.b ho4).mono ?_
          rintro e w5 ⟨y1, y2, rfl, hk5, hnx⟩
          have B5 := Lib.hid (hk5.got (Nat.le_refl _) B4.out)
          have NX := Lib.hid (hnx w5 (Only.refl _ _)); clear hnx
          have d1 := cell_got B5.out 1
          have d2 := cell_got B5.out 2
          have hb5 := got_lt B5.out
          go_wp2_with fail
          refine NX.out.mono ?_
          rintro e w6 ⟨rfl, hk6, hp6⟩
          have P6 := Lib.hid hp6; clear hp6
          have PL := Lib.hid (P6.out)
          go_wp2_with fail
          refine (pl_len PL.out).mono ?_
          rintro e w8 ⟨nn, rfl, rfl, hrl⟩
          have RL := Lib.hid hrl; clear hrl
          go_wp2_with fail
          refine RL.out.mono ?_
          rintro e w9 ⟨rfl, rfl⟩
          go_wp2
          go_roundw
          case rel => exact ⟨k + 1, by go_num, by omega, PL.out⟩
          case measure => simp [intOf]; omega
        · have t0 : (d.k == 0) = false := by rw [beq_eq_false_iff_ne]; exact hk0
          clear hk0
          by_cases hk1 : d.k = 1
          · have t1 : (d.k == 1) = true := by rw [beq_iff_eq]; exact hk1
            have HK1 := Lib.hid hk1; clear hk1
            go_wp2_with fail
            refine alloc_abs (G := fun w0 => Calls _ _ _ w0 _) ?_
            intro w4 hb4 ho4 hs4
            have B4 := Lib.hid hb4; clear hb4 hs4 u0 u1 u2
            refine (pl_pop P0.out ho4).mono ?_
            rintro e w5 ⟨x, y, rfl, hk5, hnx⟩
            have NX := Lib.hid hnx; clear hnx
            have hs5 := hk5.size
            have hs4 := ho4.size
            go_wp2_with fail
            refine alloc_abs (G := fun w0 => Calls _ _ _ w0 _) ?_
            intro w6 hb6 ho6 hs6
            have B6 := Lib.hid hb6; clear hb6 hs6
            refine (NX.out w6 ho6).mono ?_
            rintro e w7 ⟨rfl, hk7, hp7⟩
            have P7 := Lib.hid hp7; clear hp7
            have B7 := Lib.hid (hk7.got (by omega) B6.out)
            have x0 := cell_got B7.out 0
            have x1 := cell_got B7.out 1
            have x2 := cell_got B7.out 2
            have z7 := got_lt B7.out
            go_wp2_with fail
            refine alloc_abs (G := fun w0 => Calls _ _ _ w0 _) ?_
            intro w10 hb10 ho10 hs10
            clear hb10 hs10 x0 x1 x2
            have PL := Lib.hid (P7.out.more.kept ho10)
            refine (pl_len PL.out).mono ?_
            rintro e w8 ⟨nn, rfl, rfl, hrl⟩
            have RL := Lib.hid hrl; clear hrl
            go_wp2_with fail
            refine RL.out.mono ?_
            rintro e w9 ⟨rfl, rfl⟩
            go_wp2
            go_roundw
            case rel => exact ⟨k + 1, by go_num, by omega, PL.out⟩
            case measure => simp [intOf]; omega
          · have t1 : (d.k == 1) = false := by rw [beq_eq_false_iff_ne]; exact hk1
            clear hk1
            by_cases hk2 : d.k = 2
            · have t2 : (d.k == 2) = true := by rw [beq_iff_eq]; exact hk2
              have HK2 := Lib.hid hk2; clear hk2
              go_wp2_with fail
              refine alloc_abs (G := fun w0 => Calls _ _ _ w0 _) ?_
              intro w4 hb4 ho4 hs4
              have B4 := Lib.hid hb4; clear hb4 hs4 u0 u1 u2
              refine (pl_peek P0.out ho4).mono ?_
              rintro e w5 ⟨x, y, rfl, hk5, hnx⟩
              have NX := Lib.hid hnx; clear hnx
              have hs5 := hk5.size
              have hs4 := ho4.size
              go_wp2_with fail
              refine alloc_abs (G := fun w0 => Calls _ _ _ w0 _) ?_
              intro w6 hb6 ho6 hs6
              have B6 := Lib.hid hb6; clear hb6 hs6
              refine (NX.out w6 ho6).mono ?_
              rintro e w7 ⟨rfl, hk7, hp7⟩
              have P7 := Lib.hid hp7; clear hp7
              have B7 := Lib.hid (hk7.got (by omega) B6.out)
              have x0 := cell_got B7.out 0
              have x1 := cell_got B7.out 1
              have x2 := cell_got B7.out 2
              have z7 := got_lt B7.out
              go_wp2_with fail
              refine alloc_abs (G := fun w0 => Calls _ _ _ w0 _) ?_
              intro w10 hb10 ho10 hs10
              clear hb10 hs10 x0 x1 x2
              have PL := Lib.hid (P7.out.more.kept ho10)
              refine (pl_len PL.out).mono ?_
              rintro e w8 ⟨nn, rfl, rfl, hrl⟩
              have RL := Lib.hid hrl; clear hrl
              go_wp2_with fail
              refine RL.out.mono ?_
              rintro e w9 ⟨rfl, rfl⟩
              go_wp2
              go_roundw
              case rel => exact ⟨k + 1, by go_num, by omega, PL.out⟩
              case measure => simp [intOf]; omega
            · have t2 : (d.k == 2) = false := by rw [beq_eq_false_iff_ne]; exact hk2
              clear hk2
              by_cases hk3 : d.k = 3
              · have t3 : (d.k == 3) = true := by rw [beq_iff_eq]; exact hk3
                have HK3 := Lib.hid hk3; clear hk3
                go_wp2_with fail
                refine alloc_abs (G := Code.wp _ _ _ _) ?_
                intro w4 hb4 ho4 hs4
                have hqn : wr.heap.size ∉ List.range wr.heap.size := by simp
                have d1 := cell_got hb4 1
                have hb4s := got_lt hb4
                clear hb4 hs4 u0 u1 u2
                refine wp_region_calm2 [0,1,2,4,5,6] [] (OnlyC (List.range wr.heap.size) w4) (by kernel_rfl) (by kernel_rfl) ?_
                simp only [pick, List.map_cons, List.map_nil, List.getD_cons_succ, List.getD_cons_zero]
                iterate 6 (refine wpCalm_step (fun K hK => ?_); go_simp; refine hK _ ?_; clear hK K)
                refine wpCalm_nil ?_
                clear d1
                refine Rest.by (X := Bool) (fun b a => (((a.put (some 113) (.bool b)).put (some 117) (.bool b)).put (some 118) (.bool true)).put (some 9) (.bool true)) (fun b w' => Pl w w' (.pointer none) (.pointer none) k) ?_ ?_
                · intro b w5 hp5
                  simp only [Act.put, List.setIfInBounds_toArray, List.set_cons_succ, List.set_cons_zero]
                  have P5 := Lib.hid hp5; clear hp5
                  have PL := Lib.hid (P5.out.more)
                  go_wp2_with fail
                  refine (pl_len PL.out).mono ?_
                  rintro e w8 ⟨nn, rfl, rfl, hrl⟩
                  have RL := Lib.hid hrl; clear hrl
                  go_wp2_with fail
                  refine RL.out.mono ?_
                  rintro e w9 ⟨rfl, rfl⟩
                  go_wp2
                  go_roundw
                  case rel => exact ⟨k + 1, by go_num, by omega, PL.out⟩
                  case measure => simp [intOf]; omega
                · have hC0 : Only (List.range wr.heap.size) w4 w4 := Only.refl _ _
                  refine wpAnyC_next [3] (by kernel_rfl) (by simp) (.inr (onlyC hC0.drew)) ?_
                  simp only [List.mem_cons, List.not_mem_nil, or_false, forall_eq]
                  refine wpOp_one rfl ?_
                  go_wp2_with fail
                  refine (pl_cancel P0.out d.a OKA.out ho4.drew).mono ?_
                  rintro e w5 ⟨b, rfl, hk5, hnx⟩
                  have hk5' : Only (List.range wr.heap.size) w4.drew w5 := by obtain ⟨S, hS, ho⟩ := hk5; exact ho.weak (fun x hx => by simpa using hS x hx)
                  have o5 : Only (List.range wr.heap.size) w4 w5 := hC0.drew.trans hk5' (fun _ h => .inl h)
                  have NX := Lib.hid (hnx w5 (Only.refl _ _)); clear hnx hk5 hk5'
                  go_wp2
                  simp only [nrm]
                  refine wpAnyC_next [7] (by kernel_rfl) (by simp) (.inr (onlyC o5)) ?_
                  simp only [List.mem_cons, List.not_mem_nil, or_false, forall_eq]
                  refine wpOp_one rfl ?_
                  go_wp2_with fail
                  refine NX.out.mono ?_
                  rintro e w6 ⟨rfl, hk6, hp6⟩
                  have hk6' : Only (List.range wr.heap.size) w5 w6 := by obtain ⟨S, hS, ho⟩ := hk6; exact ho.weak (fun x hx => by simpa using hS x hx)
                  have o6 : Only (List.range wr.heap.size) w4 w6 := o5.trans hk6' (fun _ h => .inl h)
                  have P6 := Lib.hid hp6; clear hp6 hk6 hk6'
                  go_wp2
                  simp only [nrm]
                  refine wpAnyC_next [8] (by kernel_rfl) (by simp) (.inr (onlyC o6)) ?_
                  simp only [List.mem_cons, List.not_mem_nil, or_false, forall_eq]
                  refine wpOp_one rfl ?_
                  go_wp2
                  simp only [nrm]
                  refine wpAnyC_next [9] (by kernel_rfl) (by simp) (.inr (onlyC o6)) ?_
                  simp only [List.mem_cons, List.not_mem_nil, or_false, forall_eq]
                  refine wpOp_one rfl ?_
                  go_wp2
                  simp only [nrm]
                  exact wpAnyC_done (by kernel_rfl) (.inr (onlyC o6)) ⟨b, rfl, P6.out⟩
              · have t3 : (d.k == 3) = false := by rw [beq_eq_false_iff_ne]; exact hk3
                clear hk3
                go_wp2_with fail
                refine alloc_abs (G := fun w0 => Calls _ _ _ w0 _) ?_
                intro w4 hb4 ho4 hs4
                clear hb4 hs4 u0 u1 u2
                have PL := Lib.hid ((P0.out.kept ho4).more)
                refine (pl_len PL.out).mono ?_
                rintro e w8 ⟨nn, rfl, rfl, hrl⟩
                have RL := Lib.hid hrl; clear hrl
                go_wp2_with fail
                refine RL.out.mono ?_
                rintro e w9 ⟨rfl, rfl⟩
                go_wp2
                go_roundw
                case rel => exact ⟨k + 1, by go_num, by omega, PL.out⟩
                case measure => simp [intOf]; omega
      · have hkm' : k = m := by omega
        subst hkm'
        go_wp2_with fail
        refine (awake_any _).mono ?_
        rintro e w5 ⟨rfl, ho5⟩
        go_wp2
        go_ret
        exact ⟨rfl, P0.out.only.nil_trans ho5⟩

set_option maxRecDepth 100000 in
theorem agendaPlays_lifted (os : Os) (started : os.Started) (H : Type) (enc : TypeId × Value → H) :
    ReturnsInHanded {} Try.checked os 5 .any (Rows.agendaPlaysSpec.pre6 enc Try.prog Try.f5 Rows.agendaPlaysRow.domain false) (Rows.agendaPlaysSpec.post enc Try.prog Try.f5 false true false false) := by
  refine returnsInHanded_of_change (C := Try.checked) law_own started (by kernel_rfl) Try.func5
    (ChangeSpec.witness6 (enc := enc) (C := Try.checked) false ⟨#[], #[.int .i64 0, .slice none 0 0], []⟩ 8 (by kernel_rfl) (by kernel_rfl) (by kernel_rfl) (by kernel_rfl)) ?_
  intro W base args ds gs before hval0 hW hcnd _
  have hval : ∀ (j : Nat) t v, Try.f5.params[j]? = some t → args[j]? = some v → Value.okWide Try.prog W .any base t v := hval0
  have hW' := hW
  obtain ⟨p, q, hA0, hV, rfl, hfz, hnd⟩ := hW
  have hA : DataW.TrodAll enc Try.prog W 0 (fun _ => true) true Try.f5.params.toList args.toList ds p := hA0
  rw [Try.params5] at hA hval
  obtain ⟨v0, vs0, d0, ds0, p0, q0, hargs, rfl, rfl, h0, r0⟩ := trodAll_cons hA
  obtain ⟨v1, vs1, d1, ds1, p1, q1, rfl, rfl, rfl, h1, r1⟩ := trodAll_cons r0
  obtain ⟨rfl, rfl, rfl⟩ := trodAll_nil r1
  obtain rfl : args = #[v0, v1] := by cases args; simp_all
  obtain ⟨rfl, rfl⟩ := trodVars_none hV
  obtain ⟨a0, rfl, rfl, rfl, w0⟩ := open_int Try.underlying3 (hval 0 3 v0 rfl rfl) h0
  have k1 := h1
  have lt1 : ∀ x ∈ p1, x.block < W.heap.size := by obtain ⟨m, hm⟩ := k1; exact DataW.trod_lt m _ _ _ hm
  obtain ⟨a1, len1, cap1, rfl⟩ := okWide_slice Try.underlying38 (hval 1 38 v1 rfl rfl)
  obtain ⟨z1, w1, g1⟩ := vrow_deeds h1
  clear hA0 hval0
  refine (plays_walk a0 a1 len1 cap1 z1 W w0 w1 g1).mono fun e W' ⟨he, ho⟩ => ?_
  subst he
  have bel : Below W.heap.size W W' := ho.nil_below
  exact ⟨_, rfl, _, _, _, [], _, [], hW', trodAll_mk1 (shut_bool Try.underlying4 _), (trodAll_cons_mk (shut_int Try.underlying3 w0) (trodAll_cons_mk (Below.trod law_laidOut (by kernel_rfl) (of_decide_eq_true (by kernel_rfl)) k1 bel lt1) trodAll_mk0)), rfl, bel.frame _, fun h => by cases h⟩

theorem agendaPlays_over : Rows.agendaPlaysRow.holds Try.pinned (OpenSpec.ofChange Rows.agendaPlaysSpec) :=
  OpenClaim.holds_of_wide 5 Try.f5 rfl rfl rfl rfl rfl rfl rfl ⟨rfl, rfl, rfl, rfl, rfl⟩ rfl rfl rfl rfl rfl (by kernel_rfl) Try.func5 (by kernel_rfl)
    (of_decide_eq_true (by kernel_rfl)) (by unfold Func.isWrapper; first | (rw [if_pos (by decide +kernel)]; kernel_rfl) | (rw [if_neg (by decide +kernel)]; exact ⟨rfl, rfl⟩))
    (fun os started H enc _ => agendaPlays_lifted os started H enc)

theorem agendaPlays_holds : Rows.AgendaPlaysSaid := agendaPlays_over
end Go.Proofs.Ytpiilepmaomfeaa
