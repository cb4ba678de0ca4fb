/- AgendaCancels: cancelled events have no effect on the others: the law returns true for every input. No condition. -/
import Derived.Test.YtpiilepmaomfeaaAgC
namespace Go.Proofs.Ytpiilepmaomfeaa
open Go.ChangeShapes Go.WideShapes Go.ChangeAt Go.RowKit

abbrev VU16 (w : World) (p : Option Addr) (n cap : Nat) (l : List Int) : Prop := VRow (fun z => [.int .u16 z]) 1 w p n cap l

/-- the first loop: after `k` pushes -/
structure CSt (w wr : World) (q p : Nat) (us : List Int) (cs : List Bool) (sl : Value) (k c : Nat) : Prop where
  ex : ∃ F1 F2 pu l1 l2, Que wr q F1 200 0 k l1 ∧ Que wr p F2 200 0 pu l2 ∧ All us cs l1 k c ∧ Left us cs l2 k ∧ l1.length = k ∧ l2.length ≤ k ∧ (0 ≤ pu ∧ pu ≤ k) ∧ (∀ b ∈ F1, w.heap.size < b) ∧ (∀ b ∈ F2, w.heap.size < b) ∧ (∀ b ∈ F1, b ∉ F2)
  box : wr.heap[w.heap.size]? = some (.cells #[sl] 32 (0, 0))
  only : Only [] w wr
/-- the second loop: after `c` of `k` places -/
structure CSt2 (w wr : World) (q p : Nat) (us : List Int) (cs : List Bool) (sl : Value) (k c : Nat) : Prop where
  ex : ∃ F1 F2 pq pu l1 l2, Que wr q F1 200 0 pq l1 ∧ Que wr p F2 200 0 pu l2 ∧ All us cs l1 k c ∧ Left us cs l2 k ∧ l1.length ≤ k ∧ (∀ b ∈ F1, w.heap.size < b) ∧ (∀ b ∈ F2, w.heap.size < b) ∧ (∀ b ∈ F1, b ∉ F2)
  box : wr.heap[w.heap.size]? = some (.cells #[sl] 32 (0, 0))
  only : Only [] w wr
/-- the third loop: after `c` pops -/
structure CSt3 (w wr : World) (q p : Nat) (us : List Int) (k c : Nat) : Prop where
  ex : ∃ F1 F2 t1 t2 pq pu l1 l2, Que wr q F1 200 t1 pq l1 ∧ Que wr p F2 200 t2 pu l2 ∧ Pair us l1 l2 ∧ l1.length ≤ k - c ∧ (∀ b ∈ F1, w.heap.size < b) ∧ (∀ b ∈ F2, w.heap.size < b) ∧ (∀ b ∈ F1, b ∉ F2)
  only : Only [] w wr
theorem CSt3.kept {w wr w' : World} {q p : Nat} {us : List Int} {k c : Nat} (h : CSt3 w wr q p us k c) (ho : Only [] wr w') : CSt3 w w' q p us k c := by
  obtain ⟨⟨F1, F2, t1, t2, pq, pu, l1, l2, h1, h2, r⟩, hoo⟩ := h
  exact ⟨⟨F1, F2, t1, t2, pq, pu, l1, l2, h1.kept ho (by simp), h2.kept ho (by simp), r⟩, hoo.nil_trans ho⟩

set_option maxRecDepth 100000 in
set_option maxHeartbeats 8000000 in
theorem cancels_walk (p : Option Addr) (n cap : Nat) (zs : List Int) (p1 : Option Addr) (n1 cap1 : Nat) (cs : List Bool) (w : World) (hv : VU16 w p n cap zs) (hwf : ∀ z ∈ zs, (Lit.int .u16 z).wf = true) (hv1 : VBools w p1 n1 cap1 cs) :
    Calls Try.prog 7 #[.slice p n cap, .slice p1 n1 cap1] w fun e w' => e = .returned (.bool true) ∧ Only [] w w' := by
  have hnc := hv.le
  have hcm := hv.cm
  unfold maxLen at hcm
  have HB := Lib.hid hv1; clear hv1
  by_cases hn : n ≤ 200
  · have hni : ¬ (200 : Int) < (n : Int) := by omega
    obtain ⟨m, hm⟩ : ∃ m, m = n := ⟨_, rfl⟩
    subst hm
    have hm3 := hn
    obtain ⟨us, hus⟩ : ∃ us, us = zs.take m := ⟨_, rfl⟩
    have hv' := hv.take m (by omega)
    rw [← hus] at hv'
    have hu : ∀ (k : Nat) (z : Int), us[k]? = some z → 0 ≤ z ∧ z ≤ 65535 := fun k z hz => bounds_u16 (hwf z (List.mem_of_mem_take (by rw [← hus]; exact List.mem_of_getElem? hz)))
    have hcc : ∀ (k : Nat), k < m → ∀ {wr : World}, Only [] w wr → ∃ b off, p = some ⟨b, off, none⟩ ∧ b < w.heap.size ∧ ∃ z, us[k]? = some z ∧ wr.cell? ⟨b, off + k, none⟩ = some (.int .u16 z) := by
      intro k hk wr ho
      have hkl : k < us.length := by rw [hv'.len]; exact hk
      obtain ⟨b, off, h1, h2, h3⟩ := hv'.cell k us[k] (List.getElem?_eq_getElem hkl)
      have h4 := h3 0 _ rfl
      simp only [Nat.mul_one, Nat.add_zero] at h4
      exact ⟨b, off, h1, h2, us[k], List.getElem?_eq_getElem hkl, by rw [ho.cell h2 (by simp)]; exact h4⟩
    have HV := Lib.hid hv'; have HU := Lib.hid hu; have HC := Lib.hid hcc
    clear hv' hu hcc hv hwf hus
    go_enter Try.func7, Try.ntmps7
    go_wp2_with fail
    refine alloc_abs (G := fun w0 => Calls _ _ _ w0 _) ?_
    intro wb hbx hob hsb
    have BX := Lib.hid hbx; clear hbx
    have hsbw : w.heap.size < wb.heap.size := by omega
    clear hsb
    refine (new_ok 200 wb (by omega) (by omega)).mono ?_
    rintro e w1 ⟨rfl, hq1, ho1⟩
    have Q1 := Lib.hid hq1; clear hq1
    have hs1 : wb.heap.size < w1.heap.size := Q1.out.blocks _ (by simp)
    go_wp2_with fail
    refine (new_ok 200 w1 (by omega) (by omega)).mono ?_
    rintro e w2 ⟨rfl, hq2, ho2⟩
    have Q2 := Lib.hid hq2; clear hq2
    have hst : CSt w w2 wb.heap.size w1.heap.size us cs (.slice p1 n1 cap1) 0 0 := by
      refine ⟨⟨_, _, 0, [], [], Q1.out.kept ho2 (by simp), Q2.out, ⟨by simp, by omega⟩, ⟨by simp, by omega, by simp⟩, rfl, by simp, by omega, by simp; omega, by simp; omega, by simp; omega⟩, ?_, (hob.nil_trans ho1).nil_trans ho2⟩
      exact (ho1.nil_trans ho2).got BX.out (by simp)
    have ST := Lib.hid hst; clear hst
    go_wp2
    go_loopw [33] (fun vi wr => ∃ k : Nat, vi = .int .i64 k ∧ k ≤ m ∧ CSt w wr wb.heap.size w1.heap.size us cs (.slice p1 n1 cap1) k 0) (fun vi _ => m - (intOf vi).toNat)
    case atStart => exact ⟨0, rfl, Nat.zero_le _, ST.out⟩
    case round =>
      obtain ⟨k, rfl, hk, hcs⟩ := hrel
      have CS := Lib.hid hcs; clear hcs
      by_cases hkm : k < m
      · obtain ⟨⟨F1, F2, pu, l1, l2, hq1, hq2, hal, hle, hl1, hl2, hpu, hF1, hF2, hdj⟩, hbx, hoo⟩ := CS.out
        obtain ⟨b, off, hp, hb, z, hz, hc⟩ := HC.out k hkm hoo
        subst hp
        obtain ⟨hz0, hz1⟩ := HU.out k z hz
        have A1 := Lib.hid hq1; have A2 := Lib.hid hq2; have AL := Lib.hid hal; have LE := Lib.hid hle; have L1 := Lib.hid hl1; have G1 := Lib.hid hF1; have G2 := Lib.hid hF2; have DJ := Lib.hid hdj; have B0 := Lib.hid hbx; have OO := Lib.hid hoo; have Z := Lib.hid hz
        clear hq1 hq2 hal hle hl1 hF1 hF2 hdj hbx hoo hz
        go_wp2_with fail
        refine (push_ok A1.out z (k : Int) hz0 hz0 (by rw [L1.out]; omega) (by omega) (by omega)).mono ?_
        rintro e w3 ⟨rfl, F3, l3, hq3, ho3, hF3, hl3, hm3⟩
        have Q3 := Lib.hid hq3; have G3 := Lib.hid hF3; have L3 := Lib.hid hl3; have M3 := Lib.hid hm3; clear hq3 hF3 hl3 hm3
        have hs3 := ho3.size
        have hsw := OO.out.size
        have hbw := got_lt B0.out
        have hF1s : Hid (∀ x ∈ F1, x < wr.heap.size) := A1.out.blocks
        have hF2s : Hid (∀ x ∈ F2, x < wr.heap.size) := A2.out.blocks
        have B3 := Lib.hid (ho3.got B0.out (fun h => by have := G1.out _ h; omega))
        have C3 := Lib.hid (A2.out.kept ho3 (fun x hx h => DJ.out x h hx))
        have V3 := Lib.hid (HB.out.kept ((OO.out.trans (S' := F1) ho3 (fun x hx => .inr (by have := G1.out x hx; omega)))))
        have AL3 := Lib.hid (AL.out.push Z.out M3.out)
        have hF3w : Hid (∀ x ∈ F3, w.heap.size < x) := fun x hx => by rcases G3.out x hx with h | h; exact G1.out x h; omega
        have hd3 : Hid (∀ x ∈ F3, x ∉ F2) := fun x hx h => by rcases G3.out x hx with h' | h'; exact DJ.out x h' h; have := hF2s.out x h; omega
        have O3 := Lib.hid (OO.out.trans (S' := F1) ho3 (fun x hx => .inr (by have := G1.out x hx; omega)))
        clear hc
        go_wp2_with fail
        refine (gone_any p1 n1 cap1 cs w.heap.size k w3 V3.out B3.out (by omega)).mono ?_
        rintro e w4 ⟨rfl, rfl⟩
        cases hg : goneB cs k
        · have HG := Lib.hid hg; clear hg
          go_wp2_with fail
          refine (push_ok C3.out z (k : Int) hz0 hz0 (by omega) (by omega) (by omega)).mono ?_
          rintro e w5 ⟨rfl, F5, l5, hq5, ho5, hF5, hl5, hm5⟩
          have LE5 := LE.out.push (fun e he => (A2.out.ids e he).2) HG.out Z.out hm5
          have hT : CSt w w5 wb.heap.size w1.heap.size us cs (.slice p1 n1 cap1) (k + 1) 0 := by
            have hF5w : ∀ x ∈ F5, w.heap.size < x := fun x hx => by rcases hF5 x hx with h | h; exact G2.out x h; omega
            refine ⟨⟨F3, F5, pu + 1, l3, l5, ?_, hq5, AL3.out, LE5, by rw [L3.out, L1.out], by omega, by omega, hF3w.out, hF5w, fun x hx h => ?_⟩, ?_, O3.out.trans (S' := F2) ho5 (fun x hx => .inr (by have := G2.out x hx; omega))⟩
            · have := Q3.out.kept ho5 (fun x hx => hd3.out x hx); simpa using this
            · rcases hF5 x h with h' | h'
              · exact hd3.out x hx h'
              · have := Q3.out.blocks x hx; omega
            · exact ho5.got B3.out (fun h => by have := G2.out _ h; omega)
          have TT := Lib.hid hT; clear hT hq5 hF5 hl5 hm5
          go_wp2
          go_roundw
          case rel => exact ⟨k + 1, by go_num, by omega, TT.out⟩
          case measure => simp [intOf]; omega
        · have HG := Lib.hid hg; clear hg
          have hT : CSt w w3 wb.heap.size w1.heap.size us cs (.slice p1 n1 cap1) (k + 1) 0 :=
            ⟨⟨F3, F2, pu, l3, l2, by simpa using Q3.out, C3.out, AL3.out, LE.out.skip HG.out, by rw [L3.out, L1.out], by omega, by omega, hF3w.out, G2.out, hd3.out⟩, B3.out, O3.out⟩
          have TT := Lib.hid hT; clear hT
          go_wp2
          go_roundw
          case rel => exact ⟨k + 1, by go_num, by omega, TT.out⟩
          case measure => simp [intOf]; omega
      · have hkm' : k = m := by omega
        subst hkm'
        obtain ⟨wo, hwo⟩ : ∃ wo : World, wo = wr := ⟨_, rfl⟩
        subst hwo
        have hst2 : CSt2 w wo wb.heap.size w1.heap.size us cs (.slice p1 n1 cap1) k 0 := by
          obtain ⟨⟨F1, F2, pu, l1, l2, hq1, hq2, hal, hle, hl1, hl2, hpu, hF1, hF2, hdj⟩, hbx, hoo⟩ := CS.out
          exact ⟨⟨F1, F2, k, pu, l1, l2, hq1, hq2, hal, hle, by omega, hF1, hF2, hdj⟩, hbx, hoo⟩
        have ST2 := Lib.hid hst2; clear hst2 CS
        go_wp2
        go_loopw [66] (fun vi wr => ∃ j : Nat, vi = .int .i64 j ∧ j ≤ k ∧ CSt2 w wr wb.heap.size w1.heap.size us cs (.slice p1 n1 cap1) k j) (fun vi _ => k - (intOf vi).toNat)
        case atStart => exact ⟨0, rfl, Nat.zero_le _, ST2.out⟩
        case round =>
          obtain ⟨j, rfl, hj, hcs⟩ := hrel
          obtain ⟨⟨F1, F2, pq, pu, l1, l2, hq1, hq2, hal, hle, hl1, hF1, hF2, hdj⟩, hbx, hoo⟩ := hcs
          have A1 := Lib.hid hq1; have A2 := Lib.hid hq2; have AL := Lib.hid hal; have LE := Lib.hid hle; have G1 := Lib.hid hF1; have G2 := Lib.hid hF2; have DJ := Lib.hid hdj; have B0 := Lib.hid hbx; have OO := Lib.hid hoo
          clear hq1 hq2 hal hle hF1 hF2 hdj hbx hoo
          have hsw := OO.out.size
          by_cases hjk : j < k
          · go_wp2_with fail
            refine (gone_any p1 n1 cap1 cs w.heap.size j wr (HB.out.kept OO.out) B0.out (by omega)).mono ?_
            rintro e w4 ⟨rfl, rfl⟩
            cases hg : goneB cs j
            · have HG := Lib.hid hg; clear hg
              have hT : CSt2 w wr wb.heap.size w1.heap.size us cs (.slice p1 n1 cap1) k (j + 1) := ⟨⟨F1, F2, pq, pu, l1, l2, A1.out, A2.out, AL.out.skip HG.out, LE.out, hl1, G1.out, G2.out, DJ.out⟩, B0.out, OO.out⟩
              have TT := Lib.hid hT; clear hT
              go_wp2
              go_roundw
              case rel => exact ⟨j + 1, by go_num, by omega, TT.out⟩
              case measure => simp [intOf]; omega
            · have HG := Lib.hid hg; clear hg
              obtain ⟨x, hx, hxx⟩ := AL.out.all j hjk (by omega)
              have hxi : x.i = (j : Int) + 1 := by rw [(AL.out.ev x hx).1, hxx]
              have hwf : (Lit.int .i64 ((j : Int) + 1)).wf = true := WalkArith.wf_i64 (by omega)
              have HX := Lib.hid hx; have HXI := Lib.hid hxi; clear hx hxi hxx
              go_wp2_with fail
              refine (cancel_yes A1.out ((j : Int) + 1) hwf HX.out HXI.out).mono ?_
              rintro e w5 ⟨rfl, l5, hq5, ho5, hl5, hm5⟩
              have Q5 := Lib.hid hq5; have L5 := Lib.hid hl5; have M5 := Lib.hid hm5; clear hq5 hl5 hm5
              go_wp2_with fail
              refine (cancel_no Q5.out.rep ((j : Int) + 1) hwf (fun e he => ((M5.out e).1 he).2)).mono ?_
              rintro e w6 ⟨rfl, rfl⟩
              have hT : CSt2 w w5 wb.heap.size w1.heap.size us cs (.slice p1 n1 cap1) k (j + 1) := by
                refine ⟨⟨F1, F2, pq, pu, l5, l2, Q5.out, A2.out.kept ho5 (fun x hx h => DJ.out x h hx), AL.out.cancel HG.out M5.out, LE.out, by have := L5.out; omega, G1.out, G2.out, DJ.out⟩, ?_, OO.out.trans (S' := F1) ho5 (fun x hx => .inr (by have := G1.out x hx; omega))⟩
                exact ho5.got B0.out (fun h => by have := G1.out _ h; omega)
              have TT := Lib.hid hT; clear hT
              go_wp2
              go_roundw
              case rel => exact ⟨j + 1, by go_num, by omega, TT.out⟩
              case measure => simp [intOf]; omega
          · have hjk' : j = k := by omega
            subst hjk'
            have hpair := pair_of AL.out LE.out
            have hln : (l2.length : Int) = (l1.length : Int) := by rw [hpair.length A1.out.rep.nodup A2.out.rep.nodup]
            have HLN := Lib.hid hln; clear hln
            have hst3 : CSt3 w wr wb.heap.size w1.heap.size us j 0 := ⟨⟨F1, F2, 0, 0, pq, pu, l1, l2, A1.out, A2.out, hpair, by omega, G1.out, G2.out, DJ.out⟩, OO.out⟩
            have ST3 := Lib.hid hst3; clear hst3 hpair
            obtain ⟨wp, hwp⟩ : ∃ wp : World, wp = wr := ⟨_, rfl⟩
            subst hwp
            go_wp2_with fail
            refine (len_any A1.out.rep).mono ?_
            rintro e w4 ⟨rfl, rfl⟩
            go_wp2_with fail
            refine (len_any A2.out.rep).mono ?_
            rintro e w4 ⟨rfl, rfl⟩
            rw [HLN.out]
            clear A1 A2 AL LE G1 G2 DJ B0 OO HLN
            go_wp2
            go_loopw [93] (fun vi wr => ∃ i : Nat, vi = .int .i64 i ∧ i ≤ j ∧ CSt3 w wr wb.heap.size w1.heap.size us j i) (fun vi _ => j - (intOf vi).toNat)
            case atStart => exact ⟨0, rfl, Nat.zero_le _, ST3.out⟩
            case round =>
              obtain ⟨i, rfl, hi, hcs⟩ := hrel
              obtain ⟨⟨F1, F2, t1, t2, pq, pu, l1, l2, hq1, hq2, hpr, hl1, hF1, hF2, hdj⟩, hoo⟩ := hcs
              have hlen := hpr.length hq1.rep.nodup hq2.rep.nodup
              have A1 := Lib.hid hq1; have A2 := Lib.hid hq2; have PR := Lib.hid hpr; have G1 := Lib.hid hF1; have G2 := Lib.hid hF2; have DJ := Lib.hid hdj; have OO := Lib.hid hoo; have HLE := Lib.hid hlen
              clear hq1 hq2 hpr hF1 hF2 hdj hoo hlen
              have hsw := OO.out.size
              by_cases hij : i < j
              · have hF1s : Hid (∀ x ∈ F1, x < wr.heap.size) := A1.out.blocks
                have hF2s : Hid (∀ x ∈ F2, x < wr.heap.size) := A2.out.blocks
                have heq : (el l1 0).t = (el l2 0).t ∧ (el l1 0).x = (el l2 0).x := by
                  by_cases h0 : 0 < l1.length
                  · obtain ⟨f1, f2⟩ := A1.out.first h0
                    obtain ⟨f3, f4⟩ := A2.out.first (by rw [← HLE.out]; exact h0)
                    exact PR.out.first f1 f2 f3 f4
                  · have e1 : l1 = [] := List.eq_nil_of_length_eq_zero (by omega)
                    have e2 : l2 = [] := List.eq_nil_of_length_eq_zero (by have := HLE.out; omega)
                    rw [e1, e2]; exact ⟨rfl, rfl⟩
                obtain ⟨het, hex⟩ := heq
                obtain ⟨xi, yi, xt, xx, hx, hy⟩ : ∃ xi yi xt xx, el l1 0 = ⟨xt, xi, xx⟩ ∧ el l2 0 = ⟨xt, yi, xx⟩ := ⟨(el l1 0).i, (el l2 0).i, (el l1 0).t, (el l1 0).x, rfl, by rw [het, hex]⟩
                have HX := Lib.hid hx; have HY := Lib.hid hy; clear hx hy het hex
                go_wp2_with fail
                have hpg := pop_gen A1.out
                rw [HX.out] at hpg
                refine hpg.mono ?_
                clear hpg
                rintro e w4 ⟨rfl, t4, l4, hq4, ho4, ht4, hl4, hm4⟩
                have Q4 := Lib.hid hq4; have L4 := Lib.hid hl4; have M4 := Lib.hid hm4; clear hq4 hl4 hm4 ht4
                have hs4 := ho4.size
                go_wp2_with fail
                refine alloc_abs (G := fun w0 => Calls _ _ _ w0 _) ?_
                intro w5 hb5 ho5 hs5
                have B5 := Lib.hid hb5; have S5 := Lib.hid hs5; clear hb5 hs5
                have hpg := pop_gen ((A2.out.kept ho4 (fun x hx h => DJ.out x h hx)).kept ho5 (by simp))
                rw [HY.out, ← HLE.out] at hpg
                refine hpg.mono ?_
                clear hpg
                rintro e w6 ⟨rfl, t6, l6, hq6, ho6, ht6, hl6, hm6⟩
                have hs6 := ho6.size
                have B6 := Lib.hid (box_kept B5.out ho6 (fun x hx => .inl (by have := hF2s.out x hx; omega)))
                have hT : CSt3 w w6 wb.heap.size w1.heap.size us j (i + 1) := by
                  have hpr' : Pair us l4 l6 := by
                    by_cases h0 : 0 < l1.length
                    · obtain ⟨f1, _⟩ := A1.out.first h0
                      obtain ⟨f3, _⟩ := A2.out.first (by rw [← HLE.out]; exact h0)
                      rw [HX.out] at f1
                      rw [HY.out] at f3
                      exact PR.out.pop f1 f3 rfl M4.out hm6
                    · have e1 : l4 = [] := List.eq_nil_of_length_eq_zero (by have := L4.out; omega)
                      have e2 : l6 = [] := List.eq_nil_of_length_eq_zero (by omega)
                      rw [e1, e2]; exact ⟨by simp, by simp, by simp, by simp⟩
                  refine ⟨⟨F1, F2, t4, t6, pq, pu, l4, l6, (Q4.out.kept ho5 (by simp)).kept ho6 DJ.out, hq6, hpr', by have := L4.out; omega, G1.out, G2.out, DJ.out⟩, ?_⟩
                  exact ((OO.out.trans (S' := F1) ho4 (fun x hx => .inr (by have := G1.out x hx; omega))).nil_trans ho5).trans (S' := F2) ho6 (fun x hx => .inr (by have := G2.out x hx; omega))
                have TT := Lib.hid hT; clear hT hq6 ht6 hl6 hm6
                have x0 := cell_got B6.out 0; have x1 := cell_got B6.out 1; have x2 := cell_got B6.out 2
                have z1 := got_lt B6.out
                go_wp2
                go_roundw
                case rel => exact ⟨i + 1, by go_num, by omega, TT.out.kept ((Only.refl [] _).alloc _)⟩
                case measure => simp [intOf]; omega
              · have hl0 : l1 = [] := List.eq_nil_of_length_eq_zero (by omega)
                subst hl0
                go_wp2_with fail
                refine (len_any A1.out.rep).mono ?_
                rintro e w4 ⟨rfl, rfl⟩
                go_wp2_with fail
                refine (awake_any _).mono ?_
                rintro e w5 ⟨rfl, ho5⟩
                go_wp2
                go_ret
                exact ⟨rfl, OO.out.nil_trans ho5⟩
  · have hni : (200 : Int) < (n : Int) := by omega
    have hn3 : 200 ≤ n := by omega
    go_enter Try.func7, Try.ntmps7
    go_wp2_with fail
    generalize hm : (200 : Nat) = m
    have hm3 : m ≤ 200 := by omega
    have hmn : m ≤ n := by omega
    clear hm hn hn3 hni
    obtain ⟨us, hus⟩ : ∃ us, us = zs.take m := ⟨_, rfl⟩
    have hv' := hv.take m (by omega)
    rw [← hus] at hv'
    have hu : ∀ (k : Nat) (z : Int), us[k]? = some z → 0 ≤ z ∧ z ≤ 65535 := fun k z hz => bounds_u16 (hwf z (List.mem_of_mem_take (by rw [← hus]; exact List.mem_of_getElem? hz)))
    have hcc : ∀ (k : Nat), k < m → ∀ {wr : World}, Only [] w wr → ∃ b off, p = some ⟨b, off, none⟩ ∧ b < w.heap.size ∧ ∃ z, us[k]? = some z ∧ wr.cell? ⟨b, off + k, none⟩ = some (.int .u16 z) := by
      intro k hk wr ho
      have hkl : k < us.length := by rw [hv'.len]; exact hk
      obtain ⟨b, off, h1, h2, h3⟩ := hv'.cell k us[k] (List.getElem?_eq_getElem hkl)
      have h4 := h3 0 _ rfl
      simp only [Nat.mul_one, Nat.add_zero] at h4
      exact ⟨b, off, h1, h2, us[k], List.getElem?_eq_getElem hkl, by rw [ho.cell h2 (by simp)]; exact h4⟩
    have HV := Lib.hid hv'; have HU := Lib.hid hu; have HC := Lib.hid hcc
    clear hv' hu hcc hv hwf hus
    refine alloc_abs (G := fun w0 => Calls _ _ _ w0 _) ?_
    intro wb hbx hob hsb
    have BX := Lib.hid hbx; clear hbx
    have hsbw : w.heap.size < wb.heap.size := by omega
    clear hsb
    refine (new_ok 200 wb (by omega) (by omega)).mono ?_
    rintro e w1 ⟨rfl, hq1, ho1⟩
    have Q1 := Lib.hid hq1; clear hq1
    have hs1 : wb.heap.size < w1.heap.size := Q1.out.blocks _ (by simp)
    go_wp2_with fail
    refine (new_ok 200 w1 (by omega) (by omega)).mono ?_
    rintro e w2 ⟨rfl, hq2, ho2⟩
    have Q2 := Lib.hid hq2; clear hq2
    have hst : CSt w w2 wb.heap.size w1.heap.size us cs (.slice p1 n1 cap1) 0 0 := by
      refine ⟨⟨_, _, 0, [], [], Q1.out.kept ho2 (by simp), Q2.out, ⟨by simp, by omega⟩, ⟨by simp, by omega, by simp⟩, rfl, by simp, by omega, by simp; omega, by simp; omega, by simp; omega⟩, ?_, (hob.nil_trans ho1).nil_trans ho2⟩
      exact (ho1.nil_trans ho2).got BX.out (by simp)
    have ST := Lib.hid hst; clear hst
    go_wp2
    go_loopw [33] (fun vi wr => ∃ k : Nat, vi = .int .i64 k ∧ k ≤ m ∧ CSt w wr wb.heap.size w1.heap.size us cs (.slice p1 n1 cap1) k 0) (fun vi _ => m - (intOf vi).toNat)
    case atStart => exact ⟨0, rfl, Nat.zero_le _, ST.out⟩
    case round =>
      obtain ⟨k, rfl, hk, hcs⟩ := hrel
      have CS := Lib.hid hcs; clear hcs
      by_cases hkm : k < m
      · obtain ⟨⟨F1, F2, pu, l1, l2, hq1, hq2, hal, hle, hl1, hl2, hpu, hF1, hF2, hdj⟩, hbx, hoo⟩ := CS.out
        obtain ⟨b, off, hp, hb, z, hz, hc⟩ := HC.out k hkm hoo
        subst hp
        obtain ⟨hz0, hz1⟩ := HU.out k z hz
        have A1 := Lib.hid hq1; have A2 := Lib.hid hq2; have AL := Lib.hid hal; have LE := Lib.hid hle; have L1 := Lib.hid hl1; have G1 := Lib.hid hF1; have G2 := Lib.hid hF2; have DJ := Lib.hid hdj; have B0 := Lib.hid hbx; have OO := Lib.hid hoo; have Z := Lib.hid hz
        clear hq1 hq2 hal hle hl1 hF1 hF2 hdj hbx hoo hz
        go_wp2_with fail
        refine (push_ok A1.out z (k : Int) hz0 hz0 (by rw [L1.out]; omega) (by omega) (by omega)).mono ?_
        rintro e w3 ⟨rfl, F3, l3, hq3, ho3, hF3, hl3, hm3⟩
        have Q3 := Lib.hid hq3; have G3 := Lib.hid hF3; have L3 := Lib.hid hl3; have M3 := Lib.hid hm3; clear hq3 hF3 hl3 hm3
        have hs3 := ho3.size
        have hsw := OO.out.size
        have hbw := got_lt B0.out
        have hF1s : Hid (∀ x ∈ F1, x < wr.heap.size) := A1.out.blocks
        have hF2s : Hid (∀ x ∈ F2, x < wr.heap.size) := A2.out.blocks
        have B3 := Lib.hid (ho3.got B0.out (fun h => by have := G1.out _ h; omega))
        have C3 := Lib.hid (A2.out.kept ho3 (fun x hx h => DJ.out x h hx))
        have V3 := Lib.hid (HB.out.kept ((OO.out.trans (S' := F1) ho3 (fun x hx => .inr (by have := G1.out x hx; omega)))))
        have AL3 := Lib.hid (AL.out.push Z.out M3.out)
        have hF3w : Hid (∀ x ∈ F3, w.heap.size < x) := fun x hx => by rcases G3.out x hx with h | h; exact G1.out x h; omega
        have hd3 : Hid (∀ x ∈ F3, x ∉ F2) := fun x hx h => by rcases G3.out x hx with h' | h'; exact DJ.out x h' h; have := hF2s.out x h; omega
        have O3 := Lib.hid (OO.out.trans (S' := F1) ho3 (fun x hx => .inr (by have := G1.out x hx; omega)))
        clear hc
        go_wp2_with fail
        refine (gone_any p1 n1 cap1 cs w.heap.size k w3 V3.out B3.out (by omega)).mono ?_
        rintro e w4 ⟨rfl, rfl⟩
        cases hg : goneB cs k
        · have HG := Lib.hid hg; clear hg
          go_wp2_with fail
          refine (push_ok C3.out z (k : Int) hz0 hz0 (by omega) (by omega) (by omega)).mono ?_
          rintro e w5 ⟨rfl, F5, l5, hq5, ho5, hF5, hl5, hm5⟩
          have LE5 := LE.out.push (fun e he => (A2.out.ids e he).2) HG.out Z.out hm5
          have hT : CSt w w5 wb.heap.size w1.heap.size us cs (.slice p1 n1 cap1) (k + 1) 0 := by
            have hF5w : ∀ x ∈ F5, w.heap.size < x := fun x hx => by rcases hF5 x hx with h | h; exact G2.out x h; omega
            refine ⟨⟨F3, F5, pu + 1, l3, l5, ?_, hq5, AL3.out, LE5, by rw [L3.out, L1.out], by omega, by omega, hF3w.out, hF5w, fun x hx h => ?_⟩, ?_, O3.out.trans (S' := F2) ho5 (fun x hx => .inr (by have := G2.out x hx; omega))⟩
            · have := Q3.out.kept ho5 (fun x hx => hd3.out x hx); simpa using this
            · rcases hF5 x h with h' | h'
              · exact hd3.out x hx h'
              · have := Q3.out.blocks x hx; omega
            · exact ho5.got B3.out (fun h => by have := G2.out _ h; omega)
          have TT := Lib.hid hT; clear hT hq5 hF5 hl5 hm5
          go_wp2
          go_roundw
          case rel => exact ⟨k + 1, by go_num, by omega, TT.out⟩
          case measure => simp [intOf]; omega
        · have HG := Lib.hid hg; clear hg
          have hT : CSt w w3 wb.heap.size w1.heap.size us cs (.slice p1 n1 cap1) (k + 1) 0 :=
            ⟨⟨F3, F2, pu, l3, l2, by simpa using Q3.out, C3.out, AL3.out, LE.out.skip HG.out, by rw [L3.out, L1.out], by omega, by omega, hF3w.out, G2.out, hd3.out⟩, B3.out, O3.out⟩
          have TT := Lib.hid hT; clear hT
          go_wp2
          go_roundw
          case rel => exact ⟨k + 1, by go_num, by omega, TT.out⟩
          case measure => simp [intOf]; omega
      · have hkm' : k = m := by omega
        subst hkm'
        obtain ⟨wo, hwo⟩ : ∃ wo : World, wo = wr := ⟨_, rfl⟩
        subst hwo
        have hst2 : CSt2 w wo wb.heap.size w1.heap.size us cs (.slice p1 n1 cap1) k 0 := by
          obtain ⟨⟨F1, F2, pu, l1, l2, hq1, hq2, hal, hle, hl1, hl2, hpu, hF1, hF2, hdj⟩, hbx, hoo⟩ := CS.out
          exact ⟨⟨F1, F2, k, pu, l1, l2, hq1, hq2, hal, hle, by omega, hF1, hF2, hdj⟩, hbx, hoo⟩
        have ST2 := Lib.hid hst2; clear hst2 CS
        go_wp2
        go_loopw [66] (fun vi wr => ∃ j : Nat, vi = .int .i64 j ∧ j ≤ k ∧ CSt2 w wr wb.heap.size w1.heap.size us cs (.slice p1 n1 cap1) k j) (fun vi _ => k - (intOf vi).toNat)
        case atStart => exact ⟨0, rfl, Nat.zero_le _, ST2.out⟩
        case round =>
          obtain ⟨j, rfl, hj, hcs⟩ := hrel
          obtain ⟨⟨F1, F2, pq, pu, l1, l2, hq1, hq2, hal, hle, hl1, hF1, hF2, hdj⟩, hbx, hoo⟩ := hcs
          have A1 := Lib.hid hq1; have A2 := Lib.hid hq2; have AL := Lib.hid hal; have LE := Lib.hid hle; have G1 := Lib.hid hF1; have G2 := Lib.hid hF2; have DJ := Lib.hid hdj; have B0 := Lib.hid hbx; have OO := Lib.hid hoo
          clear hq1 hq2 hal hle hF1 hF2 hdj hbx hoo
          have hsw := OO.out.size
          by_cases hjk : j < k
          · go_wp2_with fail
            refine (gone_any p1 n1 cap1 cs w.heap.size j wr (HB.out.kept OO.out) B0.out (by omega)).mono ?_
            rintro e w4 ⟨rfl, rfl⟩
            cases hg : goneB cs j
            · have HG := Lib.hid hg; clear hg
              have hT : CSt2 w wr wb.heap.size w1.heap.size us cs (.slice p1 n1 cap1) k (j + 1) := ⟨⟨F1, F2, pq, pu, l1, l2, A1.out, A2.out, AL.out.skip HG.out, LE.out, hl1, G1.out, G2.out, DJ.out⟩, B0.out, OO.out⟩
              have TT := Lib.hid hT; clear hT
              go_wp2
              go_roundw
              case rel => exact ⟨j + 1, by go_num, by omega, TT.out⟩
              case measure => simp [intOf]; omega
            · have HG := Lib.hid hg; clear hg
              obtain ⟨x, hx, hxx⟩ := AL.out.all j hjk (by omega)
              have hxi : x.i = (j : Int) + 1 := by rw [(AL.out.ev x hx).1, hxx]
              have hwf : (Lit.int .i64 ((j : Int) + 1)).wf = true := WalkArith.wf_i64 (by omega)
              have HX := Lib.hid hx; have HXI := Lib.hid hxi; clear hx hxi hxx
              go_wp2_with fail
              refine (cancel_yes A1.out ((j : Int) + 1) hwf HX.out HXI.out).mono ?_
              rintro e w5 ⟨rfl, l5, hq5, ho5, hl5, hm5⟩
              have Q5 := Lib.hid hq5; have L5 := Lib.hid hl5; have M5 := Lib.hid hm5; clear hq5 hl5 hm5
              go_wp2_with fail
              refine (cancel_no Q5.out.rep ((j : Int) + 1) hwf (fun e he => ((M5.out e).1 he).2)).mono ?_
              rintro e w6 ⟨rfl, rfl⟩
              have hT : CSt2 w w5 wb.heap.size w1.heap.size us cs (.slice p1 n1 cap1) k (j + 1) := by
                refine ⟨⟨F1, F2, pq, pu, l5, l2, Q5.out, A2.out.kept ho5 (fun x hx h => DJ.out x h hx), AL.out.cancel HG.out M5.out, LE.out, by have := L5.out; omega, G1.out, G2.out, DJ.out⟩, ?_, OO.out.trans (S' := F1) ho5 (fun x hx => .inr (by have := G1.out x hx; omega))⟩
                exact ho5.got B0.out (fun h => by have := G1.out _ h; omega)
              have TT := Lib.hid hT; clear hT
              go_wp2
              go_roundw
              case rel => exact ⟨j + 1, by go_num, by omega, TT.out⟩
              case measure => simp [intOf]; omega
          · have hjk' : j = k := by omega
            subst hjk'
            have hpair := pair_of AL.out LE.out
            have hln : (l2.length : Int) = (l1.length : Int) := by rw [hpair.length A1.out.rep.nodup A2.out.rep.nodup]
            have HLN := Lib.hid hln; clear hln
            have hst3 : CSt3 w wr wb.heap.size w1.heap.size us j 0 := ⟨⟨F1, F2, 0, 0, pq, pu, l1, l2, A1.out, A2.out, hpair, by omega, G1.out, G2.out, DJ.out⟩, OO.out⟩
            have ST3 := Lib.hid hst3; clear hst3 hpair
            obtain ⟨wp, hwp⟩ : ∃ wp : World, wp = wr := ⟨_, rfl⟩
            subst hwp
            go_wp2_with fail
            refine (len_any A1.out.rep).mono ?_
            rintro e w4 ⟨rfl, rfl⟩
            go_wp2_with fail
            refine (len_any A2.out.rep).mono ?_
            rintro e w4 ⟨rfl, rfl⟩
            rw [HLN.out]
            clear A1 A2 AL LE G1 G2 DJ B0 OO HLN
            go_wp2
            go_loopw [93] (fun vi wr => ∃ i : Nat, vi = .int .i64 i ∧ i ≤ j ∧ CSt3 w wr wb.heap.size w1.heap.size us j i) (fun vi _ => j - (intOf vi).toNat)
            case atStart => exact ⟨0, rfl, Nat.zero_le _, ST3.out⟩
            case round =>
              obtain ⟨i, rfl, hi, hcs⟩ := hrel
              obtain ⟨⟨F1, F2, t1, t2, pq, pu, l1, l2, hq1, hq2, hpr, hl1, hF1, hF2, hdj⟩, hoo⟩ := hcs
              have hlen := hpr.length hq1.rep.nodup hq2.rep.nodup
              have A1 := Lib.hid hq1; have A2 := Lib.hid hq2; have PR := Lib.hid hpr; have G1 := Lib.hid hF1; have G2 := Lib.hid hF2; have DJ := Lib.hid hdj; have OO := Lib.hid hoo; have HLE := Lib.hid hlen
              clear hq1 hq2 hpr hF1 hF2 hdj hoo hlen
              have hsw := OO.out.size
              by_cases hij : i < j
              · have hF1s : Hid (∀ x ∈ F1, x < wr.heap.size) := A1.out.blocks
                have hF2s : Hid (∀ x ∈ F2, x < wr.heap.size) := A2.out.blocks
                have heq : (el l1 0).t = (el l2 0).t ∧ (el l1 0).x = (el l2 0).x := by
                  by_cases h0 : 0 < l1.length
                  · obtain ⟨f1, f2⟩ := A1.out.first h0
                    obtain ⟨f3, f4⟩ := A2.out.first (by rw [← HLE.out]; exact h0)
                    exact PR.out.first f1 f2 f3 f4
                  · have e1 : l1 = [] := List.eq_nil_of_length_eq_zero (by omega)
                    have e2 : l2 = [] := List.eq_nil_of_length_eq_zero (by have := HLE.out; omega)
                    rw [e1, e2]; exact ⟨rfl, rfl⟩
                obtain ⟨het, hex⟩ := heq
                obtain ⟨xi, yi, xt, xx, hx, hy⟩ : ∃ xi yi xt xx, el l1 0 = ⟨xt, xi, xx⟩ ∧ el l2 0 = ⟨xt, yi, xx⟩ := ⟨(el l1 0).i, (el l2 0).i, (el l1 0).t, (el l1 0).x, rfl, by rw [het, hex]⟩
                have HX := Lib.hid hx; have HY := Lib.hid hy; clear hx hy het hex
                go_wp2_with fail
                have hpg := pop_gen A1.out
                rw [HX.out] at hpg
                refine hpg.mono ?_
                clear hpg
                rintro e w4 ⟨rfl, t4, l4, hq4, ho4, ht4, hl4, hm4⟩
                have Q4 := Lib.hid hq4; have L4 := Lib.hid hl4; have M4 := Lib.hid hm4; clear hq4 hl4 hm4 ht4
                have hs4 := ho4.size
                go_wp2_with fail
                refine alloc_abs (G := fun w0 => Calls _ _ _ w0 _) ?_
                intro w5 hb5 ho5 hs5
                have B5 := Lib.hid hb5; have S5 := Lib.hid hs5; clear hb5 hs5
                have hpg := pop_gen ((A2.out.kept ho4 (fun x hx h => DJ.out x h hx)).kept ho5 (by simp))
                rw [HY.out, ← HLE.out] at hpg
                refine hpg.mono ?_
                clear hpg
                rintro e w6 ⟨rfl, t6, l6, hq6, ho6, ht6, hl6, hm6⟩
                have hs6 := ho6.size
                have B6 := Lib.hid (box_kept B5.out ho6 (fun x hx => .inl (by have := hF2s.out x hx; omega)))
                have hT : CSt3 w w6 wb.heap.size w1.heap.size us j (i + 1) := by
                  have hpr' : Pair us l4 l6 := by
                    by_cases h0 : 0 < l1.length
                    · obtain ⟨f1, _⟩ := A1.out.first h0
                      obtain ⟨f3, _⟩ := A2.out.first (by rw [← HLE.out]; exact h0)
                      rw [HX.out] at f1
                      rw [HY.out] at f3
                      exact PR.out.pop f1 f3 rfl M4.out hm6
                    · have e1 : l4 = [] := List.eq_nil_of_length_eq_zero (by have := L4.out; omega)
                      have e2 : l6 = [] := List.eq_nil_of_length_eq_zero (by omega)
                      rw [e1, e2]; exact ⟨by simp, by simp, by simp, by simp⟩
                  refine ⟨⟨F1, F2, t4, t6, pq, pu, l4, l6, (Q4.out.kept ho5 (by simp)).kept ho6 DJ.out, hq6, hpr', by have := L4.out; omega, G1.out, G2.out, DJ.out⟩, ?_⟩
                  exact ((OO.out.trans (S' := F1) ho4 (fun x hx => .inr (by have := G1.out x hx; omega))).nil_trans ho5).trans (S' := F2) ho6 (fun x hx => .inr (by have := G2.out x hx; omega))
                have TT := Lib.hid hT; clear hT hq6 ht6 hl6 hm6
                have x0 := cell_got B6.out 0; have x1 := cell_got B6.out 1; have x2 := cell_got B6.out 2
                have z1 := got_lt B6.out
                go_wp2
                go_roundw
                case rel => exact ⟨i + 1, by go_num, by omega, TT.out.kept ((Only.refl [] _).alloc _)⟩
                case measure => simp [intOf]; omega
              · have hl0 : l1 = [] := List.eq_nil_of_length_eq_zero (by omega)
                subst hl0
                go_wp2_with fail
                refine (len_any A1.out.rep).mono ?_
                rintro e w4 ⟨rfl, rfl⟩
                go_wp2_with fail
                refine (awake_any _).mono ?_
                rintro e w5 ⟨rfl, ho5⟩
                go_wp2
                go_ret
                exact ⟨rfl, OO.out.nil_trans ho5⟩

set_option maxRecDepth 100000 in
theorem agendaCancels_lifted (os : Os) (started : os.Started) (H : Type) (enc : TypeId × Value → H) :
    ReturnsInHanded {} Try.checked os 7 .any (Rows.agendaCancelsSpec.pre6 enc Try.prog Try.f7 Rows.agendaCancelsRow.domain false) (Rows.agendaCancelsSpec.post enc Try.prog Try.f7 false true false false) := by
  refine returnsInHanded_of_change (C := Try.checked) law_own started (by kernel_rfl) Try.func7
    (ChangeSpec.witness6 (enc := enc) (C := Try.checked) false ⟨#[], #[.slice none 0 0, .slice none 0 0], []⟩ 8 (by kernel_rfl) (by kernel_rfl) (by kernel_rfl) (by kernel_rfl)) ?_
  intro W base args ds gs before hval0 hW hcnd _
  have hval : ∀ (j : Nat) t v, Try.f7.params[j]? = some t → args[j]? = some v → Value.okWide Try.prog W .any base t v := hval0
  have hW' := hW
  obtain ⟨p, q, hA0, hV, rfl, hfz, hnd⟩ := hW
  have hA : DataW.TrodAll enc Try.prog W 0 (fun _ => true) true Try.f7.params.toList args.toList ds p := hA0
  rw [Try.params7] at hA hval
  obtain ⟨v0, vs0, d0, ds0, p0, q0, hargs, rfl, rfl, h0, r0⟩ := trodAll_cons hA
  obtain ⟨v1, vs1, d1, ds1, p1, q1, rfl, rfl, rfl, h1, r1⟩ := trodAll_cons r0
  obtain ⟨rfl, rfl, rfl⟩ := trodAll_nil r1
  obtain rfl : args = #[v0, v1] := by cases args; simp_all
  obtain ⟨rfl, rfl⟩ := trodVars_none hV
  have k0 := h0
  have lt0 : ∀ x ∈ p0, x.block < W.heap.size := by obtain ⟨m, hm⟩ := k0; exact DataW.trod_lt m _ _ _ hm
  obtain ⟨a0, len0, cap0, rfl⟩ := okWide_slice Try.underlying22 (hval 0 22 v0 rfl rfl)
  obtain ⟨z0, w0, g0⟩ := vrow_ints Try.underlying22 Try.underlying25 (by kernel_rfl) h0
  have k1 := h1
  have lt1 : ∀ x ∈ p1, x.block < W.heap.size := by obtain ⟨m, hm⟩ := k1; exact DataW.trod_lt m _ _ _ hm
  obtain ⟨a1, len1, cap1, rfl⟩ := okWide_slice Try.underlying32 (hval 1 32 v1 rfl rfl)
  obtain ⟨z1, w1, _⟩ := vrow_bools Try.underlying32 Try.underlying4 (by kernel_rfl) h1
  clear hA0 hval0
  refine (cancels_walk a0 len0 cap0 z0 a1 len1 cap1 z1 W w0 g0 w1).mono fun e W' ⟨he, ho⟩ => ?_
  subst he
  have bel : Below W.heap.size W W' := ho.nil_below
  exact ⟨_, rfl, _, _, _, [], _, [], hW', trodAll_mk1 (shut_bool Try.underlying4 _), (trodAll_cons_mk (Below.trod law_laidOut (by kernel_rfl) (of_decide_eq_true (by kernel_rfl)) k0 bel lt0) (trodAll_cons_mk (Below.trod law_laidOut (by kernel_rfl) (of_decide_eq_true (by kernel_rfl)) k1 bel lt1) trodAll_mk0)), rfl, bel.frame _, fun h => by cases h⟩

theorem agendaCancels_over : Rows.agendaCancelsRow.holds Try.pinned (OpenSpec.ofChange Rows.agendaCancelsSpec) :=
  OpenClaim.holds_of_wide 7 Try.f7 rfl rfl rfl rfl rfl rfl rfl ⟨rfl, rfl, rfl, rfl, rfl⟩ rfl rfl rfl rfl rfl (by kernel_rfl) Try.func7 (by kernel_rfl)
    (of_decide_eq_true (by kernel_rfl)) (by unfold Func.isWrapper; first | (rw [if_pos (by decide +kernel)]; kernel_rfl) | (rw [if_neg (by decide +kernel)]; exact ⟨rfl, rfl⟩))
    (fun os started H enc _ => agendaCancels_lifted os started H enc)

theorem agendaCancels_holds : Rows.AgendaCancelsSaid := agendaCancels_over
end Go.Proofs.Ytpiilepmaomfeaa
