/- Pairs of the reference; the comparison of two lists of pairs. Condition: the lengths of the slices. -/
import Derived.Test.YtdpfbedcejahjaaDoorLq
namespace Go.Proofs.YtdpfbedcejahjaaDoor
open Go.RowKit

def RPair (w : World) (l : List En) (v vi : Value) (wr : World) : Prop :=
  ∃ k : Nat, k ≤ l.length ∧ vi = .int .i64 k ∧ Own prC 33 2 w.heap.size wr v (prsI l (l.take k) 0) ∧ Only [] w wr
def RIn (w : World) (l acc : List En) (b : En) (i : Nat) (v vk : Value) (wr : World) : Prop :=
  ∃ k : Nat, k ≤ l.length ∧ vk = .int .i64 k ∧ Own prC 33 2 w.heap.size wr v (prsI l acc 0 ++ prsK b i (l.take k) 0) ∧ Only [] w wr
theorem prsK_len (b : En) (i : Nat) : ∀ (xs : List En) (k : Nat), (prsK b i xs k).length ≤ xs.length
  | [], k => by simp [prsK]
  | a :: r, k => by
    have := prsK_len b i r (k + 1)
    unfold prsK
    split <;> simp <;> omega

set_option maxRecDepth 100000 in
set_option maxHeartbeats 2000000 in
theorem Rpairs {w : World} {p : Option Addr} {n cap : Nat} {l : List En} (hv : VRow enC 6 w p n cap l) (hn : n ≤ 100000) :
    Calls Tryd.prog 18 #[.slice p n cap] w fun e w' => ∃ p' cap', e = .returned (.slice p' (prsR l).length cap') ∧ VRow prC 2 w' p' (prsR l).length cap' (prsR l) ∧ Only [] w w' := by
  have hl := hv.len
  subst hl
  have HV := Lib.hid hv; clear hv
  go_enter Tryd.func18, Tryd.ntmps18
  go_wp2_with fail
  refine (Rcheck HV.out hn).mono ?_
  rintro r w1 ⟨rfl, ho1⟩
  have O1 := Lib.hid ho1; clear ho1
  by_cases h0 : logE l = 0
  · have hu := uniq_of_log h0
    have HR : Hid (prsR l = prs l) := Lib.hid (by unfold prsR; rw [if_pos h0])
    have HU := Lib.hid hu
    clear hu
    rw [h0]
    clear h0
    go_wp2
    go_loopw [3, 4] (fun v vi wr => RPair w l v vi wr) (fun _ vi _ => l.length - (intOf vi).toNat)
    case atStart => exact ⟨0, Nat.zero_le _, rfl, own_nil _ _, O1.out⟩
    case round =>
      obtain ⟨i, hi, rfl, hown, ho⟩ := hrel
      have RW := Lib.hid hown; have OO := Lib.hid ho
      clear hown ho
      by_cases hlt : i < l.length
      · obtain ⟨bb, off, hp, _, _⟩ := HV.out.cell i l[i] (List.getElem?_eq_getElem hlt)
        subst hp
        have hF := fun (wr : World) (ho : Only [] w wr) => HV.out.field ho rfl hlt
        have hlen : (l.take i).length = i := by rw [List.length_take]; omega
        have hst : prsI l (l.take (i + 1)) 0 = prsI l (l.take i) 0 ++ if l[i].k = 2 then prsK l[i] i l 0 else [] := by
          rw [List.take_succ_eq_append_getElem hlt, prsI_snoc, hlen, Nat.zero_add]
        have hll := prsI_len HU.out (l.take i) 0
        rw [hlen] at hll
        obtain ⟨e, he⟩ : ∃ e, e = l[i] := ⟨_, rfl⟩
        rw [← he] at hF hst
        obtain ⟨ek, en, ep, em, ec, ev⟩ := e
        dsimp only at hF
        have HF := Lib.hid hF; have HST := Lib.hid hst; have HLL := Lib.hid hll
        clear hF he hst hll hlen
        have hij : (i : Int) < (l.length : Int) := by omega
        by_cases h2 : ek = 2
        · subst h2
          have HS2 : Hid (prsI l (l.take (i + 1)) 0 = prsI l (l.take i) 0 ++ prsK ⟨2, en, ep, em, ec, ev⟩ i l 0) := Lib.hid (by rw [HST.out]; simp)
          clear HST
          obtain ⟨wo, hwo⟩ : ∃ wo : World, wo = wr := ⟨_, rfl⟩
          subst hwo
          go_wp2
          go_loopw [3, 5] (fun v vk wr => RIn w l (l.take i) ⟨2, en, ep, em, ec, ev⟩ i v vk wr) (fun _ vk _ => l.length - (intOf vk).toNat)
          case atStart => exact ⟨0, Nat.zero_le _, rfl, by simpa [prsK] using RW.out, OO.out⟩
          case round =>
            obtain ⟨k, hk, rfl, hown, ho⟩ := hrel
            have RV := Lib.hid hown; have O2 := Lib.hid ho
            clear hown ho
            obtain ⟨g0, g1, g2, g3, g4, hbb⟩ := HF.out wr O2.out
            by_cases hltk : k < l.length
            · obtain ⟨f0, f1, f2, f3, f4, _⟩ := HV.out.field O2.out rfl hltk
              have hlenk : (l.take k).length = k := by rw [List.length_take]; omega
              have hst : prsK ⟨2, en, ep, em, ec, ev⟩ i (l.take (k + 1)) 0 = prsK ⟨2, en, ep, em, ec, ev⟩ i (l.take k) 0 ++ if sndB l[k] ⟨2, en, ep, em, ec, ev⟩ then [(k, i)] else [] := by
                rw [List.take_succ_eq_append_getElem hltk, prsK_snoc, hlenk, Nat.zero_add]
              have hkl := prsK_len ⟨2, en, ep, em, ec, ev⟩ i (l.take k) 0
              rw [hlenk] at hkl
              have HKL := Lib.hid hkl
              clear hkl
              generalize l[k] = a at f0 f1 f2 f3 f4 hst
              obtain ⟨ak, an, ap, am, ac, av⟩ := a
              dsimp only at f0 f1 f2 f3 f4
              have HS3 := Lib.hid hst
              clear hst hlenk
              have hkj : (k : Int) < (l.length : Int) := by omega
              by_cases q : ak = 1 ∧ an = ep ∧ ap = en ∧ am = em
              · obtain ⟨rfl, rfl, rfl, rfl⟩ := q
                have HN : Hid (prsK ⟨2, ap, an, am, ec, ev⟩ i (l.take (k + 1)) 0 = prsK ⟨2, ap, an, am, ec, ev⟩ i (l.take k) 0 ++ [(k, i)]) := Lib.hid (by rw [HS3.out, if_pos (by simp [sndB])])
                clear HS3
                go_wp2_with fail
                refine wp_region_quiet_lit (by kernel_rfl) (by kernel_rfl) ?_
                repeat (go_big_quiet_step (fail))
                refine wpQuiet_nil ?_
                intro _ hw'
                obtain ⟨nq, hw''⟩ := hw'
                subst hw''
                go_wp2_with (at_builtin; refine stop_here ?_)
                refine alloc_abs (G := fun w0 => Stop (wpList _ _ _ _ _ w0)) ?_
                intro w5 hb5 ho5 hs5
                have ho5' : Only [] wr w5 := (only_drewN wr nq).nil_trans ho5
                have O5 := Lib.hid (O2.out.nil_trans ho5')
                have R5 := Lib.hid (RV.out.kept ho5')
                have B5 := Lib.hid hb5
                clear hb5 ho5 hs5 ho5'
                refine stop_go ?_
                refine wpList_append_one rfl _ _ 32 rfl 33 (.agg #[.int .i64 0, .int .i64 0]) 2 16 Tryd.underlying32 (by kernel_rfl) rfl (by decide) prC prC_len prC_one (prsI l (l.take i) 0 ++ prsK ⟨2, ap, an, am, ec, ev⟩ i (l.take k) 0) _ rfl R5.out (wr.drewN nq).heap.size (k, i) rfl (fun j u hj => ?_) (by have := HLL.out; have := HKL.out; simp [maxLen]; omega) (by have := HLL.out; have := HKL.out; rw [List.length_append]; omega) O5.out ?_
                · rw [cell_got B5.out]; simpa [prC] using hj
                intro v' w6 hown6 ho6 _
                have R6 : Hid (Own prC 33 2 w.heap.size w6 v' (prsI l (l.take i) 0 ++ prsK ⟨2, ap, an, am, ec, ev⟩ i (l.take (k + 1)) 0)) := Lib.hid (by rw [HN.out, ← List.append_assoc]; exact hown6)
                have O6 := Lib.hid ho6
                clear hown6 ho6
                go_wp2
                go_roundw
                case rel => exact ⟨k + 1, by omega, by go_num, R6.out, O6.out⟩
                case measure => simp [intOf]; omega
              · have HN : Hid (prsK ⟨2, en, ep, em, ec, ev⟩ i (l.take (k + 1)) 0 = prsK ⟨2, en, ep, em, ec, ev⟩ i (l.take k) 0) := Lib.hid (by rw [HS3.out, if_neg (by simpa [sndB] using q)]; simp)
                clear HS3
                by_cases q0 : ak = 1
                · have e0 : (ak == 1) = true := by simp [q0]
                  by_cases q1 : an = ep
                  · have e1 : (an == ep) = true := by simp [q1]
                    by_cases q2 : ap = en
                    · have e2 : (ap == en) = true := by simp [q2]
                      have e3 : (am == em) = false := by
                        refine beq_eq_false_iff_ne.2 fun h => q ⟨q0, q1, q2, h⟩
                      clear q q0 q1 q2
                      go_wp2_with fail
                      refine wp_region_quiet_lit (by kernel_rfl) (by kernel_rfl) ?_
                      repeat (go_big_quiet_step (fail))
                      refine wpQuiet_nil ?_
                      intro _ hw'
                      obtain ⟨nq, hw''⟩ := hw'
                      subst hw''
                      go_wp2
                      go_roundw
                      case rel => exact ⟨k + 1, by omega, by go_num, HN.out ▸ RV.out.kept (only_drewN _ _), O2.out.nil_trans (only_drewN _ _)⟩
                      case measure => simp [intOf]; omega
                    · have e2 : (ap == en) = false := by simp [q2]
                      clear q q0 q1 q2
                      go_wp2_with fail
                      refine wp_region_quiet_lit (by kernel_rfl) (by kernel_rfl) ?_
                      repeat (go_big_quiet_step (fail))
                      refine wpQuiet_nil ?_
                      intro _ hw'
                      obtain ⟨nq, hw''⟩ := hw'
                      subst hw''
                      go_wp2
                      go_roundw
                      case rel => exact ⟨k + 1, by omega, by go_num, HN.out ▸ RV.out.kept (only_drewN _ _), O2.out.nil_trans (only_drewN _ _)⟩
                      case measure => simp [intOf]; omega
                  · have e1 : (an == ep) = false := by simp [q1]
                    clear q q0 q1
                    go_wp2_with fail
                    refine wp_region_quiet_lit (by kernel_rfl) (by kernel_rfl) ?_
                    repeat (go_big_quiet_step (fail))
                    refine wpQuiet_nil ?_
                    intro _ hw'
                    obtain ⟨nq, hw''⟩ := hw'
                    subst hw''
                    go_wp2
                    go_roundw
                    case rel => exact ⟨k + 1, by omega, by go_num, HN.out ▸ RV.out.kept (only_drewN _ _), O2.out.nil_trans (only_drewN _ _)⟩
                    case measure => simp [intOf]; omega
                · have e0 : (ak == 1) = false := by simp [q0]
                  clear q q0
                  go_wp2_with fail
                  refine wp_region_quiet_lit (by kernel_rfl) (by kernel_rfl) ?_
                  repeat (go_big_quiet_step (fail))
                  refine wpQuiet_nil ?_
                  intro _ hw'
                  obtain ⟨nq, hw''⟩ := hw'
                  subst hw''
                  go_wp2
                  go_roundw
                  case rel => exact ⟨k + 1, by omega, by go_num, HN.out ▸ RV.out.kept (only_drewN _ _), O2.out.nil_trans (only_drewN _ _)⟩
                  case measure => simp [intOf]; omega
            · obtain rfl : k = l.length := by omega
              have hown := RV.out
              rw [List.take_of_length_le (Nat.le_refl _), ← HS2.out] at hown
              have R3 := Lib.hid hown
              clear hown RV
              go_wp2
              go_roundw
              case rel => exact ⟨i + 1, by omega, by go_num, R3.out, O2.out⟩
              case measure => simp [intOf]; omega
        · have b1 : (ek == 2) = false := by simp [h2]
          have HN : Hid (prsI l (l.take (i + 1)) 0 = prsI l (l.take i) 0) := Lib.hid (by rw [HST.out, if_neg h2]; simp)
          clear h2 HST
          obtain ⟨wo, hwo⟩ : ∃ wo : World, wo = wr := ⟨_, rfl⟩
          subst hwo
          obtain ⟨g0, g1, g2, g3, g4, hbb⟩ := HF.out wo OO.out
          have hpos : (0 : Int) < (l.length : Int) := by omega
          have hpos2 : 0 < l.length := by omega
          go_wp2
          go_loopw [3, 5] (fun v vk wr => Own prC 33 2 w.heap.size wo v (prsI l (l.take i) 0) ∧ vk = .int .i64 0 ∧ wr = wo) (fun _ vk _ => 0)
          case atStart => exact ⟨RW.out, rfl, rfl⟩
          case round =>
            obtain ⟨hrw, rfl, rfl⟩ := hrel
            have RW := Lib.hid hrw
            clear hrw
            go_wp2
            go_roundw
            case rel => exact ⟨i + 1, by omega, by go_num, HN.out ▸ RW.out, OO.out⟩
            case measure => simp [intOf]; omega
      · obtain rfl : i = l.length := by omega
        have hown := RW.out
        rw [List.take_of_length_le (Nat.le_refl _), show prsI l l 0 = prsR l from HR.out.symm] at hown
        obtain ⟨p', cap', rfl, hvr⟩ := hown.vrow prC_len
        have H1 := Lib.hid hvr
        clear hown hvr RW
        go_wp2
        go_ret
        exact ⟨p', cap', rfl, H1.out, OO.out⟩
  · have b1 : (logE l == 0) = false := by simp [h0]
    have b2 : (logE l != 0) = true := by simp [h0]
    have HR : Hid (prsR l = []) := Lib.hid (by unfold prsR; rw [if_neg h0])
    clear h0
    go_wp2
    go_ret
    exact ⟨none, 0, by rw [HR.out]; rfl, by rw [HR.out]; exact vrow_nil _, O1.out⟩
end Go.Proofs.YtdpfbedcejahjaaDoor
