/- Parse of the reference. Condition: the length. -/
import Derived.Test.YtdpfbedcejahjaaDoorRe
import Derived.Test.YtdpfbedcejahjaaDoorLm
namespace Go.Proofs.YtdpfbedcejahjaaDoor
open Go.RowKit

def RParR (s0 : List UInt8) (w : World) (v5 v6 v7 : Value) (wr : World) : Prop :=
  ∃ (acc : List En) (fr i : Nat), v6 = .int .i64 fr ∧ v7 = .int .i64 i ∧ Own enC 37 6 w.heap.size wr v5 acc ∧ acc.length ≤ fr ∧ fr ≤ i ∧ i ≤ s0.length ∧ Only [] w wr ∧
    parL s0 = addE acc (parP (pcs 10 (s0.drop fr)) (acc.length + 1)) ∧ (10 : UInt8) ∉ (s0.drop fr).take (i - fr)

set_option maxRecDepth 100000 in
set_option maxHeartbeats 2000000 in
theorem Rparse (s0 : List UInt8) (hs : s0.length ≤ 1000000) (w : World) :
    Calls Tryd.prog 14 #[.string (bstr s0)] w fun e w' => ParsR (parR s0) e w' ∧ Only [] w w' := by
  by_cases h65 : 65536 < s0.length
  · have HR : Hid (parR s0 = ([], 0, 6)) := Lib.hid (by unfold parR; rw [if_pos h65])
    have hz := bstr_size s0
    generalize bstr s0 = S at hz ⊢
    have d1 : decide (65536 < (S.size : Int)) = true := by simp; omega
    have d2 : decide (65536 < S.size) = true := by simp; omega
    clear hz
    go_enter Tryd.func14, Tryd.ntmps14
    go_wp2
    go_ret3
    exact ⟨by rw [HR.out]; exact ⟨none, 0, rfl, vrow_nil _⟩, Only.refl _ _⟩
  · have HR : Hid (parR s0 = match parL s0 with
      | .error n => ([], n, 19)
      | .ok l => if logE l = 0 then (l, 0, 0) else ([], 0, logE l)) := Lib.hid (by unfold parR; rw [if_neg h65]; rfl)
    obtain ⟨S, hS⟩ : ∃ S, S = bstr s0 := ⟨_, rfl⟩
    have hz : s0.length = S.size := by rw [hS, bstr_size]
    have hxt : ∀ a b, S.extract a b = bstr ((s0.drop a).take (b - a)) := fun a b => by rw [extract_bstr, hS]; rfl
    have hgt : ∀ i (h : i < S.size), s0[i]? = some S[i] := fun i h => by
      have h1 : S.data.toList = s0 := by rw [hS]; rfl
      have h2 : S.data.toList.length = S.size := by rw [Array.length_toList]; rfl
      have h3 : S.data.toList[i]? = some S[i] := by rw [List.getElem?_eq_getElem (by rw [h2]; exact h)]; rfl
      rw [h1] at h3; exact h3
    rw [← hS]
    have hs2 : S.size ≤ 65536 := by omega
    have d1 : decide (65536 < (S.size : Int)) = false := by simp; omega
    have d2 : decide (65536 < S.size) = false := by simp; omega
    have HL := Lib.hid hz; have HX := Lib.hid hxt; have HG := Lib.hid hgt
    clear hz hS hxt hgt hs h65
    go_enter Tryd.func14, Tryd.ntmps14
    go_wp2
    go_loopw [5, 6, 7] (fun v5 v6 v7 wr => RParR s0 w v5 v6 v7 wr) (fun _ _ v7 _ => S.size - (intOf v7).toNat)
    case atStart => exact ⟨[], 0, 0, rfl, rfl, own_nil _ _, Nat.le_refl _, Nat.le_refl _, Nat.zero_le _, Only.refl _ _, by rw [addE_nil]; rfl, by simp⟩
    case round =>
      obtain ⟨acc, fr, i, rfl, rfl, hown, haf, hfi, hil, ho, hp, hno⟩ := hrel
      have RW := Lib.hid hown; have OO := Lib.hid ho; have HP := Lib.hid hp; have HNO := Lib.hid hno
      have hi2 : i ≤ S.size := by rw [← HL.out]; exact hil
      clear hown ho hp hno hil
      by_cases hlt : i < S.size
      · have hgi := HG.out i hlt
        have hsplit : s0.drop fr = (s0.drop fr).take (i - fr) ++ S[i] :: s0.drop (i + 1) := by
          have h1 : (s0.drop fr).drop (i - fr) = S[i] :: s0.drop (i + 1) := by
            rw [List.drop_drop, show fr + (i - fr) = i by omega]
            have hil : i < s0.length := by rw [HL.out]; exact hlt
            rw [List.drop_eq_getElem_cons hil]
            congr 1
            rw [List.getElem?_eq_getElem hil] at hgi
            exact Option.some.inj hgi
          conv => lhs; rw [← List.take_append_drop (i - fr) (s0.drop fr)]
          rw [h1]
        have hstep : (s0.drop fr).take (i + 1 - fr) = (s0.drop fr).take (i - fr) ++ [S[i]] := by
          conv => lhs; rw [hsplit]
          rw [show i + 1 - fr = (i - fr) + 1 by omega]
          have hlen : ((s0.drop fr).take (i - fr)).length = i - fr := by rw [List.length_take, List.length_drop, HL.out]; omega
          rw [List.take_append, hlen]
          simp only [Nat.add_sub_cancel_left, List.take_succ_cons, List.take_zero]
          rw [List.take_of_length_le (by rw [hlen]; omega)]
        have HSP := Lib.hid hsplit; have HST := Lib.hid hstep
        clear hsplit hstep hgi
        by_cases h10 : S[i].toNat = 10
        · have b3 : ((S[i].toNat : Int) == 10) = true := by simp [h10]
          have hc : S[i] = 10 := UInt8.toNat_inj.1 h10
          obtain ⟨a, ha⟩ : ∃ a, a = (s0.drop fr).take (i - fr) := ⟨_, rfl⟩
          have hpl := HP.out
          rw [HSP.out, hc, ← ha, parP_line (by rw [ha]; exact HNO.out)] at hpl
          obtain ⟨X, hX⟩ : ∃ X, X = bstr a := ⟨_, rfl⟩
          have hex : S.extract fr i = X := by rw [hX, HX.out, ha]
          have hal : a.length ≤ 100000 := by rw [ha, List.length_take]; omega
          have hline := rentry (bstr a) (by rw [bstr_size]; exact hal)
          rw [bstr_data, ← hX] at hline
          obtain ⟨x, hx⟩ : ∃ x, x = lineE a := ⟨_, rfl⟩
          rw [← hx] at hline hpl
          have HLI := Lib.hid hline; have HPL := Lib.hid hpl
          have hfs : fr ≤ S.size := by omega
          clear hline hpl hx hX ha hc h10 HP HSP HST HNO
          go_wp2_with fail
          with_reducible refine (HLI.out wr).mono ?_
          rintro e w3 ⟨rfl, ho3⟩
          have O3 := Lib.hid (OO.out.nil_trans ho3); have R3 := Lib.hid (RW.out.kept ho3)
          clear ho3 RW OO HLI
          cases x with
          | none =>
            have HN : Hid (parR s0 = ([], acc.length + 1, 19)) := Lib.hid (by rw [HR.out, HPL.out]; rfl)
            obtain ⟨p', cap', rfl, hvr⟩ := R3.out.vrow enC_len
            clear hvr
            unfold lineV enV en0
            simp only [Option.getD_none, Option.isSome_none]
            go_wp2
            go_ret3
            exact ⟨by rw [HN.out]; exact ⟨none, 0, by simp, vrow_nil _⟩, O3.out.alloc _⟩
          | some x =>
            have HN : Hid (parL s0 = addE (acc ++ [x]) (parP (pcs 10 (s0.drop (i + 1))) ((acc ++ [x]).length + 1))) := Lib.hid (by rw [HPL.out]; show addE acc (addE [x] _) = _; rw [addE_addE]; simp)
            clear HPL
            unfold lineV enV
            simp only [Option.getD_some, Option.isSome_some]
            go_wp2_with (at_builtin; refine stop_here ?_)
            refine alloc_abs (G := fun w0 => Stop (wpList _ _ _ _ _ w0)) ?_
            intro w5 hb5 ho5 hs5
            have ho5' : Only [] w3 w5 := ((Only.refl [] w3).alloc _).nil_trans ho5
            have O5 := Lib.hid (O3.out.nil_trans ho5')
            have R5 := Lib.hid (R3.out.kept ho5')
            rw [show ∀ o, (w3.alloc o).heap.size = w3.heap.size + 1 from fun o => by simp] at hb5
            have B5 := Lib.hid hb5
            clear hb5 ho5 hs5 ho5'
            refine stop_go ?_
            refine wpList_append_one rfl _ _ 22 rfl 37 (.agg #[.int .i64 0, .int .i64 0, .int .i64 0, .int .i64 0, .int .i64 0, .int .i64 0]) 6 48 Tryd.underlying22 (by kernel_rfl) rfl (by decide) enC enC_len enC_one acc _ rfl R5.out _ x rfl (fun j u hj => ?_) (by simp [maxLen]; omega) (by omega) O5.out ?_
            · rw [cell_got B5.out]; simpa [enC] using hj
            intro v' w6 hown6 ho6 _
            have R6 := Lib.hid hown6; have O6 := Lib.hid ho6
            clear hown6 ho6
            go_wp2
            go_roundw
            case rel => exact ⟨acc ++ [x], i + 1, i + 1, by go_num, by go_num, R6.out, by simp; omega, Nat.le_refl _, by rw [HL.out]; omega, O6.out, HN.out, by simp⟩
            case measure => simp [intOf]; omega
        · have b3 : ((S[i].toNat : Int) == 10) = false := by simp; omega
          have HN : Hid ((10 : UInt8) ∉ (s0.drop fr).take (i + 1 - fr)) := Lib.hid (by
            rw [HST.out]
            intro hm
            rcases List.mem_append.1 hm with hm | hm
            · exact HNO.out hm
            · simp only [List.mem_singleton] at hm
              exact h10 (by rw [← hm]; rfl))
          clear h10
          go_wp2
          go_roundw
          case rel => exact ⟨acc, fr, i + 1, rfl, by go_num, RW.out, haf, by omega, by rw [HL.out]; omega, OO.out, HP.out, HN.out⟩
          case measure => simp [intOf]; omega
      · obtain rfl : i = S.size := by omega
        have hno := HNO.out
        rw [List.take_of_length_le (by rw [List.length_drop, HL.out]; exact Nat.le_refl _)] at hno
        obtain ⟨p', cap', rfl, hvr⟩ := RW.out.vrow enC_len
        have H1 := Lib.hid hvr
        have hal : acc.length ≤ 100000 := by omega
        clear hvr RW
        by_cases hfr : fr < S.size
        · have hpl := HP.out
          rw [parP_last hno (fun q => by have := congrArg List.length q; rw [List.length_drop, HL.out] at this; simp at this; omega)] at hpl
          have HN : Hid (parR s0 = ([], acc.length + 1, 19)) := Lib.hid (by rw [HR.out, hpl]; rfl)
          clear hpl hno
          go_wp2
          go_ret3
          exact ⟨by rw [HN.out]; exact ⟨none, 0, by simp, vrow_nil _⟩, OO.out⟩
        · have hok : parL s0 = .ok acc := by
            rw [HP.out, List.drop_of_length_le (by rw [HL.out]; omega), parP_end]; simp [addE]
          have HO := Lib.hid hok
          clear hok hno
          go_wp2_with fail
          refine (Rcheck H1.out hal).mono ?_
          rintro r w2 ⟨rfl, ho2⟩
          have O2 := Lib.hid (OO.out.nil_trans ho2)
          have V2 := Lib.hid (H1.out.kept ho2)
          clear ho2
          by_cases h0 : logE acc = 0
          · have HN : Hid (parR s0 = (acc, 0, 0)) := Lib.hid (by rw [HR.out, HO.out]; simp [h0])
            rw [h0]
            clear h0
            go_wp2
            go_ret3
            exact ⟨by rw [HN.out]; exact ⟨p', cap', rfl, V2.out⟩, O2.out⟩
          · have HN : Hid (parR s0 = ([], 0, logE acc)) := Lib.hid (by rw [HR.out, HO.out]; simp [h0])
            have b1 : (logE acc == 0) = false := by simp [h0]
            have b2 : (logE acc != 0) = true := by simp [h0]
            clear h0
            go_wp2
            go_ret3
            exact ⟨by rw [HN.out]; exact ⟨none, 0, rfl, vrow_nil _⟩, O2.out⟩
end Go.Proofs.YtdpfbedcejahjaaDoor
