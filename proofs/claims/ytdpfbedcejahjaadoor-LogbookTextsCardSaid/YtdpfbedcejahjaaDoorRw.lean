/- words and name of the reference. Condition: the length. -/
import Derived.Test.YtdpfbedcejahjaaDoorRn
import Derived.Test.YtdpfbedcejahjaaDoorLt
namespace Go.Proofs.YtdpfbedcejahjaaDoor
open Go.RowKit

theorem strC_one (l : List UInt8) : ∀ u ∈ strC l, u.oneCell' = true := by simp [strC, Value.oneCell']
theorem extract_bstr (S : ByteArray) (a b : Nat) : S.extract a b = bstr ((S.data.toList.drop a).take (b - a)) := by
  apply bstr_eq
  rw [ByteArray.data_extract, Array.toList_extract, List.extract_eq_take_drop]
/-- what the loop of words keeps -/
def WordR (s : List UInt8) (w : World) (v3 v4 v5 : Value) (wr : World) : Prop :=
  ∃ (done : List (List UInt8)) (fr i : Nat), v4 = .int .i64 fr ∧ v5 = .int .i64 i ∧ Own strC 9 1 w.heap.size wr v3 done ∧ done.length ≤ i ∧ Only [] w wr ∧
    ((i ≤ s.length ∧ fr ≤ i ∧ pcs 32 s = done ++ pcs 32 (s.drop fr) ∧ (32 : UInt8) ∉ (s.drop fr).take (i - fr)) ∨ (i = s.length + 1 ∧ pcs 32 s = done))

set_option maxRecDepth 100000 in
set_option maxHeartbeats 2000000 in
theorem rwords (S : ByteArray) (hS : S.size ≤ 1000000) (w : World) :
    Calls Tryd.prog 41 #[.string S] w fun e w' => (∃ p cap, e = .returned (.slice p (pcs 32 S.data.toList).length cap) ∧ VRow strC 1 w' p (pcs 32 S.data.toList).length cap (pcs 32 S.data.toList)) ∧ Only [] w w' := by
  have hsl : S.data.toList.length = S.size := by rw [Array.length_toList]; rfl
  have hxt := fun a b => extract_bstr S a b
  have hgt : ∀ i (h : i < S.size), S.data.toList[i]? = some S[i] := fun i h => by rw [List.getElem?_eq_getElem (by rw [hsl]; exact h)]; rfl
  obtain ⟨s, hs⟩ : ∃ s, s = S.data.toList := ⟨_, rfl⟩
  rw [← hs] at hsl hxt hgt ⊢
  have HL := Lib.hid hsl; have HX := Lib.hid hxt; have HG := Lib.hid hgt
  clear hsl hxt hgt hs
  go_enter Tryd.func41, Tryd.ntmps41
  go_wp2
  go_loopw [3, 4, 5] (fun v3 v4 v5 wr => WordR s w v3 v4 v5 wr) (fun _ _ v5 _ => S.size + 1 - (intOf v5).toNat)
  case atStart => exact ⟨[], 0, 0, rfl, rfl, own_nil _ _, Nat.le_refl _, Only.refl _ _, .inl ⟨Nat.zero_le _, Nat.le_refl _, rfl, by simp⟩⟩
  case round =>
    obtain ⟨done, fr, i, rfl, rfl, hown, hdl, ho, hph⟩ := hrel
    have RW := Lib.hid hown; have OO := Lib.hid ho
    clear hown ho
    rcases hph with ⟨hi, hfi, hp, hno⟩ | ⟨hi, hp⟩
    · have HP := Lib.hid hp; have HNO := Lib.hid hno
      have hi2 : i ≤ S.size := by rw [← HL.out]; exact hi
      clear hp hno hi
      obtain ⟨X, hX⟩ : ∃ X, X = bstr ((s.drop fr).take (i - fr)) := ⟨_, rfl⟩
      have hex : S.extract fr i = X := by rw [hX, HX.out]
      have HXX := Lib.hid hX
      clear hX
      by_cases hie : i = S.size
      · have b1 : ((i : Int) == (S.size : Int)) = true := by simp [hie]
        have b2 : (i == S.size) = true := by simp [hie]
        have hend : pcs 32 s = done ++ [(s.drop fr).take (i - fr)] := by
          have hl := HNO.out
          rw [List.take_of_length_le (by rw [List.length_drop, HL.out]; omega)] at hl ⊢
          rw [HP.out, pcs_no hl]
        have HE := Lib.hid hend
        have HIE := Lib.hid hie
        clear hend hie
        have hfs : fr ≤ S.size := by omega
        go_wp2_with (at_builtin; refine stop_here ?_)
        refine alloc_abs (G := fun w0 => Stop (wpList _ _ _ _ _ w0)) ?_
        intro w5 hb5 ho5 hs5
        have O5 := Lib.hid (OO.out.nil_trans ho5)
        have R5 := Lib.hid (RW.out.kept ho5)
        have B5 := Lib.hid hb5
        clear hb5 ho5 hs5
        refine stop_go ?_
        refine wpList_append_one rfl _ _ 61 rfl 9 (.string ⟨#[]⟩) 1 16 Tryd.underlying61 (by kernel_rfl) rfl (by decide) strC strC_len strC_one done _ rfl R5.out _ ((s.drop fr).take (i - fr)) rfl (fun j u hj => ?_) (by simp [maxLen]; omega) (by omega) O5.out ?_
        · rw [cell_got B5.out, HXX.out]; simpa [strC] using hj
        intro v' w6 hown6 ho6 _
        have R6 := Lib.hid hown6; have O6 := Lib.hid ho6
        clear hown6 ho6
        go_wp2
        go_roundw
        case rel => exact ⟨done ++ [(s.drop fr).take (i - fr)], i + 1, i + 1, by go_num, by go_num, R6.out, by simp; omega, O6.out, .inr ⟨by rw [HIE.out, HL.out], HE.out⟩⟩
        case measure => have := HIE.out; simp [intOf]; omega
      · have b1 : ((i : Int) == (S.size : Int)) = false := by simp; omega
        have b2 : (i == S.size) = false := by simp; omega
        have hlt : i < S.size := by omega
        have hgi := HG.out i hlt
        have hsplit : s.drop fr = (s.drop fr).take (i - fr) ++ S[i] :: s.drop (i + 1) := by
          have h1 : (s.drop fr).drop (i - fr) = S[i] :: s.drop (i + 1) := by
            rw [List.drop_drop, show fr + (i - fr) = i by omega]
            have hil : i < s.length := by rw [HL.out]; exact hlt
            rw [List.drop_eq_getElem_cons hil]
            congr 1
            rw [List.getElem?_eq_getElem hil] at hgi
            exact Option.some.inj hgi
          conv => lhs; rw [← List.take_append_drop (i - fr) (s.drop fr)]
          rw [h1]
        have hstep : (s.drop fr).take (i + 1 - fr) = (s.drop fr).take (i - fr) ++ [S[i]] := by
          conv => lhs; rw [hsplit]
          rw [show i + 1 - fr = (i - fr) + 1 by omega]
          have hlen : ((s.drop fr).take (i - fr)).length = i - fr := by rw [List.length_take, List.length_drop, HL.out]; omega
          rw [List.take_append, hlen]
          simp only [Nat.add_sub_cancel_left, List.take_succ_cons, List.take_zero]
          rw [List.take_of_length_le (by rw [hlen]; omega)]
        have HSP := Lib.hid hsplit; have HST := Lib.hid hstep
        clear hsplit hstep hgi
        by_cases h32 : S[i].toNat = 32
        · have b3 : ((S[i].toNat : Int) == 32) = true := by simp [h32]
          have hc : S[i] = 32 := UInt8.toNat_inj.1 h32
          have hend : pcs 32 s = (done ++ [(s.drop fr).take (i - fr)]) ++ pcs 32 (s.drop (i + 1)) := by
            rw [HP.out]
            conv => lhs; rw [HSP.out, hc]
            rw [pcs_cut _ HNO.out]
            simp
          have HE := Lib.hid hend
          have hfs : fr ≤ S.size := by omega
          clear hend hc h32 hie
          go_wp2_with (at_builtin; refine stop_here ?_)
          refine alloc_abs (G := fun w0 => Stop (wpList _ _ _ _ _ w0)) ?_
          intro w5 hb5 ho5 hs5
          have O5 := Lib.hid (OO.out.nil_trans ho5)
          have R5 := Lib.hid (RW.out.kept ho5)
          have B5 := Lib.hid hb5
          clear hb5 ho5 hs5
          refine stop_go ?_
          refine wpList_append_one rfl _ _ 61 rfl 9 (.string ⟨#[]⟩) 1 16 Tryd.underlying61 (by kernel_rfl) rfl (by decide) strC strC_len strC_one done _ rfl R5.out _ ((s.drop fr).take (i - fr)) rfl (fun j u hj => ?_) (by simp [maxLen]; omega) (by omega) O5.out ?_
          · rw [cell_got B5.out, HXX.out]; simpa [strC] using hj
          intro v' w6 hown6 ho6 _
          have R6 := Lib.hid hown6; have O6 := Lib.hid ho6
          clear hown6 ho6
          go_wp2
          go_roundw
          case rel => exact ⟨done ++ [(s.drop fr).take (i - fr)], i + 1, i + 1, by go_num, by go_num, R6.out, by simp; omega, O6.out, .inl ⟨by rw [HL.out]; omega, Nat.le_refl _, HE.out, by simp⟩⟩
          case measure => simp [intOf]; omega
        · have b3 : ((S[i].toNat : Int) == 32) = false := by simp; omega
          have HN : Hid ((32 : UInt8) ∉ (s.drop fr).take (i + 1 - fr)) := Lib.hid (by
            rw [HST.out]
            intro hm
            rcases List.mem_append.1 hm with hm | hm
            · exact HNO.out hm
            · simp only [List.mem_singleton] at hm
              exact h32 (by rw [← hm]; rfl))
          clear h32 hie
          go_wp2
          go_roundw
          case rel => exact ⟨done, fr, i + 1, rfl, by go_num, RW.out, by omega, OO.out, .inl ⟨by rw [HL.out]; omega, by omega, HP.out, HN.out⟩⟩
          case measure => simp [intOf]; omega
    · have HP := Lib.hid hp
      obtain ⟨p', cap', rfl, hvr⟩ := RW.out.vrow strC_len
      have H1 := Lib.hid hvr
      have hll : S.size < i := by have := HL.out; omega
      have d1 : decide ((i : Int) ≤ (S.size : Int)) = false := by simp; omega
      have d2 : decide (i ≤ S.size) = false := by simp; omega
      clear hvr RW hp hi
      go_wp2
      go_ret
      exact ⟨by rw [HP.out]; exact ⟨p', cap', rfl, H1.out⟩, OO.out⟩
/-- the word of a kind -/
def nameW : Nat → List UInt8
  | 1 => wSend
  | 2 => wRecv
  | 3 => wStep
  | 4 => wMark
  | _ => []
set_option maxRecDepth 100000 in
theorem rname (k : Nat) (hk : k ≤ 4) (w : World) :
    Calls Tryd.prog 42 #[.int .i64 k] w fun e w' => e = .returned (.string (bstr (nameW k))) ∧ Only [] w w' := by
  match k, hk with
  | 0, _ | 1, _ | 2, _ | 3, _ | 4, _ =>
    go_enter Tryd.func42, Tryd.ntmps42
    go_wp2
    go_ret
    exact ⟨rfl, (Only.refl [] w).alloc _⟩
end Go.Proofs.YtdpfbedcejahjaaDoor
