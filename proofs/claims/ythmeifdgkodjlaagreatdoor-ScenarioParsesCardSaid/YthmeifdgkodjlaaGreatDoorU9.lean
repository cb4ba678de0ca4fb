/- timesyncref56: words, natural, integer and numbers read words and numbers. Condition: the lengths. -/
import Derived.Test.YthmeifdgkodjlaaGreatDoorG3
import Derived.Test.YthmeifdgkodjlaaGreatDoorU0
namespace Go.Proofs.YthmeifdgkodjlaaGreatDoor
open Go.RowKit

theorem strC_one' (l : List UInt8) : ∀ u ∈ strC l, u.oneCell' = true := by simp [strC, Value.oneCell']
theorem extract_bstr (S : ByteArray) (a b : Nat) : S.extract a b = bstr ((S.data.toList.drop a).take (b - a)) := by
  apply bstr_eq
  rw [ByteArray.data_extract, Array.toList_extract, List.extract_eq_take_drop]
/-- what the loop of words keeps -/
def WordR (s : List UInt8) (w : World) (v3 v4 v5 : Value) (wr : World) : Prop :=
  ∃ (done : List (List UInt8)) (fr i : Nat), v4 = .int .i64 fr ∧ v5 = .int .i64 i ∧ Own strC 9 1 w.heap.size wr v3 done ∧ done.length ≤ i ∧ Only [] w wr ∧
    ((i ≤ s.length ∧ fr ≤ i ∧ pcs 32 s = done ++ pcs 32 (s.drop fr) ∧ (32 : UInt8) ∉ (s.drop fr).take (i - fr)) ∨ (i = s.length + 1 ∧ pcs 32 s = done))

set_option maxRecDepth 100000 in
set_option maxHeartbeats 2000000 in
theorem rwords (S : ByteArray) (hS : S.size ≤ 1000000) (w : World) :
    Calls Tryz.prog 76 #[.string S] w fun e w' => (∃ p cap, e = .returned (.slice p (pcs 32 S.data.toList).length cap) ∧ VRow strC 1 w' p (pcs 32 S.data.toList).length cap (pcs 32 S.data.toList)) ∧ Only [] w w' := by
  have hsl : S.data.toList.length = S.size := by rw [Array.length_toList]; rfl
  have hxt := fun a b => extract_bstr S a b
  have hgt : ∀ i (h : i < S.size), S.data.toList[i]? = some S[i] := fun i h => by rw [List.getElem?_eq_getElem (by rw [hsl]; exact h)]; rfl
  obtain ⟨s, hs⟩ : ∃ s, s = S.data.toList := ⟨_, rfl⟩
  rw [← hs] at hsl hxt hgt ⊢
  have HL := Lib.hid hsl; have HX := Lib.hid hxt; have HG := Lib.hid hgt
  clear hsl hxt hgt hs
  go_enter Tryz.func76, Tryz.ntmps76
  go_wp2
  go_loopw [3, 4, 5] (fun v3 v4 v5 wr => WordR s w v3 v4 v5 wr) (fun _ _ v5 _ => S.size + 1 - (intOf v5).toNat)
  case atStart => exact ⟨[], 0, 0, rfl, rfl, own_nil _ _, Nat.le_refl _, Only.refl _ _, .inl ⟨Nat.zero_le _, Nat.le_refl _, rfl, by simp⟩⟩
  case round =>
    obtain ⟨done, fr, i, rfl, rfl, hown, hdl, ho, hph⟩ := hrel
    have RW := Lib.hid hown; have OO := Lib.hid ho
    clear hown ho
    rcases hph with ⟨hi, hfi, hp, hno⟩ | ⟨hi, hp⟩
    · have HP := Lib.hid hp; have HNO := Lib.hid hno
      have hi2 : i ≤ S.size := by rw [← HL.out]; exact hi
      clear hp hno hi
      obtain ⟨X, hX⟩ : ∃ X, X = bstr ((s.drop fr).take (i - fr)) := ⟨_, rfl⟩
      have hex : S.extract fr i = X := by rw [hX, HX.out]
      have HXX := Lib.hid hX
      clear hX
      by_cases hie : i = S.size
      · have b1 : ((i : Int) == (S.size : Int)) = true := by simp [hie]
        have b2 : (i == S.size) = true := by simp [hie]
        have hend : pcs 32 s = done ++ [(s.drop fr).take (i - fr)] := by
          have hl := HNO.out
          rw [List.take_of_length_le (by rw [List.length_drop, HL.out]; omega)] at hl ⊢
          rw [HP.out, pcs_no hl]
        have HE := Lib.hid hend
        have HIE := Lib.hid hie
        clear hend hie
        have hfs : fr ≤ S.size := by omega
        go_wp2_with (at_builtin; refine stop_here ?_)
        refine alloc_abs (G := fun w0 => Stop (wpList _ _ _ _ _ w0)) ?_
        intro w5 hb5 ho5 hs5
        have O5 := Lib.hid (OO.out.nil_trans ho5)
        have R5 := Lib.hid (RW.out.kept ho5)
        have B5 := Lib.hid hb5
        clear hb5 ho5 hs5
        refine stop_go ?_
        refine wpList_append_one rfl _ _ 77 rfl 9 (.string ⟨#[]⟩) 1 16 Tryz.underlying77 (by kernel_rfl) rfl (by decide) strC strC_len strC_one' done _ rfl R5.out _ ((s.drop fr).take (i - fr)) rfl (fun j u hj => ?_) (by simp [maxLen]; omega) (by omega) O5.out ?_
        · rw [cell_got B5.out, HXX.out]; simpa [strC] using hj
        intro v' w6 hown6 ho6 _
        have R6 := Lib.hid hown6; have O6 := Lib.hid ho6
        clear hown6 ho6
        go_wp2
        go_roundw
        case rel => exact ⟨done ++ [(s.drop fr).take (i - fr)], i + 1, i + 1, by go_num, by go_num, R6.out, by simp; omega, O6.out, .inr ⟨by rw [HIE.out, HL.out], HE.out⟩⟩
        case measure => have := HIE.out; simp [intOf]; omega
      · have b1 : ((i : Int) == (S.size : Int)) = false := by simp; omega
        have b2 : (i == S.size) = false := by simp; omega
        have hlt : i < S.size := by omega
        have hgi := HG.out i hlt
        have hsplit : s.drop fr = (s.drop fr).take (i - fr) ++ S[i] :: s.drop (i + 1) := by
          have h1 : (s.drop fr).drop (i - fr) = S[i] :: s.drop (i + 1) := by
            rw [List.drop_drop, show fr + (i - fr) = i by omega]
            have hil : i < s.length := by rw [HL.out]; exact hlt
            rw [List.drop_eq_getElem_cons hil]
            congr 1
            rw [List.getElem?_eq_getElem hil] at hgi
            exact Option.some.inj hgi
          conv => lhs; rw [← List.take_append_drop (i - fr) (s.drop fr)]
          rw [h1]
        have hstep : (s.drop fr).take (i + 1 - fr) = (s.drop fr).take (i - fr) ++ [S[i]] := by
          conv => lhs; rw [hsplit]
          rw [show i + 1 - fr = (i - fr) + 1 by omega]
          have hlen : ((s.drop fr).take (i - fr)).length = i - fr := by rw [List.length_take, List.length_drop, HL.out]; omega
          rw [List.take_append, hlen]
          simp only [Nat.add_sub_cancel_left, List.take_succ_cons, List.take_zero]
          rw [List.take_of_length_le (by rw [hlen]; omega)]
        have HSP := Lib.hid hsplit; have HST := Lib.hid hstep
        clear hsplit hstep hgi
        by_cases h32 : S[i].toNat = 32
        · have b3 : ((S[i].toNat : Int) == 32) = true := by simp [h32]
          have hc : S[i] = 32 := UInt8.toNat_inj.1 h32
          have hend : pcs 32 s = (done ++ [(s.drop fr).take (i - fr)]) ++ pcs 32 (s.drop (i + 1)) := by
            rw [HP.out]
            conv => lhs; rw [HSP.out, hc]
            rw [pcs_cut _ HNO.out]
            simp
          have HE := Lib.hid hend
          have hfs : fr ≤ S.size := by omega
          clear hend hc h32 hie
          go_wp2_with (at_builtin; refine stop_here ?_)
          refine alloc_abs (G := fun w0 => Stop (wpList _ _ _ _ _ w0)) ?_
          intro w5 hb5 ho5 hs5
          have O5 := Lib.hid (OO.out.nil_trans ho5)
          have R5 := Lib.hid (RW.out.kept ho5)
          have B5 := Lib.hid hb5
          clear hb5 ho5 hs5
          refine stop_go ?_
          refine wpList_append_one rfl _ _ 77 rfl 9 (.string ⟨#[]⟩) 1 16 Tryz.underlying77 (by kernel_rfl) rfl (by decide) strC strC_len strC_one' done _ rfl R5.out _ ((s.drop fr).take (i - fr)) rfl (fun j u hj => ?_) (by simp [maxLen]; omega) (by omega) O5.out ?_
          · rw [cell_got B5.out, HXX.out]; simpa [strC] using hj
          intro v' w6 hown6 ho6 _
          have R6 := Lib.hid hown6; have O6 := Lib.hid ho6
          clear hown6 ho6
          go_wp2
          go_roundw
          case rel => exact ⟨done ++ [(s.drop fr).take (i - fr)], i + 1, i + 1, by go_num, by go_num, R6.out, by simp; omega, O6.out, .inl ⟨by rw [HL.out]; omega, Nat.le_refl _, HE.out, by simp⟩⟩
          case measure => simp [intOf]; omega
        · have b3 : ((S[i].toNat : Int) == 32) = false := by simp; omega
          have HN : Hid ((32 : UInt8) ∉ (s.drop fr).take (i + 1 - fr)) := Lib.hid (by
            rw [HST.out]
            intro hm
            rcases List.mem_append.1 hm with hm | hm
            · exact HNO.out hm
            · simp only [List.mem_singleton] at hm
              exact h32 (by rw [← hm]; rfl))
          clear h32 hie
          go_wp2
          go_roundw
          case rel => exact ⟨done, fr, i + 1, rfl, by go_num, RW.out, by omega, OO.out, .inl ⟨by rw [HL.out]; omega, by omega, HP.out, HN.out⟩⟩
          case measure => simp [intOf]; omega
    · have HP := Lib.hid hp
      obtain ⟨p', cap', rfl, hvr⟩ := RW.out.vrow strC_len
      have H1 := Lib.hid hvr
      have hll : S.size < i := by have := HL.out; omega
      have d1 : decide ((i : Int) ≤ (S.size : Int)) = false := by simp; omega
      have d2 : decide (i ≤ S.size) = false := by simp; omega
      clear hvr RW hp hi
      go_wp2
      go_ret
      exact ⟨by rw [HP.out]; exact ⟨p', cap', rfl, H1.out⟩, OO.out⟩

def NatP (o : Option Nat) (e : Ending) : Prop := e = .returned (.tuple #[.int .u64 ((o.getD 0 : Nat) : Int), .bool o.isSome])
def NaL (D : ByteArray) (vm vi : Value) : Prop := ∃ k m : Nat, k ≤ D.size ∧ vi = .int .i64 k ∧ vm = .int .u64 m ∧ Lib.decFrom 0 (D.data.toList.take k) = some m ∧ m ≤ 18446744073709551615
theorem ba_len (D : ByteArray) : D.data.toList.length = D.size := by rw [Array.length_toList]; rfl
theorem ba_get {D : ByteArray} {k : Nat} (h : k < D.size) : D.data.toList[k]? = some D[k] := by
  rw [List.getElem?_eq_getElem (by rw [ba_len]; exact h)]; rfl
theorem ba_head {D : ByteArray} (h : 0 < D.size) : ∃ r, D.data.toList = D[0] :: r := by
  have h0 := ba_get h
  cases hd : D.data.toList with
  | nil => rw [hd] at h0; cases h0
  | cons a r => rw [hd] at h0; simp only [List.getElem?_cons_zero, Option.some.injEq] at h0; exact ⟨r, by rw [h0]⟩
set_option maxRecDepth 100000 in
set_option maxHeartbeats 2000000 in
theorem rNatural (D : ByteArray) (w : World) (hS : D.size ≤ 1000000) :
    Calls Tryz.prog 78 #[.string D] w fun e w' => NatP (natO D.data.toList) e ∧ w = w' := by
  unfold NatP
  by_cases h0 : D.size = 0
  · have hn : natO D.data.toList = none := by
      have : D.data.toList = [] := List.eq_nil_of_length_eq_zero (by rw [ba_len]; exact h0)
      rw [this, nat_nil]
    rw [hn]
    have a1 : ((D.size : Int) == 0) = true := by rw [h0]; rfl
    go_enter Tryz.func78, Tryz.ntmps78
    go_wp2
    go_ret2
    exact ⟨rfl, rfl⟩
  · have a1 : ((D.size : Int) == 0) = false := by rw [beq_eq_false_iff_ne]; omega
    by_cases h20 : 20 < D.size
    · have hn : natO D.data.toList = none := nat_long (by rw [ba_len]; exact h20)
      rw [hn]
      have a2 : decide ((D.size : Int) > 20) = true := by simp; omega
      have a3 : decide (20 < (D.size : Int)) = true := by simp; omega
      have a4 : decide (20 < D.size) = true := by simp; omega
      go_enter Tryz.func78, Tryz.ntmps78
      go_wp2
      go_ret2
      exact ⟨rfl, rfl⟩
    · have a2 : decide ((D.size : Int) > 20) = false := by simp; omega
      have a3 : decide (20 < (D.size : Int)) = false := by simp; omega
      have a4 : decide (20 < D.size) = false := by simp; omega
      have hpos : 0 < D.size := by omega
      have z0 : (0 : Int) < (D.size : Int) := by omega
      obtain ⟨r, hr⟩ := ba_head hpos
      have hrl : D.size = r.length + 1 := by rw [← ba_len, hr]; rfl
      have loop : (∀ q, D.data.toList = 48 :: q → q = []) → True := fun _ => trivial
      clear loop
      have hcase : (1 < D.size ∧ ((D[0].toNat : Int) == 48) = true) ∨ (1 < D.size ∧ ((D[0].toNat : Int) == 48) = false ∧ ∀ q, D.data.toList = 48 :: q → q = []) ∨ (¬ 1 < D.size ∧ ∀ q, D.data.toList = 48 :: q → q = []) := by
        by_cases h1 : 1 < D.size
        · by_cases h48 : D[0] = 48
          · exact .inl ⟨h1, by rw [h48]; rfl⟩
          · refine .inr (.inl ⟨h1, ?_, fun q hq => ?_⟩)
            · rw [beq_eq_false_iff_ne]; intro h; exact h48 (UInt8.toNat_inj.1 (by have : (48 : UInt8).toNat = 48 := rfl; omega))
            · rw [hr] at hq; injection hq with hq _; exact absurd hq h48
        · refine .inr (.inr ⟨h1, fun q hq => ?_⟩)
          rw [hr] at hq; injection hq with _ hq
          rw [← hq]; exact List.eq_nil_of_length_eq_zero (by omega)
      have HNE : Hid (D.data.toList ≠ []) := Lib.hid (by rw [hr]; simp)
      rcases hcase with ⟨h1, h48⟩ | hrest
      · have hn : natO D.data.toList = none := by
          have h48' : D[0] = 48 := by rw [beq_iff_eq] at h48; exact UInt8.toNat_inj.1 (by have : (48 : UInt8).toNat = 48 := rfl; omega)
          rw [hr, h48']
          exact nat_zero (fun e => by rw [e] at hrl; simp at hrl; omega)
        rw [hn]
        clear hr hrl HNE
        have b1 : decide ((D.size : Int) > 1) = true := by simp; omega
        have b2 : decide (1 < (D.size : Int)) = true := by simp; omega
        have b3 : decide (1 < D.size) = true := by simp; omega
        go_enter Tryz.func78, Tryz.ntmps78
        go_wp2
        go_ret2
        exact ⟨rfl, rfl⟩
      · clear hr hrl
        generalize hres : natO D.data.toList = res
        have HRS := Lib.hid hres
        clear hres
        rcases hrest with ⟨h1, h48, hz⟩ | ⟨h1, hz⟩
        · have b1 : decide ((D.size : Int) > 1) = true := by simp; omega
          have b2 : decide (1 < (D.size : Int)) = true := by simp; omega
          have b3 : decide (1 < D.size) = true := by simp; omega
          have HZ := Lib.hid hz
          clear hz
          go_enter Tryz.func78, Tryz.ntmps78
          go_wp2
          clear a1 a2 a3 a4 b1 b2 b3 h48
          go_loop [4, 5] (fun vm vi => NaL D vm vi) (fun _ vi => D.size - (intOf vi).toNat)
          case atStart => exact ⟨0, 0, Nat.zero_le _, rfl, rfl, by simp [Lib.decFrom], by decide⟩
          case round =>
            obtain ⟨k, m, hk, rfl, rfl, hd, hm⟩ := hrel
            have HD := Lib.hid hd
            clear hd
            by_cases hlt : k < D.size
            · have HG := Lib.hid (ba_get hlt)
              by_cases h48 : D[k].toNat < 48
              · have q1 : decide ((D[k].toNat : Int) < 48) = true := by simp; omega
                have HN : Hid (res = none) := Lib.hid (by rw [← HRS.out]; exact nat_byte (List.mem_of_getElem? HG.out) (by omega))
                go_wp2
                go_ret2
                exact ⟨by rw [HN.out]; rfl, rfl⟩
              · have q1 : decide ((D[k].toNat : Int) < 48) = false := by simp; omega
                by_cases h57 : 57 < D[k].toNat
                · have q2 : decide ((D[k].toNat : Int) > 57) = true := by simp; omega
                  have q3 : decide (57 < (D[k].toNat : Int)) = true := by simp; omega
                  have HN : Hid (res = none) := Lib.hid (by rw [← HRS.out]; exact nat_byte (List.mem_of_getElem? HG.out) (by omega))
                  go_wp2
                  go_ret2
                  exact ⟨by rw [HN.out]; rfl, rfl⟩
                · have q2 : decide ((D[k].toNat : Int) > 57) = false := by simp; omega
                  have q3 : decide (57 < (D[k].toNat : Int)) = false := by simp; omega
                  have hst := Lib.decFrom_take D.data.toList k 0 m D[k] (D[k].toNat - 48) HD.out HG.out (by unfold Lib.digitVal; rw [if_pos (by omega)])
                  obtain ⟨d, hd⟩ : ∃ d : Nat, d = D[k].toNat - 48 := ⟨_, rfl⟩
                  rw [← hd] at hst
                  have HST := Lib.hid hst
                  clear hst
                  have hdd : (D[k].toNat : Int) - 48 = (d : Int) := by omega
                  have hd9 : d ≤ 9 := by omega
                  have k48 : (48 : Int) ≤ (D[k].toNat : Int) := by omega
                  by_cases hbig : 18446744073709551615 < m * 10 + d
                  · have q4 : decide ((m : Int) > (18446744073709551615 - (d : Int)) / 10) = true := by simp; omega
                    have q5 : decide ((18446744073709551615 - (d : Int)) / 10 < (m : Int)) = true := by simp; omega
                    have HN : Hid (res = none) := Lib.hid (by
                      rw [← HRS.out, ← List.take_append_drop (k + 1) D.data.toList]
                      exact nat_big HST.out (by omega))
                    go_wp2
                    go_ret2
                    exact ⟨by rw [HN.out]; rfl, rfl⟩
                  · have q4 : decide ((m : Int) > (18446744073709551615 - (d : Int)) / 10) = false := by simp; omega
                    have q5 : decide ((18446744073709551615 - (d : Int)) / 10 < (m : Int)) = false := by simp; omega
                    have q6 : (m : Int) * 10 + (d : Int) ≤ 18446744073709551615 := by omega
                    go_wp2
                    go_round
                    case rel => exact ⟨k + 1, m * 10 + d, by omega, by go_num, by first | rfl | (congr 1; omega), HST.out, by omega⟩
                    case measure => simp [intOf]; omega
            · obtain rfl : k = D.size := by omega
              have HN : Hid (res = some m) := Lib.hid (by
                have := HD.out
                rw [List.take_of_length_le (by rw [ba_len]; exact Nat.le_refl _)] at this
                rw [← HRS.out]; exact nat_val this hm HNE.out HZ.out)
              go_wp2
              go_ret2
              exact ⟨by rw [HN.out]; rfl, rfl⟩
        · have b1 : decide ((D.size : Int) > 1) = false := by simp; omega
          have b2 : decide (1 < (D.size : Int)) = false := by simp; omega
          have b3 : decide (1 < D.size) = false := by simp; omega
          have HZ := Lib.hid hz
          clear hz
          go_enter Tryz.func78, Tryz.ntmps78
          go_wp2
          clear a1 a2 a3 a4 b1 b2 b3
          go_loop [4, 5] (fun vm vi => NaL D vm vi) (fun _ vi => D.size - (intOf vi).toNat)
          case atStart => exact ⟨0, 0, Nat.zero_le _, rfl, rfl, by simp [Lib.decFrom], by decide⟩
          case round =>
            obtain ⟨k, m, hk, rfl, rfl, hd, hm⟩ := hrel
            have HD := Lib.hid hd
            clear hd
            by_cases hlt : k < D.size
            · have HG := Lib.hid (ba_get hlt)
              by_cases h48 : D[k].toNat < 48
              · have q1 : decide ((D[k].toNat : Int) < 48) = true := by simp; omega
                have HN : Hid (res = none) := Lib.hid (by rw [← HRS.out]; exact nat_byte (List.mem_of_getElem? HG.out) (by omega))
                go_wp2
                go_ret2
                exact ⟨by rw [HN.out]; rfl, rfl⟩
              · have q1 : decide ((D[k].toNat : Int) < 48) = false := by simp; omega
                by_cases h57 : 57 < D[k].toNat
                · have q2 : decide ((D[k].toNat : Int) > 57) = true := by simp; omega
                  have q3 : decide (57 < (D[k].toNat : Int)) = true := by simp; omega
                  have HN : Hid (res = none) := Lib.hid (by rw [← HRS.out]; exact nat_byte (List.mem_of_getElem? HG.out) (by omega))
                  go_wp2
                  go_ret2
                  exact ⟨by rw [HN.out]; rfl, rfl⟩
                · have q2 : decide ((D[k].toNat : Int) > 57) = false := by simp; omega
                  have q3 : decide (57 < (D[k].toNat : Int)) = false := by simp; omega
                  have hst := Lib.decFrom_take D.data.toList k 0 m D[k] (D[k].toNat - 48) HD.out HG.out (by unfold Lib.digitVal; rw [if_pos (by omega)])
                  obtain ⟨d, hd⟩ : ∃ d : Nat, d = D[k].toNat - 48 := ⟨_, rfl⟩
                  rw [← hd] at hst
                  have HST := Lib.hid hst
                  clear hst
                  have hdd : (D[k].toNat : Int) - 48 = (d : Int) := by omega
                  have hd9 : d ≤ 9 := by omega
                  have k48 : (48 : Int) ≤ (D[k].toNat : Int) := by omega
                  by_cases hbig : 18446744073709551615 < m * 10 + d
                  · have q4 : decide ((m : Int) > (18446744073709551615 - (d : Int)) / 10) = true := by simp; omega
                    have q5 : decide ((18446744073709551615 - (d : Int)) / 10 < (m : Int)) = true := by simp; omega
                    have HN : Hid (res = none) := Lib.hid (by
                      rw [← HRS.out, ← List.take_append_drop (k + 1) D.data.toList]
                      exact nat_big HST.out (by omega))
                    go_wp2
                    go_ret2
                    exact ⟨by rw [HN.out]; rfl, rfl⟩
                  · have q4 : decide ((m : Int) > (18446744073709551615 - (d : Int)) / 10) = false := by simp; omega
                    have q5 : decide ((18446744073709551615 - (d : Int)) / 10 < (m : Int)) = false := by simp; omega
                    have q6 : (m : Int) * 10 + (d : Int) ≤ 18446744073709551615 := by omega
                    go_wp2
                    go_round
                    case rel => exact ⟨k + 1, m * 10 + d, by omega, by go_num, by first | rfl | (congr 1; omega), HST.out, by omega⟩
                    case measure => simp [intOf]; omega
            · obtain rfl : k = D.size := by omega
              have HN : Hid (res = some m) := Lib.hid (by
                have := HD.out
                rw [List.take_of_length_le (by rw [ba_len]; exact Nat.le_refl _)] at this
                rw [← HRS.out]; exact nat_val this hm HNE.out HZ.out)
              go_wp2
              go_ret2
              exact ⟨by rw [HN.out]; rfl, rfl⟩
def IntP (o : Option Int) (e : Ending) : Prop := e = .returned (.tuple #[.int .i64 (o.getD 0), .bool o.isSome])
set_option maxRecDepth 100000 in
set_option maxHeartbeats 2000000 in
theorem rInteger (S : ByteArray) (w : World) (hS : S.size ≤ 1000000) :
    Calls Tryz.prog 103 #[.string S] w fun e w' => IntP (numO S.data.toList) e ∧ w = w' := by
  unfold IntP
  by_cases hneg : ∃ h : 0 < S.size, S[0] = 45
  · obtain ⟨h0, h45⟩ := hneg
    obtain ⟨ds, hds⟩ := ba_head h0
    rw [h45] at hds
    obtain ⟨D, hD⟩ : ∃ D, S.extract 1 S.size = D := ⟨_, rfl⟩
    have hDd : D.data.toList = ds := by
      rw [← hD, ByteArray.data_extract, Array.toList_extract, List.extract_eq_take_drop, hds]
      have : ds.length + 1 = S.size := by rw [← ba_len, hds]; rfl
      simp only [List.drop_succ_cons, List.drop_zero]
      exact List.take_of_length_le (by omega)
    have hDs : D.size ≤ 1000000 := by
      rw [← ba_len, hDd]
      have : ds.length + 1 = S.size := by rw [← ba_len, hds]; rfl
      omega
    have hrn := rNatural D w hDs
    rw [hDd] at hrn
    rw [hds, int_neg]
    have t1 : decide ((S.size : Int) > 0) = true := by simp; omega
    have t2 : decide (0 < (S.size : Int)) = true := by simp; omega
    have t3 : ((S[0].toNat : Int) == 45) = true := by rw [h45]; rfl
    have t4 : (1 : Int) ≤ (S.size : Int) := by omega
    have HUB : Hid (∀ u, natO ds = some u → u ≤ 18446744073709551615) := Lib.hid (fun u h => (natU_of h).2)
    generalize natO ds = o at hrn HUB ⊢
    unfold NatP at hrn
    clear hds h45 hDd hDs
    rcases o with _ | u
    · dsimp only
      have HRN := Lib.hid hrn
      clear hrn
      go_enter Tryz.func103, Tryz.ntmps103
      go_wp2_with fail
      refine HRN.out.mono ?_
      rintro e w1 ⟨rfl, rfl⟩
      go_wp2
      go_ret2
      exact ⟨rfl, rfl⟩
    · have hu := HUB.out u rfl
      dsimp only [Option.getD, Option.isSome] at hrn ⊢
      have HRN := Lib.hid hrn
      clear hrn
      by_cases hu0 : u = 0
      · subst hu0
        rw [if_neg (fun q => by omega)]
        go_enter Tryz.func103, Tryz.ntmps103
        go_wp2_with fail
        refine HRN.out.mono ?_
        rintro e w1 ⟨rfl, rfl⟩
        go_wp2
        go_ret2
        exact ⟨rfl, rfl⟩
      · have u0 : ((u : Int) == 0) = false := by rw [beq_eq_false_iff_ne]; omega
        by_cases hb : 9223372036854775808 < u
        · rw [if_neg (fun q => by omega)]
          have u1 : decide ((u : Int) > 9223372036854775808) = true := by simp; omega
          have u2 : decide (9223372036854775808 < (u : Int)) = true := by simp; omega
          have u3 : decide (9223372036854775808 < u) = true := by simp; omega
          go_enter Tryz.func103, Tryz.ntmps103
          go_wp2_with fail
          refine HRN.out.mono ?_
          rintro e w1 ⟨rfl, rfl⟩
          go_wp2
          go_ret2
          exact ⟨rfl, rfl⟩
        · rw [if_pos ⟨by omega, by omega⟩]
          have u1 : decide ((u : Int) > 9223372036854775808) = false := by simp; omega
          have u2 : decide (9223372036854775808 < (u : Int)) = false := by simp; omega
          have u3 : decide (9223372036854775808 < u) = false := by simp; omega
          have z1 : (1 : Int) ≤ (u : Int) := by omega
          have z2 : -((u : Int) - 1) - 1 = -(u : Int) := by omega
          have z3 : (u : Int) ≤ 9223372036854775808 := by omega
          have z4 : u ≤ 9223372036854775808 := by omega
          go_enter Tryz.func103, Tryz.ntmps103
          go_wp2_with fail
          refine HRN.out.mono ?_
          rintro e w1 ⟨rfl, rfl⟩
          go_wp2
          go_ret2
          exact ⟨by first | rfl | exact congrArg Ending.returned (by simp; try omega), rfl⟩
  · have hno : ∀ r, S.data.toList ≠ 45 :: r := by
      intro r hr
      have h0 : 0 < S.size := by rw [← ba_len, hr]; simp
      obtain ⟨q, hq⟩ := ba_head h0
      rw [hq] at hr
      injection hr with hr _
      exact hneg ⟨h0, hr⟩
    have hrn := rNatural S w hS
    rw [int_pos hno]
    have HUB : Hid (∀ u, natO S.data.toList = some u → u ≤ 18446744073709551615) := Lib.hid (fun u h => (natU_of h).2)
    generalize natO S.data.toList = o at hrn HUB ⊢
    unfold NatP at hrn
    have hcase : S.size = 0 ∨ ∃ h : 0 < S.size, ((S[0].toNat : Int) == 45) = false := by
      rcases Nat.eq_zero_or_pos S.size with h | h
      · exact .inl h
      · refine .inr ⟨h, ?_⟩
        rw [beq_eq_false_iff_ne]; intro h'; exact hneg ⟨h, UInt8.toNat_inj.1 (by have : (45 : UInt8).toNat = 45 := rfl; omega)⟩
    clear hno hneg
    rcases hcase with hz | ⟨h0, t3⟩
    · have t1 : decide ((S.size : Int) > 0) = false := decide_eq_false (by omega)
      have t2 : decide (0 < (S.size : Int)) = false := decide_eq_false (by omega)
      have t5 : decide (0 < S.size) = false := decide_eq_false (by omega)
      rcases o with _ | u
      · dsimp only
        have HRN := Lib.hid hrn
        clear hrn
        go_enter Tryz.func103, Tryz.ntmps103
        go_wp2_with fail
        refine HRN.out.mono ?_
        rintro e w1 ⟨rfl, rfl⟩
        go_wp2
        go_ret2
        exact ⟨rfl, rfl⟩
      · have hu := HUB.out u rfl
        dsimp only [Option.getD, Option.isSome] at hrn ⊢
        have HRN := Lib.hid hrn
        clear hrn
        by_cases hb : u ≤ 9223372036854775807
        · rw [if_pos hb]
          have u1 : decide ((u : Int) > 9223372036854775807) = false := by simp; omega
          have u2 : decide (9223372036854775807 < (u : Int)) = false := by simp; omega
          have u3 : decide (9223372036854775807 < u) = false := by simp; omega
          go_enter Tryz.func103, Tryz.ntmps103
          go_wp2_with fail
          refine HRN.out.mono ?_
          rintro e w1 ⟨rfl, rfl⟩
          go_wp2
          go_ret2
          exact ⟨by first | rfl | exact congrArg Ending.returned (by simp; try omega), rfl⟩
        · rw [if_neg hb]
          have u1 : decide ((u : Int) > 9223372036854775807) = true := by simp; omega
          have u2 : decide (9223372036854775807 < (u : Int)) = true := by simp; omega
          have u3 : decide (9223372036854775807 < u) = true := by simp; omega
          go_enter Tryz.func103, Tryz.ntmps103
          go_wp2_with fail
          refine HRN.out.mono ?_
          rintro e w1 ⟨rfl, rfl⟩
          go_wp2
          go_ret2
          exact ⟨rfl, rfl⟩
    · have t1 : decide ((S.size : Int) > 0) = true := decide_eq_true (by omega)
      have t2 : decide (0 < (S.size : Int)) = true := decide_eq_true (by omega)
      have t5 : decide (0 < S.size) = true := decide_eq_true (by omega)
      rcases o with _ | u
      · dsimp only
        have HRN := Lib.hid hrn
        clear hrn
        go_enter Tryz.func103, Tryz.ntmps103
        go_wp2_with fail
        refine HRN.out.mono ?_
        rintro e w1 ⟨rfl, rfl⟩
        go_wp2
        go_ret2
        exact ⟨rfl, rfl⟩
      · have hu := HUB.out u rfl
        dsimp only [Option.getD, Option.isSome] at hrn ⊢
        have HRN := Lib.hid hrn
        clear hrn
        by_cases hb : u ≤ 9223372036854775807
        · rw [if_pos hb]
          have u1 : decide ((u : Int) > 9223372036854775807) = false := by simp; omega
          have u2 : decide (9223372036854775807 < (u : Int)) = false := by simp; omega
          have u3 : decide (9223372036854775807 < u) = false := by simp; omega
          go_enter Tryz.func103, Tryz.ntmps103
          go_wp2_with fail
          refine HRN.out.mono ?_
          rintro e w1 ⟨rfl, rfl⟩
          go_wp2
          go_ret2
          exact ⟨by first | rfl | exact congrArg Ending.returned (by simp; try omega), rfl⟩
        · rw [if_neg hb]
          have u1 : decide ((u : Int) > 9223372036854775807) = true := by simp; omega
          have u2 : decide (9223372036854775807 < (u : Int)) = true := by simp; omega
          have u3 : decide (9223372036854775807 < u) = true := by simp; omega
          go_enter Tryz.func103, Tryz.ntmps103
          go_wp2_with fail
          refine HRN.out.mono ?_
          rintro e w1 ⟨rfl, rfl⟩
          go_wp2
          go_ret2
          exact ⟨rfl, rfl⟩
def NumsQ (r : Option (List Int)) (w : World) (e : Ending) (w' : World) : Prop := match r with
  | some ns => ∃ v, e = .returned (.tuple #[v, .bool true]) ∧ Own itC 3 1 w.heap.size w' v ns
  | none => e = .returned (.tuple #[.slice none 0 0, .bool false])
def NqI (w : World) (ws : List (List UInt8)) (f : Nat) (v6 v7 : Value) (wr : World) : Prop :=
  ∃ (k : Nat) (ns : List Int), k ≤ (ws.drop f).length ∧ v7 = .int .i64 ((f + k : Nat) : Int) ∧ Own itC 3 1 w.heap.size wr v6 ns ∧ numsO ((ws.drop f).take k) = some ns ∧ Only [] w wr
set_option maxRecDepth 100000 in
set_option maxHeartbeats 2000000 in
theorem rNumbers {w : World} {p : Option Addr} {n cap : Nat} {ws : List (List UInt8)} (f : Nat) (hf : f ≤ ws.length) (hv : VRow strC 1 w p n cap ws) (hn : n ≤ 100000) (hl : ∀ x ∈ ws, x.length ≤ 1000000) :
    Calls Tryz.prog 77 #[.slice p n cap, .int .i64 f] w fun e w' => NumsQ (numsO (ws.drop f)) w e w' ∧ Only [] w w' := by
  have hlen := hv.len
  subst hlen
  have HV := Lib.hid hv; have HLL := Lib.hid hl
  clear hv hl
  generalize hres : numsO (ws.drop f) = res
  have HRS := Lib.hid hres
  clear hres
  go_enter Tryz.func77, Tryz.ntmps77
  go_wp2
  go_loopw [6, 7] (fun v6 v7 wr => NqI w ws f v6 v7 wr) (fun _ v7 _ => ws.length - (intOf v7).toNat)
  case atStart => exact ⟨0, [], Nat.zero_le _, rfl, own_nil _ _, by simp [numsO], Only.refl _ _⟩
  case round =>
    obtain ⟨k, ns, hk, rfl, hown, hns, ho⟩ := hrel
    have OW := Lib.hid hown; have HNS := Lib.hid hns; have OO := Lib.hid ho
    have hnl := numsO_len hns
    rw [List.length_take] at hnl
    rw [List.length_drop] at hk
    clear hown hns ho
    by_cases hlt : f + k < ws.length
    · obtain ⟨bk, off, hp, c0, lb⟩ := HV.out.str OO.out hlt
      subst hp
      have hgk := getD_some [] hlt
      have hxl := HLL.out _ (List.mem_of_getElem? hgk)
      have htk : (ws.drop f).take (k + 1) = (ws.drop f).take k ++ [ws.getD (f + k) []] := by rw [List.take_add_one, List.getElem?_drop, hgk]; rfl
      have hsn := numsO_snoc (ws.getD (f + k) []) _ _ HNS.out
      rw [← htk] at hsn
      have hno : numO (ws.getD (f + k) []) = none → res = none := fun h => by
        rw [← HRS.out]; exact numsO_none (by rw [hsn, h]; rfl) (List.take_prefix _ _)
      have HNO := Lib.hid hno; have HSN := Lib.hid hsn
      generalize ws.getD (f + k) [] = x at c0 hxl HNO HSN
      clear hgk htk hsn hno
      have hrn := fun w' => rInteger (bstr x) w' (by rw [bstr_size]; exact hxl)
      simp only [bstr_data] at hrn
      generalize bstr x = X at c0 hrn
      unfold IntP at hrn
      have n1 : ((f : Int) + (k : Int)) < (ws.length : Int) := by omega
      rcases hx : numO x with _ | z
      · rw [hx] at hrn
        have HQ := Lib.hid (HNO.out hx)
        have HRN := Lib.hid hrn
        clear hrn HNO HSN hx
        go_wp2_with fail
        refine (HRN.out wr).mono ?_
        rintro e w1 ⟨rfl, rfl⟩
        go_wp2
        refine bodyPost_ret (v := .tuple #[.slice none 0 0, .bool false]) (by simp [results, Tryz.results77, go_sem]) rfl ⟨?_, OO.out⟩
        rw [HQ.out]; rfl
      · rw [hx] at hrn
        have HS2 := HSN.out
        rw [hx] at HS2
        have HS := Lib.hid HS2
        have HRN := Lib.hid hrn
        clear hrn HNO HSN hx HS2
        go_wp2_with fail
        refine (HRN.out wr).mono ?_
        rintro e w1 ⟨rfl, rfl⟩
        clear c0 lb
        go_wp2_with (at_builtin; refine stop_here ?_)
        refine alloc_abs (G := fun w0 => Stop (wpList _ _ _ _ _ w0)) ?_
        intro w5 hb5 ho5 hs5
        have O5 := Lib.hid (OO.out.nil_trans ho5)
        have R5 := Lib.hid (OW.out.kept ho5)
        have B5 := Lib.hid hb5
        clear hb5 ho5 hs5
        refine stop_go ?_
        refine wpList_append_one rfl _ _ 46 rfl 3 (.int .i64 0) 1 8 Tryz.underlying46 (by kernel_rfl) rfl (by decide) itC itC_len itC_one ns _ rfl R5.out _ z rfl (fun j u hj => ?_) (by simp [maxLen]; omega) (by omega) O5.out ?_
        · rw [cell_got B5.out]; rw [← hj]; simp [itC]
        intro v' w6 hown6 ho6 _
        have R6 := Lib.hid hown6; have O6 := Lib.hid ho6
        clear hown6 ho6
        go_wp2
        go_roundw
        case rel => exact ⟨k + 1, ns ++ [z], by rw [List.length_drop]; omega, by go_num, R6.out, by rw [HS.out]; rfl, O6.out⟩
        case measure => first | (simp [intOf]; done) | (simp [intOf]; omega)
    · have hkl : f + k = ws.length := by omega
      have HQ : Hid (res = some ns) := Lib.hid (by
        have := HNS.out
        rw [List.take_of_length_le (by rw [List.length_drop]; omega)] at this
        rw [← HRS.out, this])
      have n1 : decide (((f : Int) + (k : Int)) < (ws.length : Int)) = false := by simp; omega
      have n2 : decide (f + k < ws.length) = false := by simp; omega
      go_wp2
      refine bodyPost_ret (v := .tuple #[u6, .bool true]) (by simp [results, Tryz.results77, go_sem]) rfl ⟨?_, OO.out⟩
      rw [HQ.out]
      exact ⟨u6, rfl, OW.out⟩
end Go.Proofs.YthmeifdgkodjlaaGreatDoor
