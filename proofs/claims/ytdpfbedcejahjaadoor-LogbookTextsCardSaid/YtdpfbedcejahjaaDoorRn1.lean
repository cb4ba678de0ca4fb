/- number of the reference: the int that a word is. Condition: the length. -/
import Derived.Test.YtdpfbedcejahjaaDoorRd
import Derived.Test.YtdpfbedcejahjaaDoorTv
import Derived.Test.YtdpfbedcejahjaaDoorOwn
namespace Go.Proofs.YtdpfbedcejahjaaDoor
open Go.RowKit

/-- what number returns -/
def NumV (o : Option Int) (e : Ending) : Prop := ∃ z : Int, e = .returned (.tuple #[.int .i64 (o.getD z), .bool o.isSome])
def NumL (D : ByteArray) (vm vi : Value) : Prop := ∃ k m : Nat, k ≤ D.size ∧ vi = .int .i64 k ∧ vm = .int .u64 m ∧ Lib.decFrom 0 (D.data.toList.take k) = some m

set_option maxRecDepth 100000 in
set_option maxHeartbeats 2000000 in
theorem rnumber_a (S D : ByteArray) (neg : Bool) (s : List UInt8) (w : World) (HSG : Hid (Sgn s D.data.toList neg)) (HDL : Hid (D.data.toList.length = D.size)) (HNE : Hid (∀ T : ByteArray, (S.toList == T.toList) = decide (T.data.toList = s))) (hneg : neg = false) (hDz : D.size ≤ 19) (hDS : D = S) (t1 : S.toList = []) (t2 : S.toList.isEmpty = true) :
    Calls Tryd.prog 43 #[.string S] w fun e w' => NumV (numO s) e ∧ Only [] w w' := by
  subst hDS
  have d1 : decide (19 < (D.size : Int)) = false := by simp; omega
  have d2 : decide (19 < D.size) = false := by simp; omega
  go_enter Tryd.func43, Tryd.ntmps43
  go_wp2
  clear t1 t2 d1 d2
  go_loop [6, 7] (fun vm vi => NumL D vm vi) (fun _ vi => D.size - (intOf vi).toNat)
  case atStart => exact ⟨0, 0, Nat.zero_le _, rfl, rfl, rfl⟩
  case round =>
    obtain ⟨k, m, hk, rfl, rfl, hd⟩ := hrel
    have HD := Lib.hid hd
    have hm10 : m < 10000000000000000000 := decFrom_lt10 hd (by rw [List.length_take, HDL.out]; omega)
    clear hd
    by_cases hlt : k < D.size
    · have hget : D.data.toList[k]? = some D[k] := by
        rw [List.getElem?_eq_getElem (by rw [HDL.out]; exact hlt)]; rfl
      have hm9 : m < 1000000000000000000 := Lib.decFrom_lt18 HD.out (by rw [List.length_take, HDL.out]; omega)
      have HG := Lib.hid hget
      clear hget
      by_cases h48 : D[k].toNat < 48
      · have q1 : decide ((D[k].toNat : Int) < 48) = true := by simp; omega
        have HN : Hid (numO s = none) := Lib.hid (num_byte HSG.out (List.mem_of_getElem? HG.out) (by omega))
        go_wp2
        go_ret2
        exact ⟨by rw [HN.out]; exact ⟨0, rfl⟩, Only.refl _ _⟩
      · have q1 : decide ((D[k].toNat : Int) < 48) = false := by simp; omega
        by_cases h57 : 57 < D[k].toNat
        · have q2 : decide (57 < (D[k].toNat : Int)) = true := by simp; omega
          have HN : Hid (numO s = none) := Lib.hid (num_byte HSG.out (List.mem_of_getElem? HG.out) (by omega))
          go_wp2
          go_ret2
          exact ⟨by rw [HN.out]; exact ⟨0, rfl⟩, Only.refl _ _⟩
        · have q2 : decide (57 < (D[k].toNat : Int)) = false := by simp; omega
          have HN := Lib.hid (Lib.decFrom_take D.data.toList k 0 m D[k] (D[k].toNat - 48) HD.out HG.out (by unfold Lib.digitVal; rw [if_pos (by omega)]))
          go_wp2
          go_round
          case rel => exact ⟨k + 1, m * 10 + (D[k].toNat - 48), by omega, by go_num, by congr 1; omega, HN.out⟩
          case measure => simp [intOf]; omega
    · obtain rfl : k = D.size := by omega
      have e : Lib.decFrom 0 D.data.toList = some m := by
        have := HD.out
        rwa [List.take_of_length_le (by rw [HDL.out]; exact Nat.le_refl _)] at this
      have HM := Lib.hid e
      clear e HD
      by_cases hbig : 9223372036854775808 < m ∨ (m = 9223372036854775808 ∧ neg = false)
      · have HN : Hid (numO s = none) := Lib.hid (num_range HSG.out HM.out hbig)
        by_cases hb1 : 9223372036854775808 < m
        · have q1 : decide (9223372036854775808 < (m : Int)) = true := by simp; omega
          have q2 : decide (9223372036854775808 < m) = true := by simp; omega
          clear hbig
          go_wp2
          go_ret2
          exact ⟨by rw [HN.out]; exact ⟨0, rfl⟩, Only.refl _ _⟩
        · obtain ⟨hm, hn⟩ : m = 9223372036854775808 ∧ neg = false := by
            rcases hbig with h | h
            · exact absurd h hb1
            · exact h
          subst hm
          clear hbig hb1 hm10 hn
          go_wp2
          go_ret2
          exact ⟨by rw [HN.out]; exact ⟨0, rfl⟩, Only.refl _ _⟩
      · have hm1 : m ≤ 9223372036854775808 := by omega
        have hm2 : neg = false → m ≤ 9223372036854775807 := fun h => by
          rcases Nat.lt_or_ge m 9223372036854775808 with h1 | h1
          · omega
          · exact absurd (.inr ⟨by omega, h⟩) hbig
        have hval := num_value HSG.out HM.out hm1 hm2
        have q1 : decide (9223372036854775808 < (m : Int)) = false := by simp; omega
        have q2 : decide (9223372036854775808 < m) = false := by simp; omega
        rw [hneg] at hval hm2
        clear hbig
        simp only [if_false, Bool.false_eq_true] at hval
        have hm3 := hm2 rfl
        clear hm2
        have hdec := rdecimal (m : Int) ⟨by omega, by omega⟩
        have heq := HNE.out (bstr (Lib.itoa (m : Int)))
        rw [bstr_data] at heq
        by_cases hit : Lib.itoa (m : Int) = s
        · rw [decide_eq_true hit] at heq
          have HN : Hid (numO s = some (m : Int)) := Lib.hid (by rw [hval, if_pos hit])
          clear hval hit
          generalize bstr (Lib.itoa (m : Int)) = T at hdec heq
          have HDC := Lib.hid hdec
          clear hdec
          go_wp2_with fail
          refine (HDC.out w).mono ?_
          rintro e w' ⟨rfl, ho⟩
          go_wp2
          go_ret2
          exact ⟨by rw [HN.out]; exact ⟨0, rfl⟩, ho⟩
        · rw [decide_eq_false hit] at heq
          have HN : Hid (numO s = none) := Lib.hid (by rw [hval, if_neg hit])
          clear hval hit
          generalize bstr (Lib.itoa (m : Int)) = T at hdec heq
          have HDC := Lib.hid hdec
          clear hdec
          go_wp2_with fail
          refine (HDC.out w).mono ?_
          rintro e w' ⟨rfl, ho⟩
          go_wp2
          go_ret2
          exact ⟨by rw [HN.out]; exact ⟨(m : Int), rfl⟩, ho⟩

set_option maxRecDepth 100000 in
set_option maxHeartbeats 2000000 in
theorem rnumber_c (S D : ByteArray) (neg : Bool) (s : List UInt8) (w : World) (HSG : Hid (Sgn s D.data.toList neg)) (HDL : Hid (D.data.toList.length = D.size)) (HNE : Hid (∀ T : ByteArray, (S.toList == T.toList) = decide (T.data.toList = s))) (hneg : neg = false) (hDz : D.size ≤ 19) (hDS : D = S) (t1 : ¬ S.toList = []) (t2 : S.toList.isEmpty = false) (h0 : 0 < S.size) (t3 : ((S[0].toNat : Int) == 45) = false) :
    Calls Tryd.prog 43 #[.string S] w fun e w' => NumV (numO s) e ∧ Only [] w w' := by
  subst hDS
  have d1 : decide (19 < (D.size : Int)) = false := by simp; omega
  have d2 : decide (19 < D.size) = false := by simp; omega
  go_enter Tryd.func43, Tryd.ntmps43
  go_wp2
  clear t1 t2 d1 d2
  go_loop [6, 7] (fun vm vi => NumL D vm vi) (fun _ vi => D.size - (intOf vi).toNat)
  case atStart => exact ⟨0, 0, Nat.zero_le _, rfl, rfl, rfl⟩
  case round =>
    obtain ⟨k, m, hk, rfl, rfl, hd⟩ := hrel
    have HD := Lib.hid hd
    have hm10 : m < 10000000000000000000 := decFrom_lt10 hd (by rw [List.length_take, HDL.out]; omega)
    clear hd
    by_cases hlt : k < D.size
    · have hget : D.data.toList[k]? = some D[k] := by
        rw [List.getElem?_eq_getElem (by rw [HDL.out]; exact hlt)]; rfl
      have hm9 : m < 1000000000000000000 := Lib.decFrom_lt18 HD.out (by rw [List.length_take, HDL.out]; omega)
      have HG := Lib.hid hget
      clear hget
      by_cases h48 : D[k].toNat < 48
      · have q1 : decide ((D[k].toNat : Int) < 48) = true := by simp; omega
        have HN : Hid (numO s = none) := Lib.hid (num_byte HSG.out (List.mem_of_getElem? HG.out) (by omega))
        go_wp2
        go_ret2
        exact ⟨by rw [HN.out]; exact ⟨0, rfl⟩, Only.refl _ _⟩
      · have q1 : decide ((D[k].toNat : Int) < 48) = false := by simp; omega
        by_cases h57 : 57 < D[k].toNat
        · have q2 : decide (57 < (D[k].toNat : Int)) = true := by simp; omega
          have HN : Hid (numO s = none) := Lib.hid (num_byte HSG.out (List.mem_of_getElem? HG.out) (by omega))
          go_wp2
          go_ret2
          exact ⟨by rw [HN.out]; exact ⟨0, rfl⟩, Only.refl _ _⟩
        · have q2 : decide (57 < (D[k].toNat : Int)) = false := by simp; omega
          have HN := Lib.hid (Lib.decFrom_take D.data.toList k 0 m D[k] (D[k].toNat - 48) HD.out HG.out (by unfold Lib.digitVal; rw [if_pos (by omega)]))
          go_wp2
          go_round
          case rel => exact ⟨k + 1, m * 10 + (D[k].toNat - 48), by omega, by go_num, by congr 1; omega, HN.out⟩
          case measure => simp [intOf]; omega
    · obtain rfl : k = D.size := by omega
      have e : Lib.decFrom 0 D.data.toList = some m := by
        have := HD.out
        rwa [List.take_of_length_le (by rw [HDL.out]; exact Nat.le_refl _)] at this
      have HM := Lib.hid e
      clear e HD
      by_cases hbig : 9223372036854775808 < m ∨ (m = 9223372036854775808 ∧ neg = false)
      · have HN : Hid (numO s = none) := Lib.hid (num_range HSG.out HM.out hbig)
        by_cases hb1 : 9223372036854775808 < m
        · have q1 : decide (9223372036854775808 < (m : Int)) = true := by simp; omega
          have q2 : decide (9223372036854775808 < m) = true := by simp; omega
          clear hbig
          go_wp2
          go_ret2
          exact ⟨by rw [HN.out]; exact ⟨0, rfl⟩, Only.refl _ _⟩
        · obtain ⟨hm, hn⟩ : m = 9223372036854775808 ∧ neg = false := by
            rcases hbig with h | h
            · exact absurd h hb1
            · exact h
          subst hm
          clear hbig hb1 hm10 hn
          go_wp2
          go_ret2
          exact ⟨by rw [HN.out]; exact ⟨0, rfl⟩, Only.refl _ _⟩
      · have hm1 : m ≤ 9223372036854775808 := by omega
        have hm2 : neg = false → m ≤ 9223372036854775807 := fun h => by
          rcases Nat.lt_or_ge m 9223372036854775808 with h1 | h1
          · omega
          · exact absurd (.inr ⟨by omega, h⟩) hbig
        have hval := num_value HSG.out HM.out hm1 hm2
        have q1 : decide (9223372036854775808 < (m : Int)) = false := by simp; omega
        have q2 : decide (9223372036854775808 < m) = false := by simp; omega
        rw [hneg] at hval hm2
        clear hbig
        simp only [if_false, Bool.false_eq_true] at hval
        have hm3 := hm2 rfl
        clear hm2
        have hdec := rdecimal (m : Int) ⟨by omega, by omega⟩
        have heq := HNE.out (bstr (Lib.itoa (m : Int)))
        rw [bstr_data] at heq
        by_cases hit : Lib.itoa (m : Int) = s
        · rw [decide_eq_true hit] at heq
          have HN : Hid (numO s = some (m : Int)) := Lib.hid (by rw [hval, if_pos hit])
          clear hval hit
          generalize bstr (Lib.itoa (m : Int)) = T at hdec heq
          have HDC := Lib.hid hdec
          clear hdec
          go_wp2_with fail
          refine (HDC.out w).mono ?_
          rintro e w' ⟨rfl, ho⟩
          go_wp2
          go_ret2
          exact ⟨by rw [HN.out]; exact ⟨0, rfl⟩, ho⟩
        · rw [decide_eq_false hit] at heq
          have HN : Hid (numO s = none) := Lib.hid (by rw [hval, if_neg hit])
          clear hval hit
          generalize bstr (Lib.itoa (m : Int)) = T at hdec heq
          have HDC := Lib.hid hdec
          clear hdec
          go_wp2_with fail
          refine (HDC.out w).mono ?_
          rintro e w' ⟨rfl, ho⟩
          go_wp2
          go_ret2
          exact ⟨by rw [HN.out]; exact ⟨(m : Int), rfl⟩, ho⟩

end Go.Proofs.YtdpfbedcejahjaaDoor
