/- parse of the reference of layer 6, walked. Condition: the length. -/
import Derived.Test.YtnfejojakikeeaaGreatDoorQa
namespace Go.Proofs.YtnfejojakikeeaaGreatDoor
open Go.RowKit

/-- what parse returns -/
def NumP (o : Option Int) (e : Ending) : Prop := e = .returned (.tuple #[.int .i64 (o.getD 0), .bool o.isSome])
def NumL (D : ByteArray) (vm vi : Value) : Prop := ∃ k m : Nat, k ≤ D.size ∧ vi = .int .i64 k ∧ vm = .int .u64 m ∧ Lib.decFrom 0 (D.data.toList.take k) = some m
set_option maxRecDepth 100000 in
set_option maxHeartbeats 2000000 in
theorem rparse_n (S D : ByteArray) (s : List UInt8) (w : World) (HSG : Hid (Sgn s D.data.toList true)) (HDL : Hid (D.data.toList.length = D.size)) (hDS : S.extract 1 S.size = D) (hD0 : 0 < D.size) (hDz : D.size ≤ 19) (h0 : 0 < S.size) (t3 : ((S[0].toNat : Int) == 45) = true) (HNN : Hid (D.data.toList ≠ [])) (HZ : Hid (∀ r, D.data.toList ≠ 48 :: r)) (hz : ((D[0].toNat : Int) == 48) = false) :
    Calls Tryz.prog 70 #[.string S] w fun e w' => NumP (numO s) e ∧ w = w' := by
  unfold NumP
  have a1 : decide (0 < (S.size : Int)) = true := by simp; omega
  have a2 : decide ((S.size : Int) > 0) = true := by simp; omega
  have a3 : ((D.size : Int) == 0) = false := by rw [beq_eq_false_iff_ne]; omega
  have a4 : decide ((D.size : Int) > 19) = false := by simp; omega
  have a5 : decide (19 < (D.size : Int)) = false := by simp; omega
  have z0 : (0 : Int) < (D.size : Int) := by omega
  have t4 : (1 : Int) ≤ (S.size : Int) := by omega
  go_enter Tryz.func70, Tryz.ntmps70
  go_wp2
  go_loop [5, 6] (fun vm vi => NumL D vm vi) (fun _ vi => D.size - (intOf vi).toNat)
  case atStart => exact ⟨0, 0, Nat.zero_le _, rfl, rfl, rfl⟩
  case round =>
    obtain ⟨k, m, hk, rfl, rfl, hd⟩ := hrel
    have HD := Lib.hid hd
    have hm10 : m < 10000000000000000000 := decFrom_lt10 hd (by rw [List.length_take, HDL.out]; omega)
    clear hd
    by_cases hlt : k < D.size
    · have q0 : decide ((k : Int) < (D.size : Int)) = true := by simp [hlt]
      have hget : D.data.toList[k]? = some D[k] := by
        rw [List.getElem?_eq_getElem (by rw [HDL.out]; exact hlt)]; rfl
      have hm9 : m < 1000000000000000000 := Lib.decFrom_lt18 HD.out (by rw [List.length_take, HDL.out]; omega)
      have HG := Lib.hid hget
      clear hget
      by_cases h48 : D[k].toNat < 48
      · have q1 : decide ((D[k].toNat : Int) < 48) = true := by simp; omega
        have HN : Hid (numO s = none) := Lib.hid (num_byte HSG.out (List.mem_of_getElem? HG.out) (by omega))
        go_wp2
        go_ret2
        exact ⟨by rw [HN.out]; rfl, rfl⟩
      · have q1 : decide ((D[k].toNat : Int) < 48) = false := by simp; omega
        by_cases h57 : 57 < D[k].toNat
        · have q2 : decide (57 < (D[k].toNat : Int)) = true := by simp; omega
          have HN : Hid (numO s = none) := Lib.hid (num_byte HSG.out (List.mem_of_getElem? HG.out) (by omega))
          go_wp2
          go_ret2
          exact ⟨by rw [HN.out]; rfl, rfl⟩
        · have q2 : decide (57 < (D[k].toNat : Int)) = false := by simp; omega
          have HN := Lib.hid (Lib.decFrom_take D.data.toList k 0 m D[k] (D[k].toNat - 48) HD.out HG.out (by unfold Lib.digitVal; rw [if_pos (by omega)]))
          go_wp2
          go_round
          case rel => exact ⟨k + 1, m * 10 + (D[k].toNat - 48), by omega, by go_num, by congr 1; omega, HN.out⟩
          case measure => simp [intOf]; omega
    · obtain rfl : k = D.size := by omega
      have q0 : decide ((D.size : Int) < (D.size : Int)) = false := by simp
      have e : Lib.decFrom 0 D.data.toList = some m := by
        have := HD.out
        rwa [List.take_of_length_le (by rw [HDL.out]; exact Nat.le_refl _)] at this
      have HM := Lib.hid e
      clear e HD
      by_cases hbig : 9223372036854775808 < m
      · have HN : Hid (numO s = none) := Lib.hid (num_range HSG.out HM.out (.inl hbig))
        have q1 : decide ((m : Int) ≤ 9223372036854775808) = false := by simp; omega
        have q2 : decide (m ≤ 9223372036854775808) = false := by simp; omega
        go_wp2
        go_ret2
        exact ⟨by rw [HN.out]; rfl, rfl⟩
      · have hc := num_canon HSG.out HM.out HNN.out (fun r e => absurd e (HZ.out r)) (by omega) (fun h => by cases h)
        simp only [if_true] at hc
        have HN := Lib.hid hc.1
        have hm1 := hc.2 trivial
        have q1 : decide ((m : Int) ≤ 9223372036854775808) = true := by simp; omega
        have q2 : decide (m ≤ 9223372036854775808) = true := by simp; omega
        have z1 : (1 : Int) ≤ (m : Int) := by omega
        have hmb : (m : Int) ≤ 9223372036854775808 := by omega
        have hmn : m ≤ 9223372036854775808 := by omega
        have z2 : -((m : Int) - 1) - 1 = -(m : Int) := by omega
        clear hc hbig
        go_wp2
        go_ret2
        exact ⟨by rw [HN.out]; exact congrArg Ending.returned (by simp; try omega), rfl⟩
set_option maxRecDepth 100000 in
set_option maxHeartbeats 2000000 in
theorem rparse_p (S D : ByteArray) (s : List UInt8) (w : World) (HSG : Hid (Sgn s D.data.toList false)) (HDL : Hid (D.data.toList.length = D.size)) (hDS : D = S) (hD0 : 0 < D.size) (hDz : D.size ≤ 19) (h0 : 0 < S.size) (t3 : ((S[0].toNat : Int) == 45) = false) (HNN : Hid (D.data.toList ≠ [])) (HZ : Hid (∀ r, D.data.toList = 48 :: r → r = [])) (hz : ((D[0].toNat : Int) == 48) = false ∨ D.size = 1) :
    Calls Tryz.prog 70 #[.string S] w fun e w' => NumP (numO s) e ∧ w = w' := by
  unfold NumP
  have a1 : decide (0 < (S.size : Int)) = true := by simp; omega
  have a2 : decide ((S.size : Int) > 0) = true := by simp; omega
  have a3 : ((D.size : Int) == 0) = false := by rw [beq_eq_false_iff_ne]; omega
  have a4 : decide ((D.size : Int) > 19) = false := by simp; omega
  have a5 : decide (19 < (D.size : Int)) = false := by simp; omega
  have z0 : (0 : Int) < (D.size : Int) := by omega
  subst hDS
  have fin : ∀ (Q : Prop), Q → Q := fun _ h => h
  clear fin
  rcases hz with hz | hz
  · go_enter Tryz.func70, Tryz.ntmps70
    go_wp2
    go_loop [5, 6] (fun vm vi => NumL D vm vi) (fun _ vi => D.size - (intOf vi).toNat)
    case atStart => exact ⟨0, 0, Nat.zero_le _, rfl, rfl, rfl⟩
    case round =>
      obtain ⟨k, m, hk, rfl, rfl, hd⟩ := hrel
      have HD := Lib.hid hd
      have hm10 : m < 10000000000000000000 := decFrom_lt10 hd (by rw [List.length_take, HDL.out]; omega)
      clear hd
      by_cases hlt : k < D.size
      · have q0 : decide ((k : Int) < (D.size : Int)) = true := by simp [hlt]
        have hget : D.data.toList[k]? = some D[k] := by
          rw [List.getElem?_eq_getElem (by rw [HDL.out]; exact hlt)]; rfl
        have hm9 : m < 1000000000000000000 := Lib.decFrom_lt18 HD.out (by rw [List.length_take, HDL.out]; omega)
        have HG := Lib.hid hget
        clear hget
        by_cases h48 : D[k].toNat < 48
        · have q1 : decide ((D[k].toNat : Int) < 48) = true := by simp; omega
          have HN : Hid (numO s = none) := Lib.hid (num_byte HSG.out (List.mem_of_getElem? HG.out) (by omega))
          go_wp2
          go_ret2
          exact ⟨by rw [HN.out]; rfl, rfl⟩
        · have q1 : decide ((D[k].toNat : Int) < 48) = false := by simp; omega
          by_cases h57 : 57 < D[k].toNat
          · have q2 : decide (57 < (D[k].toNat : Int)) = true := by simp; omega
            have HN : Hid (numO s = none) := Lib.hid (num_byte HSG.out (List.mem_of_getElem? HG.out) (by omega))
            go_wp2
            go_ret2
            exact ⟨by rw [HN.out]; rfl, rfl⟩
          · have q2 : decide (57 < (D[k].toNat : Int)) = false := by simp; omega
            have HN := Lib.hid (Lib.decFrom_take D.data.toList k 0 m D[k] (D[k].toNat - 48) HD.out HG.out (by unfold Lib.digitVal; rw [if_pos (by omega)]))
            go_wp2
            go_round
            case rel => exact ⟨k + 1, m * 10 + (D[k].toNat - 48), by omega, by go_num, by congr 1; omega, HN.out⟩
            case measure => simp [intOf]; omega
      · obtain rfl : k = D.size := by omega
        have q0 : decide ((D.size : Int) < (D.size : Int)) = false := by simp
        have e : Lib.decFrom 0 D.data.toList = some m := by
          have := HD.out
          rwa [List.take_of_length_le (by rw [HDL.out]; exact Nat.le_refl _)] at this
        have HM := Lib.hid e
        clear e HD
        by_cases hbig : 9223372036854775808 ≤ m
        · have HN : Hid (numO s = none) := Lib.hid (num_range HSG.out HM.out (by rcases Nat.lt_or_ge 9223372036854775808 m with h | h; exact .inl h; exact .inr ⟨by omega, rfl⟩))
          have q1 : decide ((m : Int) < 9223372036854775808) = false := by simp; omega
          have q2 : decide (m < 9223372036854775808) = false := by simp; omega
          go_wp2
          go_ret2
          exact ⟨by rw [HN.out]; rfl, rfl⟩
        · have hc := num_canon HSG.out HM.out HNN.out (fun r e => ⟨HZ.out r e, rfl⟩) (by omega) (fun _ => by omega)
          simp only [Bool.false_eq_true, if_false] at hc
          have HN := Lib.hid hc.1
          have q1 : decide ((m : Int) < 9223372036854775808) = true := by simp; omega
          have q2 : decide (m < 9223372036854775808) = true := by simp; omega
          have hmb : (m : Int) < 9223372036854775808 := by omega
          have hmn : m < 9223372036854775808 := by omega
          clear hc hbig
          go_wp2
          go_ret2
          exact ⟨by rw [HN.out]; exact congrArg Ending.returned (by simp; try omega), rfl⟩
  · have a6 : decide ((D.size : Int) > 1) = false := by simp; omega
    have a7 : decide (1 < (D.size : Int)) = false := by simp; omega
    by_cases h48 : ((D[0].toNat : Int) == 48) = true
    · go_enter Tryz.func70, Tryz.ntmps70
      go_wp2
      clear h48
      go_loop [5, 6] (fun vm vi => NumL D vm vi) (fun _ vi => D.size - (intOf vi).toNat)
      case atStart => exact ⟨0, 0, Nat.zero_le _, rfl, rfl, rfl⟩
      case round =>
        obtain ⟨k, m, hk, rfl, rfl, hd⟩ := hrel
        have HD := Lib.hid hd
        have hm10 : m < 10000000000000000000 := decFrom_lt10 hd (by rw [List.length_take, HDL.out]; omega)
        clear hd
        by_cases hlt : k < D.size
        · have q0 : decide ((k : Int) < (D.size : Int)) = true := by simp [hlt]
          have hget : D.data.toList[k]? = some D[k] := by
            rw [List.getElem?_eq_getElem (by rw [HDL.out]; exact hlt)]; rfl
          have hm9 : m < 1000000000000000000 := Lib.decFrom_lt18 HD.out (by rw [List.length_take, HDL.out]; omega)
          have HG := Lib.hid hget
          clear hget
          by_cases h48 : D[k].toNat < 48
          · have q1 : decide ((D[k].toNat : Int) < 48) = true := by simp; omega
            have HN : Hid (numO s = none) := Lib.hid (num_byte HSG.out (List.mem_of_getElem? HG.out) (by omega))
            go_wp2
            go_ret2
            exact ⟨by rw [HN.out]; rfl, rfl⟩
          · have q1 : decide ((D[k].toNat : Int) < 48) = false := by simp; omega
            by_cases h57 : 57 < D[k].toNat
            · have q2 : decide (57 < (D[k].toNat : Int)) = true := by simp; omega
              have HN : Hid (numO s = none) := Lib.hid (num_byte HSG.out (List.mem_of_getElem? HG.out) (by omega))
              go_wp2
              go_ret2
              exact ⟨by rw [HN.out]; rfl, rfl⟩
            · have q2 : decide (57 < (D[k].toNat : Int)) = false := by simp; omega
              have HN := Lib.hid (Lib.decFrom_take D.data.toList k 0 m D[k] (D[k].toNat - 48) HD.out HG.out (by unfold Lib.digitVal; rw [if_pos (by omega)]))
              go_wp2
              go_round
              case rel => exact ⟨k + 1, m * 10 + (D[k].toNat - 48), by omega, by go_num, by congr 1; omega, HN.out⟩
              case measure => simp [intOf]; omega
        · obtain rfl : k = D.size := by omega
          have q0 : decide ((D.size : Int) < (D.size : Int)) = false := by simp
          have e : Lib.decFrom 0 D.data.toList = some m := by
            have := HD.out
            rwa [List.take_of_length_le (by rw [HDL.out]; exact Nat.le_refl _)] at this
          have HM := Lib.hid e
          clear e HD
          by_cases hbig : 9223372036854775808 ≤ m
          · have HN : Hid (numO s = none) := Lib.hid (num_range HSG.out HM.out (by rcases Nat.lt_or_ge 9223372036854775808 m with h | h; exact .inl h; exact .inr ⟨by omega, rfl⟩))
            have q1 : decide ((m : Int) < 9223372036854775808) = false := by simp; omega
            have q2 : decide (m < 9223372036854775808) = false := by simp; omega
            go_wp2
            go_ret2
            exact ⟨by rw [HN.out]; rfl, rfl⟩
          · have hc := num_canon HSG.out HM.out HNN.out (fun r e => ⟨HZ.out r e, rfl⟩) (by omega) (fun _ => by omega)
            simp only [Bool.false_eq_true, if_false] at hc
            have HN := Lib.hid hc.1
            have q1 : decide ((m : Int) < 9223372036854775808) = true := by simp; omega
            have q2 : decide (m < 9223372036854775808) = true := by simp; omega
            have hmb : (m : Int) < 9223372036854775808 := by omega
            have hmn : m < 9223372036854775808 := by omega
            clear hc hbig
            go_wp2
            go_ret2
            exact ⟨by rw [HN.out]; exact congrArg Ending.returned (by simp; try omega), rfl⟩
    · have h48 : ((D[0].toNat : Int) == 48) = false := by simpa using h48
      go_enter Tryz.func70, Tryz.ntmps70
      go_wp2
      clear h48
      go_loop [5, 6] (fun vm vi => NumL D vm vi) (fun _ vi => D.size - (intOf vi).toNat)
      case atStart => exact ⟨0, 0, Nat.zero_le _, rfl, rfl, rfl⟩
      case round =>
        obtain ⟨k, m, hk, rfl, rfl, hd⟩ := hrel
        have HD := Lib.hid hd
        have hm10 : m < 10000000000000000000 := decFrom_lt10 hd (by rw [List.length_take, HDL.out]; omega)
        clear hd
        by_cases hlt : k < D.size
        · have q0 : decide ((k : Int) < (D.size : Int)) = true := by simp [hlt]
          have hget : D.data.toList[k]? = some D[k] := by
            rw [List.getElem?_eq_getElem (by rw [HDL.out]; exact hlt)]; rfl
          have hm9 : m < 1000000000000000000 := Lib.decFrom_lt18 HD.out (by rw [List.length_take, HDL.out]; omega)
          have HG := Lib.hid hget
          clear hget
          by_cases h48 : D[k].toNat < 48
          · have q1 : decide ((D[k].toNat : Int) < 48) = true := by simp; omega
            have HN : Hid (numO s = none) := Lib.hid (num_byte HSG.out (List.mem_of_getElem? HG.out) (by omega))
            go_wp2
            go_ret2
            exact ⟨by rw [HN.out]; rfl, rfl⟩
          · have q1 : decide ((D[k].toNat : Int) < 48) = false := by simp; omega
            by_cases h57 : 57 < D[k].toNat
            · have q2 : decide (57 < (D[k].toNat : Int)) = true := by simp; omega
              have HN : Hid (numO s = none) := Lib.hid (num_byte HSG.out (List.mem_of_getElem? HG.out) (by omega))
              go_wp2
              go_ret2
              exact ⟨by rw [HN.out]; rfl, rfl⟩
            · have q2 : decide (57 < (D[k].toNat : Int)) = false := by simp; omega
              have HN := Lib.hid (Lib.decFrom_take D.data.toList k 0 m D[k] (D[k].toNat - 48) HD.out HG.out (by unfold Lib.digitVal; rw [if_pos (by omega)]))
              go_wp2
              go_round
              case rel => exact ⟨k + 1, m * 10 + (D[k].toNat - 48), by omega, by go_num, by congr 1; omega, HN.out⟩
              case measure => simp [intOf]; omega
        · obtain rfl : k = D.size := by omega
          have q0 : decide ((D.size : Int) < (D.size : Int)) = false := by simp
          have e : Lib.decFrom 0 D.data.toList = some m := by
            have := HD.out
            rwa [List.take_of_length_le (by rw [HDL.out]; exact Nat.le_refl _)] at this
          have HM := Lib.hid e
          clear e HD
          by_cases hbig : 9223372036854775808 ≤ m
          · have HN : Hid (numO s = none) := Lib.hid (num_range HSG.out HM.out (by rcases Nat.lt_or_ge 9223372036854775808 m with h | h; exact .inl h; exact .inr ⟨by omega, rfl⟩))
            have q1 : decide ((m : Int) < 9223372036854775808) = false := by simp; omega
            have q2 : decide (m < 9223372036854775808) = false := by simp; omega
            go_wp2
            go_ret2
            exact ⟨by rw [HN.out]; rfl, rfl⟩
          · have hc := num_canon HSG.out HM.out HNN.out (fun r e => ⟨HZ.out r e, rfl⟩) (by omega) (fun _ => by omega)
            simp only [Bool.false_eq_true, if_false] at hc
            have HN := Lib.hid hc.1
            have q1 : decide ((m : Int) < 9223372036854775808) = true := by simp; omega
            have q2 : decide (m < 9223372036854775808) = true := by simp; omega
            have hmb : (m : Int) < 9223372036854775808 := by omega
            have hmn : m < 9223372036854775808 := by omega
            clear hc hbig
            go_wp2
            go_ret2
            exact ⟨by rw [HN.out]; exact congrArg Ending.returned (by simp; try omega), rfl⟩
end Go.Proofs.YtnfejojakikeeaaGreatDoor
