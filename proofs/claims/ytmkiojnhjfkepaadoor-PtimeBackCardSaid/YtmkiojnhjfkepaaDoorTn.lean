/- What number of the reference computes. No condition. -/
import Derived.Test.YtmkiojnhjfkepaaDoorTx
import Derived.Lib.Atoi
namespace Go.Proofs.YtmkiojnhjfkepaaDoor
open Go.RowKit

/-- the number of at most 15 digits -/
def numR (l : List UInt8) : Option Nat := if l = [] ∨ 15 < l.length then none else Lib.decFrom 0 l
/-- what number returns -/
def numV (o : Option Nat) : Value := .tuple #[.int .i64 ((o.getD 0 : Nat) : Int), .bool o.isSome]
def NumD (s : ByteArray) (vn vi : Value) : Prop := ∃ k m : Nat, k ≤ s.size ∧ vi = .int .i64 k ∧ vn = .int .i64 m ∧ Lib.decFrom 0 (s.data.toList.take k) = some m

theorem dec_bad {l : List UInt8} {k : Nat} {b : UInt8} (hk : l[k]? = some b) (hb : Lib.digitVal b = none) : Lib.decFrom 0 l = none := by
  cases h : Lib.decFrom 0 l with
  | none => rfl
  | some n =>
    obtain ⟨d, hd⟩ := Lib.digit_of_decFrom l 0 n h k b hk
    rw [hb] at hd; cases hd

set_option maxRecDepth 100000 in
set_option maxHeartbeats 1000000 in
theorem rnumber (s : ByteArray) (w : World) (hs : s.size ≤ 1000000) :
    Calls Tryd.prog 46 #[.string s] w fun e w' => e = .returned (numV (numR s.data.toList)) ∧ w = w' := by
  have hl : s.data.toList.length = s.size := by rw [Array.length_toList]; rfl
  by_cases h0 : s.size = 0
  · have e0 : s.data.toList = [] := List.eq_nil_of_length_eq_zero (by omega)
    have e1 : s = ⟨#[]⟩ := by apply ByteArray.ext; simpa using congrArg List.toArray e0
    have hv : numV (numR s.data.toList) = .tuple #[.int .i64 0, .bool false] := by rw [e0]; rfl
    rw [hv]
    subst e1
    clear e0 hl hs h0 hv
    go_enter Tryd.func46, Tryd.ntmps46
    go_wp2
    go_ret2
    exact ⟨rfl, rfl⟩
  · have hne : s.data.toList ≠ [] := fun h => by rw [h] at hl; simp at hl; omega
    have hi1 : s.data.toList.isEmpty = false := by cases hq : s.data.toList with
      | nil => exact absurd hq hne
      | cons a b => rfl
    have hi2 : s.toList.isEmpty = false := by rw [Lib.toList_data]; exact hi1
    by_cases h15 : 15 < s.size
    · have hv : numV (numR s.data.toList) = .tuple #[.int .i64 0, .bool false] := by unfold numR; rw [if_pos (.inr (by omega))]; rfl
      rw [hv]
      have d : decide (15 < (s.size : Int)) = true := by simp; omega
      have d' : decide (15 < s.size) = true := by simp; omega
      clear hv hl hne
      go_enter Tryd.func46, Tryd.ntmps46
      go_wp2
      go_ret2
      exact ⟨rfl, rfl⟩
    · have hv : numR s.data.toList = Lib.decFrom 0 s.data.toList := by unfold numR; rw [if_neg (by rintro (h | h); exact hne h; omega)]
      rw [hv]
      have d : decide (15 < (s.size : Int)) = false := by simp; omega
      have d' : decide (15 < s.size) = false := by simp; omega
      have HL := Lib.hid hl
      clear hv hl hne
      go_enter Tryd.func46, Tryd.ntmps46
      go_wp2
      go_loop [4, 5] (fun vn vi => NumD s vn vi) (fun _ vi => s.size - (intOf vi).toNat)
      case atStart => exact ⟨0, 0, Nat.zero_le _, rfl, rfl, rfl⟩
      case round =>
        obtain ⟨k, m, hk, rfl, rfl, hd⟩ := hrel
        have HD := Lib.hid hd
        have hm : m < 10 ^ k := by
          have := Lib.decFrom_lt _ _ _ hd
          have e : (s.data.toList.take k).length = k := by rw [List.length_take, HL.out]; omega
          rw [e] at this
          simpa using this
        clear hd
        by_cases hlt : k < s.size
        · have hm2 : m < 1000000000000000 := Nat.lt_of_lt_of_le hm (Nat.le_trans (Nat.pow_le_pow_right (by omega) (by omega : k ≤ 15)) (by decide))
          clear hm
          have hget : s.data.toList[k]? = some s[k] := by
            rw [List.getElem?_eq_getElem (by rw [HL.out]; exact hlt)]; rfl
          have HG := Lib.hid hget
          clear hget
          by_cases h48 : s[k].toNat < 48
          · have q1 : decide ((s[k].toNat : Int) < 48) = true := by simp; omega
            go_wp2
            go_ret2
            have : Lib.decFrom 0 s.data.toList = none := dec_bad HG.out (by unfold Lib.digitVal; rw [if_neg (by omega)])
            exact ⟨by rw [this]; rfl, rfl⟩
          · have q1 : decide ((s[k].toNat : Int) < 48) = false := by simp; omega
            by_cases h57 : 57 < s[k].toNat
            · have q2 : decide (57 < (s[k].toNat : Int)) = true := by simp; omega
              go_wp2
              go_ret2
              have : Lib.decFrom 0 s.data.toList = none := dec_bad HG.out (by unfold Lib.digitVal; rw [if_neg (by omega)])
              exact ⟨by rw [this]; rfl, rfl⟩
            · have q2 : decide (57 < (s[k].toNat : Int)) = false := by simp; omega
              have HN := Lib.hid (Lib.decFrom_take s.data.toList k 0 m s[k] (s[k].toNat - 48) HD.out HG.out (by unfold Lib.digitVal; rw [if_pos (by omega)]))
              go_wp2
              go_round
              case rel => exact ⟨k + 1, m * 10 + (s[k].toNat - 48), by omega, by go_num, by congr 1; omega, HN.out⟩
              case measure => simp [intOf]; omega
        · obtain rfl : k = s.size := by omega
          have e : Lib.decFrom 0 s.data.toList = some m := by
            have := HD.out
            rwa [List.take_of_length_le (by rw [HL.out]; exact Nat.le_refl _)] at this
          have HE := Lib.hid e
          clear e hm
          go_wp2
          go_ret2
          exact ⟨by rw [HE.out]; rfl, rfl⟩
end Go.Proofs.YtmkiojnhjfkepaaDoor
