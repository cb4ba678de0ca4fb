/- number of the reference of layer 6: a number in decimal. No condition. -/
import Derived.Test.YtnfejojakikeeaaGreatDoorEnv
import Derived.Test.YtnfejojakikeeaaGreatDoorLaw
import Derived.Laws.BytesArg
import Derived.Deep.Light
namespace Go.Proofs.YtnfejojakikeeaaGreatDoor
open Go.RowKit

/-- the digits ahead of the last -/
def pfx (m : Nat) : List UInt8 := if m < 10 then [] else Lib.decDigits (m / 10)
/-- a digit -/
def dgt (m : Nat) : UInt8 := UInt8.ofNat (48 + m % 10)
theorem dec_pfx (m : Nat) : Lib.decDigits m = pfx m ++ [dgt m] := by
  unfold pfx dgt
  by_cases h : m < 10
  · rw [Lib.decDigits, dif_pos h, if_pos h, Nat.mod_eq_of_lt h]; rfl
  · rw [Lib.decDigits, dif_neg h, if_neg h]
theorem pfx_step {m : Nat} (h : 9 < m) : pfx m = pfx (m / 10) ++ [dgt (m / 10)] := by
  rw [← dec_pfx]; unfold pfx; rw [if_neg (by omega)]
theorem dec_len (U : Nat) (h : U ≤ 9223372036854775808) : (Lib.decDigits U).length ≤ 21 := by
  have h1 := Lib.itoa_length_le (-(U : Int)) (by omega) (by omega)
  by_cases h0 : U = 0
  · subst h0; simp [Lib.decDigits]
  · rw [Lib.itoa_neg U (by omega)] at h1; simp at h1; omega
theorem conv1 (w : World) (z : Int) : (convert 59 9 (.slice (some ⟨w.heap.size, 0, none⟩) 1 1)).run Tryz.prog (w.alloc (.cells #[.int .u8 z] 5)) = .ok (.string (bstr [UInt8.ofNat z.toNat])) (w.alloc (.cells #[.int .u8 z] 5)) :=
  run_convert_bytes_arg (P := Tryz.prog) _ 59 5 Tryz.underlying59 Tryz.underlying5 w.heap.size 0 1 1 [z] rfl (fun i hi => by
    obtain rfl : i = 0 := by omega
    rw [cell_got (alloc_new _ _)]; rfl) 9 Tryz.underlying9
theorem dgt_int (m : Nat) : UInt8.ofNat (48 + (m : Int) % 10).toNat = dgt m := by
  have e : (48 + (m : Int) % 10).toNat = 48 + m % 10 := by omega
  rw [e]; rfl
theorem bstr_append (a b : List UInt8) : bstr a ++ bstr b = bstr (a ++ b) := by
  apply ByteArray.ext; simp [bstr]

theorem conv1' (w : World) (n : Nat) (h : n < 10) : (convert 59 9 (.slice (some ⟨w.heap.size, 0, none⟩) 1 1)).run Tryz.prog (w.alloc (.cells #[.int .u8 (48 + (n : Int))] 5)) = .ok (.string (bstr (Lib.decDigits n))) (w.alloc (.cells #[.int .u8 (48 + (n : Int))] 5)) := by
  rw [conv1, Lib.decDigits, dif_pos h, show (48 + (n : Int)).toNat = 48 + n by omega]
set_option maxRecDepth 100000 in
set_option maxHeartbeats 1000000 in
theorem rnumN (n : Nat) : n ≤ 9223372036854775807 → ∀ w : World, Calls Tryz.prog 39 #[.int .i64 (n : Int)] w fun e w' => e = .returned (.string (bstr (Lib.decDigits n))) ∧ Only [] w w' := by
  induction n using Nat.strongRecOn with
  | _ n ih =>
    intro hn w
    by_cases h : n < 10
    · have c0 := conv1' w n h
      have d1 : decide ((n : Int) < 0) = false := by simp
      have d2 : decide ((n : Int) < 10) = true := by simp; omega
      generalize bstr (Lib.decDigits n) = X at c0 ⊢
      clear ih
      go_enter Tryz.func39, Tryz.ntmps39
      go_wp2
      go_ret
      exact ⟨rfl, (Only.refl _ _).alloc _⟩
    · have d1 : decide ((n : Int) < 0) = false := by simp
      have d2 : decide ((n : Int) < 10) = false := by simp; omega
      have h1 := ih (n / 10) (by omega) (by omega)
      have h2 := ih (n % 10) (by omega) (by omega)
      have hl := dec_len (n / 10) (by omega)
      have hl2 := dec_len (n % 10) (by omega)
      have he : bstr (Lib.decDigits (n / 10)) ++ bstr (Lib.decDigits (n % 10)) = bstr (Lib.decDigits n) := by
        rw [bstr_append, show Lib.decDigits n = Lib.decDigits (n / 10) ++ Lib.decDigits (n % 10) by
          rw [Lib.decDigits, dif_neg h]; congr 1; rw [Lib.decDigits, dif_pos (by omega)]]
      have s1 : (bstr (Lib.decDigits (n / 10))).size ≤ 21 := by rw [bstr_size]; exact hl
      have s2 : (bstr (Lib.decDigits (n % 10))).size ≤ 21 := by rw [bstr_size]; exact hl2
      have a1 : ((n / 10 : Nat) : Int) = (n : Int) / 10 := by omega
      have a2 : ((n % 10 : Nat) : Int) = (n : Int) % 10 := by omega
      rw [a1] at h1
      rw [a2] at h2
      generalize bstr (Lib.decDigits (n / 10)) = X at h1 he s1
      generalize bstr (Lib.decDigits (n % 10)) = Y at h2 he s2
      rw [← he]
      have e2 : ¬ 9223372036854775807 < X.size + Y.size := by omega
      have H1 := Lib.hid h1; have H2 := Lib.hid h2
      clear h1 h2 he ih hl hl2 a1 a2
      go_enter Tryz.func39, Tryz.ntmps39
      go_wp2_with fail
      refine (H1.out w).mono ?_
      rintro e w1 ⟨rfl, ho1⟩
      have O1 := Lib.hid ho1
      clear ho1
      go_wp2_with fail
      refine (H2.out w1).mono ?_
      rintro e w2 ⟨rfl, ho2⟩
      go_wp2
      go_ret
      exact ⟨rfl, O1.out.nil_trans ho2⟩
set_option maxRecDepth 100000 in
set_option maxHeartbeats 1000000 in
theorem rnum (n : Int) (h0 : -9223372036854775807 ≤ n) (h1 : n ≤ 9223372036854775807) (w : World) :
    Calls Tryz.prog 39 #[.int .i64 n] w fun e w' => e = .returned (.string (bstr (Lib.itoa n))) ∧ Only [] w w' := by
  by_cases h : n < 0
  · obtain ⟨U, hU⟩ : ∃ U : Nat, n = -(U : Int) := ⟨n.natAbs, by omega⟩
    subst hU
    have hr := rnumN U (by omega)
    have he : bstr [45] ++ bstr (Lib.decDigits U) = bstr (Lib.itoa (-(U : Int))) := by rw [bstr_append, Lib.itoa_neg U (by omega)]; rfl
    have s1 : (bstr (Lib.decDigits U)).size ≤ 21 := by rw [bstr_size]; exact dec_len U (by omega)
    generalize bstr (Lib.decDigits U) = X at hr he s1
    rw [← he]
    have d1 : decide (-(U : Int) < 0) = true := by simp; omega
    have n1 : - -(U : Int) = (U : Int) := by omega
    have e2 : ¬ 9223372036854775807 < 1 + X.size := by omega
    have HR := Lib.hid hr
    clear hr he
    go_enter Tryz.func39, Tryz.ntmps39
    go_wp2_with fail
    refine (HR.out w).mono ?_
    rintro e w1 ⟨rfl, ho1⟩
    go_wp2
    go_ret
    exact ⟨rfl, ho1⟩
  · obtain ⟨U, hU⟩ : ∃ U : Nat, n = (U : Int) := ⟨n.toNat, by omega⟩
    subst hU
    rw [Lib.itoa_nonneg]
    exact rnumN U (by omega) w
end Go.Proofs.YtnfejojakikeeaaGreatDoor
