/- decimal of the reference: a number in decimal. No condition. -/
import Derived.Test.YtdpfbedcejahjaaDoorEnv
import Derived.Laws.BytesArg
import Derived.Deep.Light
namespace Go.Proofs.YtdpfbedcejahjaaDoor
open Go.RowKit

/-- the digits ahead of the last -/
def pfx (m : Nat) : List UInt8 := if m < 10 then [] else Lib.decDigits (m / 10)
/-- a digit -/
def dgt (m : Nat) : UInt8 := UInt8.ofNat (48 + m % 10)
theorem dec_pfx (m : Nat) : Lib.decDigits m = pfx m ++ [dgt m] := by
  unfold pfx dgt
  by_cases h : m < 10
  · rw [Lib.decDigits, dif_pos h, if_pos h, Nat.mod_eq_of_lt h]; rfl
  · rw [Lib.decDigits, dif_neg h, if_neg h]
theorem pfx_step {m : Nat} (h : 9 < m) : pfx m = pfx (m / 10) ++ [dgt (m / 10)] := by
  rw [← dec_pfx]; unfold pfx; rw [if_neg (by omega)]
theorem dec_len (U : Nat) (h : U ≤ 9223372036854775808) : (Lib.decDigits U).length ≤ 21 := by
  have h1 := Lib.itoa_length_le (-(U : Int)) (by omega) (by omega)
  by_cases h0 : U = 0
  · subst h0; simp [Lib.decDigits]
  · rw [Lib.itoa_neg U (by omega)] at h1; simp at h1; omega
theorem conv1 (w : World) (z : Int) : (convert 53 9 (.slice (some ⟨w.heap.size, 0, none⟩) 1 1)).run Tryd.prog (w.alloc (.cells #[.int .u8 z] 5)) = .ok (.string (bstr [UInt8.ofNat z.toNat])) (w.alloc (.cells #[.int .u8 z] 5)) :=
  run_convert_bytes_arg (P := Tryd.prog) _ 53 5 Tryd.underlying53 Tryd.underlying5 w.heap.size 0 1 1 [z] rfl (fun i hi => by
    obtain rfl : i = 0 := by omega
    rw [cell_got (alloc_new _ _)]; rfl) 9 Tryd.underlying9
theorem dgt_int (m : Nat) : UInt8.ofNat (48 + (m : Int) % 10).toNat = dgt m := by
  have e : (48 + (m : Int) % 10).toNat = 48 + m % 10 := by omega
  rw [e]; rfl
theorem bstr_append (a b : List UInt8) : bstr a ++ bstr b = bstr (a ++ b) := by
  apply ByteArray.ext; simp [bstr]
def DecR (U : Nat) (w : World) (v4 v5 : Value) (wr : World) : Prop :=
  ∃ (m : Nat) (S : List UInt8), v4 = .int .u64 m ∧ v5 = .string (bstr S) ∧ Lib.decDigits U = pfx m ++ S ∧ m ≤ U ∧ Only [] w wr

set_option maxRecDepth 100000 in
set_option maxHeartbeats 1000000 in
theorem rdecimal (n : Int) (hn : i64 n) (w : World) :
    Calls Tryd.prog 47 #[.int .i64 n] w fun e w' => e = .returned (.string (bstr (Lib.itoa n))) ∧ Only [] w w' := by
  obtain ⟨hn0, hn1⟩ := hn
  obtain ⟨SG, U, hU, hsg, hit⟩ : ∃ (SG : List UInt8) (U : Nat), U ≤ 9223372036854775808 ∧ ((n < 0 ∧ n = -(U : Int) ∧ SG = [45]) ∨ (0 ≤ n ∧ n = (U : Int) ∧ SG = [])) ∧ Lib.itoa n = SG ++ Lib.decDigits U := by
    by_cases h : n < 0
    · exact ⟨[45], n.natAbs, by omega, .inl ⟨h, by omega, rfl⟩, by unfold Lib.itoa; rw [if_pos h]; rfl⟩
    · exact ⟨[], n.toNat, by omega, .inr ⟨by omega, by omega, rfl⟩, by unfold Lib.itoa; rw [if_neg h]; rfl⟩
  have HI := Lib.hid hit
  have hlen := dec_len U hU
  clear hit
  have key : ∀ (a : Act), True := fun _ => trivial
  clear key
  rcases hsg with ⟨h0, rfl, rfl⟩ | ⟨h0, rfl, rfl⟩
  all_goals
    have c0 := conv1 w ((48 + (U : Int) % 10))
    rw [dgt_int] at c0
    have hneg : -(-(U : Int) + 1) + 1 = (U : Int) := by omega
    go_enter Tryd.func47, Tryd.ntmps47
    go_wp2
    go_loopw [4, 5] (fun v4 v5 wr => DecR U w v4 v5 wr) (fun v4 _ _ => (intOf v4).toNat)
    case atStart => exact ⟨U, [dgt U], by first | rfl | (congr 1; omega), rfl, dec_pfx U, Nat.le_refl _, (Only.refl [] w).alloc _⟩
    case round =>
      obtain ⟨m, S, rfl, rfl, hd, hm, ho⟩ := hrel
      have HD := Lib.hid hd; have OO := Lib.hid ho
      have hSl : S.length ≤ 21 := by have := congrArg List.length hd; simp only [List.length_append] at this; omega
      have hSs : (bstr S).size ≤ 21 := by rw [bstr_size]; exact hSl
      clear hd ho c0 hneg
      by_cases h9 : 9 < m
      · have HN : Hid (Lib.decDigits U = pfx (m / 10) ++ (dgt (m / 10) :: S)) := Lib.hid (by rw [HD.out, pfx_step h9]; simp)
        have HC : Hid (bstr [dgt (m / 10)] ++ bstr S = bstr (dgt (m / 10) :: S)) := Lib.hid (by rw [bstr_append]; rfl)
        have c1 := conv1 wr (48 + ((m / 10 : Nat) : Int) % 10)
        rw [dgt_int] at c1
        obtain ⟨q, hq⟩ : ∃ q, q = m / 10 := ⟨_, rfl⟩
        have hqi : ((m : Int) / 10) = (q : Int) := by omega
        have hqm : q < m := by omega
        have hqu : q ≤ U := by omega
        rw [← hq] at c1 HN HC
        have hs1 : (bstr [dgt q]).size = 1 := bstr_size _
        obtain ⟨C, hC⟩ : ∃ C, C = bstr [dgt q] := ⟨_, rfl⟩
        obtain ⟨X, hX⟩ : ∃ X, X = bstr S := ⟨_, rfl⟩
        rw [← hC] at c1 HC hs1
        rw [← hX] at HC hSs ⊢
        clear hq hC hX
        have e1 : ¬ 9223372036854775807 < 1 + X.size := by omega
        have e2 : ¬ 9223372036854775807 < C.size + X.size := by omega
        go_wp2
        go_roundw
        case rel => exact ⟨q, dgt q :: S, rfl, by rw [HC.out], HN.out, hqu, OO.out.alloc _⟩
        case measure => simp [intOf]; omega
      · have HN : Hid (Lib.decDigits U = S) := Lib.hid (by rw [HD.out]; unfold pfx; rw [if_pos (by omega)]; rfl)
        have e1 : ¬ 9223372036854775807 < 1 + (bstr S).size := by omega
        have e2 : ¬ 9223372036854775807 < (bstr S).size := by omega
        go_wp2
        go_ret
        refine ⟨?_, OO.out⟩
        rw [HI.out, HN.out, ← bstr_append]
        rfl
end Go.Proofs.YtdpfbedcejahjaaDoor
