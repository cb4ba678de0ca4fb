/- cluster.Prune: what is left is valid and not empty. Conditions: valid candidates, at least one. -/
import Derived.Test.YtmokeehpfjmgoaaMm
namespace Go.Proofs.Ytmokeehpfjmgoaa
open Go.RowKit

def sliceLen : Value → Nat
  | .slice _ n _ => n
  | _ => 0
def PrI (w : World) (g cap : Nat) (vl : Value) (wr : World) : Prop := ∃ l' : List Cd, vl = .slice (some ⟨g, 0, none⟩) l'.length cap ∧ RowAt cdC 31 5 wr g cap l' ∧ Gd l' ∧ 0 < l'.length ∧ Only [] w wr
/-- what Prune returns -/
def PrR (keep : Int) (w0 : World) (e : Ending) (w : World) : Prop :=
  if keep < 1 then e = .returned (.tuple #[.slice none 0 0, .int .i64 3]) else
  ∃ g cap l', e = .returned (.tuple #[.slice (some ⟨g, 0, none⟩) l'.length cap, .int .i64 0]) ∧ w0.heap.size ≤ g ∧ RowAt cdC 31 5 w g cap l' ∧ Gd l' ∧ 0 < l'.length
theorem prR_no {keep : Int} {w0 w : World} (h : keep < 1) : PrR keep w0 (.returned (.tuple #[.slice none 0 0, .int .i64 3])) w := by
  unfold PrR; rw [if_pos h]
theorem prR_yes {keep : Int} {w0 w : World} {e : Ending} (h : ¬ keep < 1) (hh : ∃ g cap l', e = .returned (.tuple #[.slice (some ⟨g, 0, none⟩) l'.length cap, .int .i64 0]) ∧ w0.heap.size ≤ g ∧ RowAt cdC 31 5 w g cap l' ∧ Gd l' ∧ 0 < l'.length) : PrR keep w0 e w := by
  unfold PrR; rw [if_neg h]; exact hh
theorem erase_gd {l : List Cd} {j : Nat} (h : Gd l) (hj : j < l.length) : Gd (l.take j ++ l.drop (j + 1)) ∧ (l.take j ++ l.drop (j + 1)).length = l.length - 1 := by
  rw [← List.eraseIdx_eq_take_drop_succ]
  exact ⟨h.sub (List.eraseIdx_sublist _ _), List.length_eraseIdx_of_lt hj⟩
set_option maxRecDepth 100000 in
set_option maxHeartbeats 2000000 in
theorem pPrune {w : World} {p : Option Addr} {n cap : Nat} {l : List Cd} (hv : VRow cdC 5 w p n cap l) (hg : Gd l) (h0 : 0 < l.length) (keep : Int) :
    Calls Try.prog 6 #[.slice p n cap, .int .i64 keep] w fun e w' => PrR keep w e w' ∧ Only [] w w' := by
  have hln := hv.len
  subst hln
  have hlb := hg.len
  have hck := pCheck hv (by omega)
  rw [chkC_ok.2 hg] at hck
  have HCK := Lib.hid hck; have HV := Lib.hid hv; have HG := Lib.hid hg
  clear hv hg hck
  by_cases hk : keep < 1
  · have d1 : decide (keep < 1) = true := decide_eq_true hk
    have HK := Lib.hid hk
    clear hk
    go_enter Try.func6, Try.ntmps6
    go_wp2_with fail
    refine HCK.out.mono ?_
    rintro e w1 ⟨rfl, ho1⟩
    have O1 := Lib.hid ho1
    clear ho1 HCK
    go_wp2
    go_ret2
    exact ⟨prR_no HK.out, O1.out⟩
  · have d1 : decide (keep < 1) = false := decide_eq_false hk
    have HK := Lib.hid hk
    have hk1 : 1 ≤ keep := by omega
    clear hk
    go_enter Try.func6, Try.ntmps6
    go_wp2_with fail
    refine HCK.out.mono ?_
    rintro e w1 ⟨rfl, ho1⟩
    have O1 := Lib.hid ho1
    clear ho1 HCK
    have HO := Lib.hid (pOrder (HV.out.kept O1.out) HG.out h0)
    go_wp2_with fail
    refine HO.out.mono ?_
    rintro e w2 ⟨⟨g, cap2, l2, rfl, hge, hr, hp⟩, ho2⟩
    have O2 := Lib.hid (O1.out.nil_trans ho2); have R2 := Lib.hid hr; have HGE : Hid (w.heap.size ≤ g) := Lib.hid (Nat.le_trans O1.out.size hge)
    have G2 := Lib.hid (HG.out.perm hp)
    have h02 : 0 < l2.length := by rw [hp.length_eq]; exact h0
    clear ho2 hr hge hp HO
    go_wp2_with fail
    go_loopw [7] (fun vl wr => PrI w g cap2 vl wr) (fun vl _ => sliceLen vl)
    case atStart => exact ⟨l2, rfl, R2.out, G2.out, h02, O2.out⟩
    case round =>
      clear h02
      obtain ⟨l', rfl, hr, hg', hl0, ho⟩ := hrel
      have RR := Lib.hid hr; have GG := Lib.hid hg'; have OO := Lib.hid ho; have VV := Lib.hid (hr.vrow cdC_len rfl)
      have hlb' := hg'.len
      clear hr hg' ho
      by_cases hgt : keep < (l'.length : Int)
      · have q1 : decide (keep < (l'.length : Int)) = true := decide_eq_true hgt
        have HF := Lib.hid (pFarthest VV.out GG.out (by omega))
        go_wp2_with fail
        refine HF.out.mono ?_
        rintro e w3 ⟨⟨j, m, hj, _, _, rfl⟩, ho3⟩
        have O3 := Lib.hid (OO.out.nil_trans ho3); have R3 := Lib.hid (RR.out.kept ho3 (by simp)); have HL := Lib.hid (pLeast (VV.out.kept ho3) GG.out hl0)
        clear ho3 HF
        go_wp2_with fail
        refine HL.out.mono ?_
        rintro e w4 ⟨⟨r, _, _, rfl⟩, ho4⟩
        have O4 := Lib.hid (O3.out.nil_trans ho4); have R4 := Lib.hid (R3.out.kept ho4 (by simp))
        clear ho4 HL
        by_cases hle : m ≤ r
        · have q2 : decide (m ≤ r) = true := decide_eq_true hle
          go_wp2_with fail
          go_ret2
          exact ⟨prR_yes (Int.not_lt.2 HK.out) ⟨g, cap2, l', rfl, HGE.out, R4.out, GG.out, hl0⟩, O4.out⟩
        · have q2 : decide (m ≤ r) = false := decide_eq_false hle
          have hD := deleteC R4.out hj (by omega)
          rw [show ((j + 1 : Nat) : Int) = (j : Int) + 1 by omega] at hD
          have HD := Lib.hid hD
          clear hD
          go_wp2_with fail
          refine HD.out.mono ?_
          rintro e w5 ⟨rfl, hr5, ho5⟩
          obtain ⟨hg5, hl5⟩ := erase_gd GG.out hj
          rw [← hl5]
          have O5 := Lib.hid (O4.out.trans ho5 (fun x hx => .inr (by rw [List.mem_singleton] at hx; rw [hx]; exact HGE.out))); have R5 := Lib.hid hr5; have G5 := Lib.hid hg5
          have hl6 : 0 < (l'.take j ++ l'.drop (j + 1)).length := by omega
          have hl7 : (l'.take j ++ l'.drop (j + 1)).length < l'.length := by omega
          generalize l'.take j ++ l'.drop (j + 1) = l5 at R5 G5 hl6 hl7 ⊢
          clear hr5 ho5 hg5 hl5
          go_wp2
          go_roundw
          case rel => exact ⟨l5, rfl, R5.out, G5.out, hl6, O5.out⟩
          case measure => simpa [sliceLen] using hl7
      · have q1 : decide (keep < (l'.length : Int)) = false := decide_eq_false hgt
        go_wp2_with fail
        go_ret2
        exact ⟨prR_yes (Int.not_lt.2 HK.out) ⟨g, cap2, l', rfl, HGE.out, RR.out, GG.out, hl0⟩, OO.out⟩
end Go.Proofs.Ytmokeehpfjmgoaa
