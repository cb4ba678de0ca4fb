/- set of package leap. Conditions: the library's variables are laid; the length. -/
import Derived.Test.YtnfejojakikeeaaGreatDoorKa
namespace Go.Proofs.YtnfejojakikeeaaGreatDoor
open Go.RowKit

/-- what set does: the number that it finds, unless the field is known -/
def setO (known : Bool) (L : List UInt8) : Option Int := match numsO (wds [] L) with
  | some [n] => if known then none else some n
  | _ => none
def SetV (r : Option Int) (w : World) (b i j : Nat) (e : Ending) (w' : World) : Prop :=
  match r with
  | none => e = .returned (.bool false) ∧ Only [] w w'
  | some n => e = .returned (.bool true) ∧ ∃ w2, Only [] w w2 ∧ w' = (w2.setCell ⟨b, i, none⟩ (.int .i64 n)).setCell ⟨b, j, none⟩ (.bool true)
set_option maxRecDepth 100000 in
set_option maxHeartbeats 1000000 in
theorem kset (X : ByteArray) (L : List UInt8) (hL : X.data.toList = L) (hs : X.size ≤ 1000000) (w : World) (he : Env w) (b i j : Nat) (hij : i ≠ j) (known : Bool) (u : Value) (hb : b < w.heap.size)
    (hi : w.cell? ⟨b, i, none⟩ = some u) (hj : w.cell? ⟨b, j, none⟩ = some (.bool known)) (fi : w.frozen? ⟨b, i, none⟩ = false) (fj : w.frozen? ⟨b, j, none⟩ = false) :
    Calls Tryz.prog 45 #[.pointer (some ⟨b, i, none⟩), .pointer (some ⟨b, j, none⟩), .string X] w fun e w' =>
      SetV (setO known L) w b i j e w' := by
  have HN := Lib.hid (knumbers X L hL hs w he)
  clear he
  go_enter Tryz.func45, Tryz.ntmps45
  go_wp2_with fail
  refine HN.out.mono ?_
  rintro e w1 ⟨hv, hB⟩
  have ho : Only [] w w1 := only_of_below hB
  have hj1 : w1.cell? ⟨b, j, none⟩ = some (.bool known) := by rw [ho.cell hb (by simp)]; exact hj
  have hi1 : w1.cell? ⟨b, i, none⟩ = some u := by rw [ho.cell hb (by simp)]; exact hi
  have OO := Lib.hid ho
  clear hB ho
  cases hq : numsO (wds [] L) with
  | none =>
    rw [hq] at hv
    obtain rfl : e = _ := hv
    have HX : Hid (setO known L = none) := Lib.hid (by unfold setO; rw [hq])
    clear hq
    go_wp2
    go_ret
    rw [HX.out]
    exact ⟨rfl, OO.out⟩
  | some ns =>
    rw [hq] at hv
    obtain ⟨v, rfl, hrow⟩ := hv
    obtain ⟨ao, cap, rfl⟩ : ∃ ao cap, v = .slice ao ns.length cap := by
      rcases hrow.2 with ⟨hv, h0⟩ | ⟨g, cap, cur, hv, _⟩
      · exact ⟨none, 0, by rw [hv, h0]⟩
      · exact ⟨_, _, hv⟩
    by_cases h1 : ns.length = 1
    · obtain ⟨n, rfl⟩ : ∃ n, ns = [n] := List.length_eq_one_iff.1 h1
      clear h1
      cases known with
      | true =>
        have HX : Hid (setO true L = none) := Lib.hid (by unfold setO; rw [hq]; rfl)
        clear hq
        simp only [List.length_cons, List.length_nil, Nat.zero_add] at hrow ⊢
        go_wp2
        go_ret
        rw [HX.out]
        exact ⟨rfl, OO.out⟩
      | false =>
        have HX : Hid (setO false L = some n) := Lib.hid (by unfold setO; rw [hq]; rfl)
        clear hq
        obtain ⟨g, hg⟩ : ∃ g, ao = some ⟨g, 0, none⟩ := by
          rcases hrow.2 with ⟨hv, h0⟩ | ⟨g, cap', cur, hv, _⟩
          · simp at h0
          · cases hv; exact ⟨g, rfl⟩
        subst hg
        have hc : w1.cell? ⟨g, 0, none⟩ = some (.int .i64 n) := hrow.cells (g := g) rfl 0 (.int .i64 n) (by simp)
        have f1 : w1.frozen? ⟨b, i, none⟩ = false := by rw [OO.out.frozen hb (by simp)]; exact fi
        have f2 : w1.frozen? ⟨b, j, none⟩ = false := by rw [OO.out.frozen hb (by simp)]; exact fj
        have hji : j ≠ i := fun h => hij h.symm
        simp only [List.length_cons, List.length_nil, Nat.zero_add] at hrow ⊢
        go_wp2
        go_ret
        rw [HX.out]
        exact ⟨rfl, w1, OO.out, rfl⟩
    · have HX : Hid (setO known L = none) := Lib.hid (by
        unfold setO; rw [hq]
        rcases ns with _ | ⟨n, _ | ⟨m, r⟩⟩
        · rfl
        · simp at h1
        · rfl)
      have q1 : ((ns.length : Int) != 1) = true := by simp; omega
      have q2 : ((ns.length : Int) == 1) = false := by simp; omega
      clear hq h1
      go_wp2
      go_ret
      rw [HX.out]
      exact ⟨rfl, OO.out⟩
end Go.Proofs.YtnfejojakikeeaaGreatDoor
