/- special of package leap. No condition. -/
import Derived.Test.YtnfejojakikeeaaGreatDoorK9
namespace Go.Proofs.YtnfejojakikeeaaGreatDoor
open Go.RowKit

/-- the line begins with #, this byte and a blank -/
def spcB (c : UInt8) : List UInt8 → Bool
  | a :: b :: d :: _ => a == 35 && (b == c && blk d)
  | _ => false
theorem u8_beq (a b : UInt8) : (a == b) = ((a.toNat : Int) == (b.toNat : Int)) := by
  rw [Bool.eq_iff_iff]; simp only [beq_iff_eq]
  exact ⟨fun h => by rw [h], fun h => UInt8.toNat.inj (by omega)⟩
set_option maxRecDepth 100000 in
set_option maxHeartbeats 1000000 in
theorem kspecial (c : UInt8) (X : ByteArray) (L : List UInt8) (hL : X.data.toList = L) (hs : X.size ≤ 1000000) (w : World) :
    Calls Tryz.prog 44 #[.string X, .int .u8 c.toNat] w fun e w' => e = .returned (.bool (spcB c L)) ∧ w = w' := by
  have hsz : X.size = L.length := by rw [← hL, Array.length_toList]; rfl
  by_cases h3 : L.length < 3
  · have d1 : decide ((L.length : Int) ≥ 3) = false := by simp; omega
    have d2 : decide (3 ≤ (L.length : Int)) = false := by simp; omega
    have HR : Hid (spcB c L = false) := Lib.hid (by
      rcases L with _ | ⟨a, _ | ⟨b, _ | ⟨d, r⟩⟩⟩
      · rfl
      · rfl
      · rfl
      · simp at h3; omega)
    go_enter Tryz.func44, Tryz.ntmps44
    go_wp2
    go_ret
    exact ⟨by rw [HR.out]; rfl, rfl⟩
  · rcases L with _ | ⟨a, _ | ⟨b, _ | ⟨d, r⟩⟩⟩
    · simp at h3
    · simp at h3
    · simp at h3
    · have n0 : 0 < X.size := by rw [hsz]; simp
      have n1 : 1 < X.size := by rw [hsz]; simp
      have n2 : 2 < X.size := by rw [hsz]; simp
      have x0 : X[0]'(n0) = a := by
        have := Array.getElem_toList (xs := X.data) (i := 0) (by show 0 < X.size; rw [hsz]; simp)
        simp only [hL] at this; exact this.symm
      have x1 : X[1]'(n1) = b := by
        have := Array.getElem_toList (xs := X.data) (i := 1) (by show 1 < X.size; rw [hsz]; simp)
        simp only [hL] at this; exact this.symm
      have x2 : X[2]'(n2) = d := by
        have := Array.getElem_toList (xs := X.data) (i := 2) (by show 2 < X.size; rw [hsz]; simp)
        simp only [hL] at this; exact this.symm
      have z0 : (0 : Int) < (X.size : Int) := by rw [hsz]; simp; omega
      have z1 : (1 : Int) < (X.size : Int) := by rw [hsz]; simp; omega
      have z2 : (2 : Int) < (X.size : Int) := by rw [hsz]; simp; omega
      have z3 : (3 : Int) ≤ (X.size : Int) := by rw [hsz]; simp; omega
      have HBK := Lib.hid (kblank d w)
      have hR : spcB c (a :: b :: d :: r) = (a == 35 && (b == c && blk d)) := rfl
      have ua := u8_beq a 35
      rw [show ((35 : UInt8).toNat : Int) = 35 from rfl] at ua
      have ub := u8_beq b c
      rw [ua, ub] at hR
      have HR := Lib.hid hR
      clear hsz hL h3 hR ua ub
      cases q1 : ((a.toNat : Int) == 35) with
      | false =>
        have HX : Hid (spcB c (a :: b :: d :: r) = false) := Lib.hid (by rw [HR.out, q1]; rfl)
        go_enter Tryz.func44, Tryz.ntmps44
        go_wp2
        go_ret
        exact ⟨by rw [HX.out]; rfl, rfl⟩
      | true =>
        cases q2 : ((b.toNat : Int) == (c.toNat : Int)) with
        | false =>
          have HX : Hid (spcB c (a :: b :: d :: r) = false) := Lib.hid (by rw [HR.out, q1, q2]; rfl)
          go_enter Tryz.func44, Tryz.ntmps44
          go_wp2
          go_ret
          exact ⟨by rw [HX.out]; rfl, rfl⟩
        | true =>
          have HX : Hid (spcB c (a :: b :: d :: r) = blk d) := Lib.hid (by rw [HR.out, q1, q2]; rfl)
          go_enter Tryz.func44, Tryz.ntmps44
          go_wp2_with fail
          refine HBK.out.mono ?_
          rintro e w' ⟨rfl, rfl⟩
          go_wp2
          go_ret
          exact ⟨by rw [HX.out]; rfl, rfl⟩
end Go.Proofs.YtnfejojakikeeaaGreatDoor
