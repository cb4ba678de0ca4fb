/- What Encode of package ptime computes, and the chapter's examples: awake returns true. Condition: the table of powers of ten is laid. -/
import Derived.Test.YtmkiojnhjfkepaaDoorPv
namespace Go.Proofs.YtmkiojnhjfkepaaDoor
open Go.RowKit

theorem vrow_nil (w : World) : VRow bE 1 w none 0 0 [] := ⟨rfl, Nat.le_refl _, Nat.zero_le _, fun _ => rfl, by simp⟩
theorem RowAt.vrow {e : TypeId} {w : World} {g n : Nat} {l : List Int} (h : RowAt bE e 1 w g n l) (hl : l.length = n) : VRow bE 1 w (some ⟨g, 0, none⟩) n n l := by
  have h' := h
  obtain ⟨cur, hg, h1, h2, h3, h4⟩ := h'
  refine ⟨hl, Nat.le_refl _, h3, by simp, fun i x hx => ⟨g, 0, rfl, got_lt hg, fun j v hv => ?_⟩⟩
  have hj : j = 0 := by
    have := (List.getElem?_eq_some_iff.1 hv).1
    simp at this; exact this
  subst hj
  have := RowAt.cell (s := 1) (enc := bE) (fun _ => rfl) h (i := i) (j := 0) hx (by decide)
  rw [Nat.zero_add, this, hv]
theorem VRow.bytesIn {w : World} {p : Option Addr} {n cap : Nat} {l : List Int} (h : VRow bE 1 w p n cap l) : Lib.BytesIn w p n l := by
  intro hn
  have hl := h.len
  obtain ⟨ad, rfl, hc⟩ := h.cells1 (f := Value.int .u8) (by omega)
  obtain ⟨b, off, hp, _, _⟩ := h.cell 0 l[0] (List.getElem?_eq_getElem (by omega))
  cases hp
  refine ⟨b, off, rfl, fun i hi => ?_⟩
  have := hc i (.int .u8 (l.getD i 0)) (by rw [List.getElem?_map, List.getElem?_eq_getElem (by omega)]; simp [List.getD, List.getElem?_eq_getElem (show i < l.length by omega)])
  rwa [addr_add] at this

/-- the ten bytes of a timestamp -/
def encB (s n : Int) : List Int := be s.toNat 6 ++ be n.toNat 4
theorem encB_length (s n : Int) : (encB s n).length = 10 := by simp [encB, be_length]

theorem Penc_no (s n : Int) (w : World) (h : ¬ stOk s n) :
    Calls Tryd.prog 22 #[.agg #[.int .i64 s, .int .i64 n]] w fun e w' => e = .returned (.tuple #[.slice none 0 0, .int .i64 3]) ∧ Only [] w w' := by
  go_enter Tryd.func22, Tryd.ntmps22
  go_wp2_with fail
  refine alloc_abs (G := fun w0 => Calls _ _ _ w0 _) ?_
  intro w1 hb1 ho1 hs1
  clear hb1 hs1
  refine (Pcheck_no s n w1 h).mono ?_
  rintro e w2 ⟨rfl, ho2⟩
  go_wp2_with fail
  go_ret2
  exact ⟨rfl, ho1.nil_trans ho2⟩

theorem Penc_yes (s n : Int) (w : World) (h : stOk s n) :
    Calls Tryd.prog 22 #[.agg #[.int .i64 s, .int .i64 n]] w fun e w' => ∃ g, e = .returned (.tuple #[.slice (some ⟨g, 0, none⟩) 10 10, .int .i64 0]) ∧ RowAt bE 5 1 w' g 10 (encB s n) ∧ Only [] w w' ∧ w.heap.size ≤ g := by
  have h' := h
  obtain ⟨h1, h2, h3, h4⟩ := h'
  obtain ⟨S, rfl⟩ : ∃ S : Nat, s = S := ⟨s.toNat, by omega⟩
  obtain ⟨M, rfl⟩ : ∃ M : Nat, n = M := ⟨n.toNat, by omega⟩
  unfold encB
  simp only [Int.toNat_natCast]
  go_enter Tryd.func22, Tryd.ntmps22
  go_wp2_with fail
  refine alloc_abs (G := fun w0 => Calls _ _ _ w0 _) ?_
  intro w1 hb1 ho1 hs1
  have B1 := Lib.hid hb1
  clear hb1 hs1
  refine (Pcheck_yes S M w1 h).mono ?_
  rintro e w2 ⟨rfl, ho2⟩
  have B2 := Lib.hid (ho2.got B1.out (by simp))
  have g0 := cell_got B2.out 0; have g1 := cell_got B2.out 1
  go_wp2_with fail
  refine (wappend (vrow_nil w2) S 6 (by omega) (by omega) (by have : (2 : Nat) ^ (8 * 6) = 281474976710656 := by decide
                                                              omega) (by omega)).mono ?_
  rintro e w3 ⟨rfl, hrow3, ho3⟩
  have R3 := Lib.hid hrow3
  have B3 := Lib.hid (ho3.got B2.out (by simp))
  clear g0 g1 hrow3
  have g1 := cell_got B3.out 1
  have hs3 := Lib.hid ho3.size
  go_wp2_with fail
  refine (wappend (R3.out.vrow (by simp [be_length])) M 4 (by omega) (by omega) (by have : (2 : Nat) ^ (8 * 4) = 4294967296 := by decide
                                                                                    omega) (by omega)).mono ?_
  rintro e w4 ⟨rfl, hrow4, ho4⟩
  have R4 := Lib.hid hrow4
  clear hrow4
  go_wp2_with fail
  go_ret2
  exact ⟨_, rfl, R4.out, ((ho1.nil_trans ho2).nil_trans ho3).nil_trans ho4, by have := ho1.size; have := ho2.size; have := hs3.out; omega⟩
end Go.Proofs.YtmkiojnhjfkepaaDoor
