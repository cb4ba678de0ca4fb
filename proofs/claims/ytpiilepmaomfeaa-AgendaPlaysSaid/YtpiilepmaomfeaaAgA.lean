/- The examples of the chapter agenda: awake returns true. No condition. -/
import Derived.Test.YtpiilepmaomfeaaAg9
namespace Go.Proofs.Ytpiilepmaomfeaa
open Go.RowKit

theorem Que.first {w : World} {q : Nat} {F : List Nat} {lim tm pu : Int} {l : List Ev} (h : Que w q F lim tm pu l) (hl : 0 < l.length) : el l 0 ∈ l ∧ ∀ e ∈ l, ge e (el l 0) := by
  refine ⟨List.mem_of_getElem? (el_some hl), fun e he => ?_⟩
  obtain ⟨j, hj⟩ := List.mem_iff_getElem?.1 he
  have := heap_min h.heap j (List.getElem?_eq_some_iff.1 hj).1
  rw [el_of hj] at this
  exact this

theorem box_kept {w w' : World} {S : List Nat} {b : Nat} {o : Obj} (h : w.heap[b]? = some o) (ho : Only S w w') (hb : ∀ k ∈ S, k < b ∨ w.heap.size ≤ k) : w'.heap[b]? = some o :=
  ho.got h (fun hm => by rcases hb b hm with h' | h'; omega; have := got_lt h; omega)

set_option maxRecDepth 100000 in
set_option maxHeartbeats 2000000 in
theorem awake_any (w : World) : Calls Try.prog 15 #[] w fun e w' => e = .returned (.bool true) ∧ Only [] w w' := by
  go_enter Try.func15, Try.ntmps15
  go_wp2_with fail
  refine (new_ok 3 w (by omega) (by omega)).mono ?_
  rintro e w1 ⟨rfl, hq1, ho1⟩
  have Q1 := Lib.hid hq1; clear hq1
  go_wp2_with fail
  refine (push_ok Q1.out 5 1 (by omega) (by omega) (by simp) (by omega) (by omega)).mono ?_
  rintro e w2 ⟨rfl, F2, l2, hq2, ho2, hF2, hl2, hm2⟩
  have Q2 := Lib.hid hq2; have FF2 := Lib.hid hF2; have L2 := Lib.hid hl2; have M2 := Lib.hid hm2; clear hq2 hF2 hl2 hm2
  go_wp2_with fail
  refine (push_ok Q2.out 3 2 (by omega) (by omega) (by have := L2.out; simp at this; omega) (by omega) (by omega)).mono ?_
  rintro e w3 ⟨rfl, F3, l3, hq3, ho3, hF3, hl3, hm3⟩
  have Q3 := Lib.hid hq3; have FF3 := Lib.hid hF3; have L3 := Lib.hid hl3; have M3 := Lib.hid hm3; clear hq3 hF3 hl3 hm3
  go_wp2_with fail
  refine (push_ok Q3.out 5 3 (by omega) (by omega) (by have := L2.out; have := L3.out; simp at *; omega) (by omega) (by omega)).mono ?_
  rintro e w4 ⟨rfl, F4, l4, hq4, ho4, hF4, hl4, hm4⟩
  have Q4 := Lib.hid hq4; have FF4 := Lib.hid hF4; have L4 := Lib.hid hl4; have M4 := Lib.hid hm4; clear hq4 hF4 hl4 hm4
  have hlen4 : l4.length = 3 := by have := L2.out; have := L3.out; have := L4.out; simp at *; omega
  have hmem4 : ∀ e, e ∈ l4 ↔ e = ⟨5, 3, 3⟩ ∨ e = ⟨3, 2, 2⟩ ∨ e = ⟨5, 1, 1⟩ := by
    intro e
    rw [M4.out e, M3.out e, M2.out e]
    simp
  have hfirst := Q4.out.first (by omega)
  have he4 : el l4 0 = ⟨3, 2, 2⟩ := by
    obtain ⟨h1, h2⟩ := hfirst
    have h3 := h2 ⟨3, 2, 2⟩ ((hmem4 _).2 (.inr (.inl rfl)))
    rcases (hmem4 _).1 h1 with h | h | h
    · rw [h] at h3; unfold ge at h3; simp at h3
    · exact h
    · rw [h] at h3; unfold ge at h3; simp at h3
  have hpop := pop_some Q4.out (by omega)
  rw [he4] at hpop
  have HL4 := Lib.hid hlen4; have HM4 := Lib.hid hmem4
  clear hfirst he4 hlen4 hmem4
  have HP4 := Lib.hid hpop; clear hpop
  go_wp2_with fail
  refine HP4.out.mono ?_
  rintro e w5 ⟨rfl, l5, hq5, ho5, hl5, hm5⟩
  have hlen5 : l5.length = 2 := by have := HL4.out; omega
  have hmem5 : ∀ e, e ∈ l5 ↔ e = ⟨5, 3, 3⟩ ∨ e = ⟨5, 1, 1⟩ := by
    intro e
    rw [hm5 e, HM4.out e]
    constructor
    · rintro ⟨rfl | rfl | rfl, h⟩
      · exact .inl rfl
      · exact absurd rfl h
      · exact .inr rfl
    · rintro (rfl | rfl)
      · exact ⟨.inl rfl, by simp⟩
      · exact ⟨.inr (.inr rfl), by simp⟩
  have hfirst := hq5.first (by omega)
  have he5 : el l5 0 = ⟨5, 1, 1⟩ := by
    obtain ⟨h1, h2⟩ := hfirst
    have h3 := h2 ⟨5, 1, 1⟩ ((hmem5 _).2 (.inr rfl))
    rcases (hmem5 _).1 h1 with h | h
    · rw [h] at h3; unfold ge at h3; simp at h3
    · exact h
  have Q5 := Lib.hid hq5; have HL5 := Lib.hid hlen5; have HM5 := Lib.hid hmem5; have HE5 := Lib.hid he5
  clear hfirst he5 hlen5 hmem5 hq5 hl5 hm5 HP4
  have hF4s := Q4.out.blocks
  have hs45 := ho5.size
  go_wp2_with fail
  refine alloc_abs (G := fun w0 => Calls _ _ _ w0 _) ?_
  intro w6 hb6 ho6 hs6
  have HB6 := Lib.hid hb6; have HS6 := Lib.hid hs6; clear hb6 hs6
  have hF5s : Hid (∀ k ∈ F4, k < w5.heap.size) := fun k hk => by have := hF4s k hk; omega
  clear hF4s
  have Q6 := Lib.hid (Q5.out.kept ho6 (by simp))
  have hpop := pop_some Q6.out (by have := HL5.out; omega)
  rw [HE5.out] at hpop
  refine hpop.mono ?_
  clear hpop
  rintro e w7 ⟨rfl, l7, hq7, ho7, hl7, hm7⟩
  have hlen7 : l7.length = 1 := by have := HL5.out; omega
  have hmem7 : ∀ e, e ∈ l7 ↔ e = ⟨5, 3, 3⟩ := by
    intro e
    rw [hm7 e, HM5.out e]
    constructor
    · rintro ⟨rfl | rfl, h⟩
      · rfl
      · exact absurd rfl h
    · rintro rfl
      exact ⟨.inl rfl, by simp⟩
  have he7 : el l7 0 = ⟨5, 3, 3⟩ := (hmem7 _).1 (hq7.first (by omega)).1
  have Q7 := Lib.hid hq7; have HL7 := Lib.hid hlen7; have HM7 := Lib.hid hmem7; have HE7 := Lib.hid he7
  clear he7 hlen7 hmem7 hq7 hl7 hm7
  have hs67 := ho7.size
  have HB7 := Lib.hid (box_kept HB6.out ho7 (fun k hk => .inl (hF5s.out k hk)))
  go_wp2_with fail
  refine alloc_abs (G := fun w0 => Calls _ _ _ w0 _) ?_
  intro w8 hb8 ho8 hs8
  have HB8 := Lib.hid hb8; have HS8 := Lib.hid hs8; clear hb8 hs8
  have HC8 := Lib.hid (ho8.got HB7.out (by simp))
  have Q8 := Lib.hid (Q7.out.kept ho8 (by simp))
  have hpop := pop_some Q8.out (by have := HL7.out; omega)
  rw [HE7.out] at hpop
  refine hpop.mono ?_
  clear hpop
  rintro e w9 ⟨rfl, l9, hq9, ho9, hl9, hm9⟩
  have Q9 := Lib.hid hq9; clear hq9 hl9 hm9
  have hs89 := ho9.size
  have HB9 := Lib.hid (box_kept HB8.out ho9 (fun k hk => .inl (by have := hF5s.out k hk; have := HS6.out; omega)))
  have HC9 := Lib.hid (box_kept HC8.out ho9 (fun k hk => .inl (hF5s.out k hk)))
  go_wp2_with fail
  refine alloc_abs (G := fun w0 => Calls _ _ _ w0 _) ?_
  intro w10 hb10 ho10 hs10
  have HB10 := Lib.hid hb10; have HS10 := Lib.hid hs10; clear hb10 hs10
  refine (push_order (Q9.out.kept ho10 (by simp)) 4 0 (by omega) (by simp)).mono ?_
  rintro e w11 ⟨rfl, rfl⟩
  have g0 := cell_got (ho10.got HC9.out (by simp)) 0
  have g1 := cell_got (ho10.got HC9.out (by simp)) 1
  have g2 := cell_got (ho10.got HC9.out (by simp)) 2
  have i0 := cell_got (ho10.got HB9.out (by simp)) 0
  have i1 := cell_got (ho10.got HB9.out (by simp)) 1
  have i2 := cell_got (ho10.got HB9.out (by simp)) 2
  have j0 := cell_got HB10.out 0
  have j1 := cell_got HB10.out 1
  have j2 := cell_got HB10.out 2
  go_wp2
  go_ret
  refine ⟨rfl, ?_⟩
  have e1 : ∀ k ∈ [w.heap.size], k ∈ ([] : List Nat) ∨ w.heap.size ≤ k := by simp
  have s2 := ho2.size
  have s3 := ho3.size
  have s1 := ho1.size
  have e2 : ∀ k ∈ F2, k ∈ ([] : List Nat) ∨ w.heap.size ≤ k := fun k hk => by rcases FF2.out k hk with h | h; exact e1 k h; exact .inr (by omega)
  have e3 : ∀ k ∈ F3, k ∈ ([] : List Nat) ∨ w.heap.size ≤ k := fun k hk => by rcases FF3.out k hk with h | h; exact e2 k h; exact .inr (by omega)
  have e4 : ∀ k ∈ F4, k ∈ ([] : List Nat) ∨ w.heap.size ≤ k := fun k hk => by rcases FF4.out k hk with h | h; exact e3 k h; exact .inr (by omega)
  have o4 := ((ho1.trans ho2 e1).trans ho3 e2).trans ho4 e3
  exact ((((((o4.trans ho5 e4).nil_trans ho6).trans ho7 e4).nil_trans ho8).trans ho9 e4).nil_trans ho10)
end Go.Proofs.Ytpiilepmaomfeaa
