/- Plain facts of the selection; awake10 returns true. No condition. -/
import Derived.Test.YtmokeehpfjmgoaaMr
namespace Go.Proofs.Ytmokeehpfjmgoaa
open Go.RowKit

theorem pkX_map (fit : Cd → Bool) (f : Int → Cd) : ∀ (l : List Cd) (i : Nat), (∀ j (hj : j < l.length), f ((i + j : Nat) : Int) = l[j]) → (pkX fit l i).map f = l.filter fit
  | [], i, _ => rfl
  | c :: r, i, h => by
    have h0 := h 0 (by simp)
    have hr := pkX_map fit f r (i + 1) (fun j hj => by
      have := h (j + 1) (by simpa using hj)
      rw [show i + 1 + j = i + (j + 1) by omega]
      simpa using this)
    simp only [Nat.add_zero, List.getElem_cons_zero] at h0
    unfold pkX
    by_cases hf : fit c = true
    · rw [if_pos hf, List.map_cons, hr, h0, List.filter_cons_of_pos hf]
    · rw [if_neg hf, hr, List.filter_cons_of_neg hf]
theorem pkX_mem (fit : Cd → Bool) : ∀ (l : List Cd) (i : Nat) (z : Int), z ∈ pkX fit l i → ∃ j : Nat, j < l.length ∧ z = ((i + j : Nat) : Int)
  | [], i, z, h => by simp [pkX] at h
  | c :: r, i, z, h => by
    unfold pkX at h
    have hh : z = (i : Int) ∨ z ∈ pkX fit r (i + 1) := by
      by_cases hf : fit c = true
      · rw [if_pos hf] at h; simpa using h
      · rw [if_neg hf] at h; exact .inr h
    rcases hh with rfl | hh
    · exact ⟨0, by simp, by simp⟩
    · obtain ⟨j, hj, rfl⟩ := pkX_mem fit r (i + 1) z hh
      exact ⟨j + 1, by simpa using hj, by rw [show i + 1 + j = i + (j + 1) by omega]⟩
theorem selAt_some {l : List Cd} {a : Nat} {ins : List Int} {h : Iv} (ha : 2 * a < l.length) (hs : selAt l a = some (ins, h)) : ins = pkX (inH h) l 0 ∧ 0 < ins.length := by
  unfold selAt at hs
  split at hs
  · cases hs
  · split at hs
    · rename_i hle
      cases hs
      exact ⟨rfl, by omega⟩
    · cases hs
theorem selF_some {l : List Cd} {ins : List Int} {h : Iv} : ∀ (f a : Nat), selF l f a = some (ins, h) → ins = pkX (inH h) l 0 ∧ 0 < ins.length
  | 0, a, hs => by cases hs
  | f + 1, a, hs => by
    unfold selF at hs
    split at hs
    · rename_i ha
      split at hs
      · rename_i x hx
        cases hs
        exact selAt_some ha hx
      · exact selF_some f (a + 1) hs
    · cases hs
/-- the candidate at a position -/
def atC (l : List Cd) (z : Int) : Cd := l.getD z.toNat default
/-- what a selection gives -/
structure SelP (l : List Cd) (ins : List Int) : Prop where
  pos : 0 < (ins.map (atC l)).length
  mem : ∀ z ∈ ins, ∃ j : Nat, j < l.length ∧ z = (j : Int)
  gd : Gd (ins.map (atC l))
  len : ins.length ≤ l.length
theorem selP {l : List Cd} {ins : List Int} {h : Iv} (hg : Gd l) (hs : sel l = some (ins, h)) : SelP l ins := by
  obtain ⟨rfl, h0⟩ := selF_some _ _ hs
  have hm := pkX_map (inH h) (atC l) l 0 (fun j hj => by simp [atC, List.getD_eq_getElem?_getD, List.getElem?_eq_getElem hj])
  refine ⟨by rw [List.length_map]; exact h0, fun z hz => ?_, ?_, pkX_len _ _ _⟩
  · obtain ⟨j, hj, rfl⟩ := pkX_mem _ _ _ _ hz
    exact ⟨j, hj, by simp⟩
  · rw [hm]
    exact hg.sub List.filter_sublist
def exl : List Cd := [⟨1, 0, 10, 0, 1⟩, ⟨2, 4, 10, 0, 1⟩, ⟨3, 100, 5, 0, 1⟩]
theorem exl_gd : Gd exl := ⟨by decide, by decide, by decide⟩
theorem exl_sel : sel exl = some ([0, 1], ⟨-6, 10⟩) := by
  simp [sel, selF, selAt, exl, hullI, spanC, sortI, endsI, ivOk, pkI, cntI, hasI, List.filter, pkX, inH]
set_option maxRecDepth 100000 in
set_option maxHeartbeats 1000000 in
theorem awake_any (w : World) : Calls Try.prog 5 #[] w fun e w' => e = .returned (.bool true) ∧ Only [] w w' := by
  go_enter Try.func5, Try.ntmps5
  go_upto_region 2 with (fail)
  refine alloc_abs (G := fun w0 => Code.wp _ _ _ _ w0) ?_
  intro w1 hb1 ho1 hs1
  have hv : VRow cdC 5 w1 (some ⟨w.heap.size, 0, none⟩) 3 3 exl := by
    refine ⟨rfl, Nat.le_refl _, by decide, by simp, fun i x hx => ⟨_, 0, rfl, got_lt hb1, fun j v hj => ?_⟩⟩
    rw [cell_got hb1]
    match i, hx with
    | 0, hx => cases hx; match j, hj with
      | 0, hj => cases hj; rfl
      | 1, hj => cases hj; rfl
      | 2, hj => cases hj; rfl
      | 3, hj => cases hj; rfl
      | 4, hj => cases hj; rfl
    | 1, hx => cases hx; match j, hj with
      | 0, hj => cases hj; rfl
      | 1, hj => cases hj; rfl
      | 2, hj => cases hj; rfl
      | 3, hj => cases hj; rfl
      | 4, hj => cases hj; rfl
    | 2, hx => cases hx; match j, hj with
      | 0, hj => cases hj; rfl
      | 1, hj => cases hj; rfl
      | 2, hj => cases hj; rfl
      | 3, hj => cases hj; rfl
      | 4, hj => cases hj; rfl
  have HS := Lib.hid (pSelect hv (by decide)); have O1 := Lib.hid ho1
  clear hv hb1 ho1 hs1
  go_wp2_with fail
  refine HS.out.mono ?_
  rintro e w2 ⟨⟨v, h, ins, er, rfl, hown, hor⟩, ho2⟩
  rw [exl_sel] at hor
  rcases hor with ⟨rfl, _, hs⟩ | ⟨_, hn⟩
  rotate_left
  · rcases hn with hn | hn
    · exact absurd exl_gd hn
    · cases hn
  cases hs
  obtain ⟨p2, c2, rfl, hv2⟩ := Own.vrow (enc := intC) (s := 1) intC_len hown
  obtain ⟨b2, o2, rfl, hb2, i0⟩ := hv2.i64 (k := 0) (Only.refl _ _) (by decide)
  obtain ⟨b2', o2', hp, _, i1⟩ := hv2.i64 (k := 1) (Only.refl _ _) (by decide)
  simp only [Option.some.injEq, Addr.mk.injEq, and_true] at hp
  obtain ⟨rfl, rfl⟩ := hp
  have O2 := Lib.hid (O1.out.nil_trans ho2)
  simp only [List.getElem_cons_zero, List.getElem_cons_succ, Nat.add_zero] at i0 i1
  have I := Lib.hid (And.intro hb2 (And.intro i0 i1))
  clear HS O1 hown ho2 hv2 i0 i1 hb2
  unfold ivV
  go_upto_region 3 with (fail)
  refine alloc_abs (G := fun w0 => Code.wp _ _ _ _ w0) ?_
  intro w3 hb3 ho3 hs3
  have B3 := Lib.hid hb3; have O3 := Lib.hid (O2.out.nil_trans ho3)
  have i0 : w3.cell? ⟨b2, o2, none⟩ = some (.int .i64 0) := by rw [ho3.cell I.out.1 (by simp)]; exact I.out.2.1
  have i1 : w3.cell? ⟨b2, o2 + 1, none⟩ = some (.int .i64 1) := by rw [ho3.cell I.out.1 (by simp)]; exact I.out.2.2
  have k0 := cell_got B3.out 0; have k1 := cell_got B3.out 1; have lk := got_lt B3.out; have li : b2 < w3.heap.size := Nat.lt_of_lt_of_le I.out.1 ho3.size
  clear hb3 ho3 hs3
  go_wp2
  go_ret
  exact ⟨rfl, O3.out⟩
end Go.Proofs.Ytmokeehpfjmgoaa
