/- What Append and Encode of the references compute. No condition but the number's size. -/
import Derived.Test.YtmkiojnhjfkepaaDoorWk
import Derived.Laws.AppendOwnNone
namespace Go.Proofs.YtmkiojnhjfkepaaDoor
open Go.RowKit

theorem RowAt.vrow_cap {e : TypeId} {w : World} {g n c : Nat} {l : List Int} (h : RowAt bE e 1 w g c l) (hl : l.length = n) : VRow bE 1 w (some ⟨g, 0, none⟩) n c l := by
  have h' := h
  obtain ⟨cur, hg, h1, h2, h3, h4⟩ := h'
  refine ⟨hl, by omega, h3, by simp, fun i x hx => ⟨g, 0, rfl, got_lt hg, fun j v hv => ?_⟩⟩
  have hj : j = 0 := by
    have := (List.getElem?_eq_some_iff.1 hv).1
    simp at this; exact this
  subst hj
  have := RowAt.cell (s := 1) (enc := bE) (fun _ => rfl) h (i := i) (j := 0) hx (by decide)
  rw [Nat.zero_add, this, hv]

theorem fits_yes (x size : Nat) (w : World) (h1 : 1 ≤ size) (h2 : size ≤ 8) (hx : x < 2 ^ (8 * size)) :
    Calls Tryd.prog 56 #[.int .u64 x, .int .i64 size] w fun e w' => e = .returned (.bool true) ∧ w = w' := by
  have hx64 : x < 18446744073709551616 := Nat.lt_of_lt_of_le hx (Nat.le_trans (Nat.pow_le_pow_right (by omega) (by omega : 8 * size ≤ 64)) (by decide))
  have HX := Lib.hid hx
  clear hx
  have hsh : (x : Int) / 2 ^ (8 * (size : Int)).toNat = 0 := by
    rw [show (8 * (size : Int)).toNat = 8 * size by omega]
    have := Nat.div_eq_of_lt HX.out
    have h3 : ((x / 2 ^ (8 * size) : Nat) : Int) = 0 := by rw [this]; rfl
    rw [Int.natCast_ediv] at h3
    simpa using h3
  by_cases h8 : size = 8
  · subst h8
    go_enter Tryd.func56, Tryd.ntmps56
    go_wp2
    go_ret
    exact ⟨rfl, rfl⟩
  · have d8 : ((size : Int) == 8) = false := by simp; omega
    go_enter Tryd.func56, Tryd.ntmps56
    go_wp2
    go_ret
    exact ⟨rfl, rfl⟩

/-- what the loop of Append keeps -/
def RApp (w : World) (bs : List Int) (x size : Nat) (vl vi : Value) (wr : World) : Prop :=
  ∃ k g cap : Nat, k ≤ size ∧ vi = .int .i64 ((size : Int) - 1 - k) ∧ vl = .slice (some ⟨g, 0, none⟩) (bs.length + k) cap ∧ RowAt bE 5 1 wr g cap (bs ++ (be x size).take k) ∧ Only [] w wr ∧ w.heap.size ≤ g

theorem row_empty {w : World} {g : Nat} {e : TypeId} (h : w.heap[g]? = some (.cells #[] e (0, 0))) : RowAt bE e 1 w g 0 [] := ⟨#[], h, rfl, Nat.le_refl _, Nat.zero_le _, rfl⟩
theorem flat_bE (l : List Int) : l.flatMap bE = l.map (Value.int .u8) := by
  induction l with
  | nil => rfl
  | cons x l ih => simp [List.flatMap_cons, bE, ← ih]

set_option maxRecDepth 100000 in
set_option maxHeartbeats 1000000 in
theorem rappend {w : World} {p : Option Addr} {n cap : Nat} {bs : List Int} (hv : VRow bE 1 w p n cap bs) (hp : p = none ∨ 0 < n) (x size : Nat) (h1 : 1 ≤ size) (h2 : size ≤ 8) (hx : x < 2 ^ (8 * size)) (hn : n ≤ 1000000) :
    Calls Tryd.prog 38 #[.slice p n cap, .int .u64 x, .int .i64 size] w fun e w' =>
      ∃ g c, e = .returned (.tuple #[.slice (some ⟨g, 0, none⟩) (n + size) c, .int .i64 0]) ∧ RowAt bE 5 1 w' g c (bs ++ be x size) ∧ Only [] w w' ∧ w.heap.size ≤ g := by
  obtain ⟨i0, hi, hz0, hz1, hz2⟩ := info_parts info_u8
  have hx64 : x < 18446744073709551616 := Nat.lt_of_lt_of_le hx (Nat.le_trans (Nat.pow_le_pow_right (by omega) (by omega : 8 * size ≤ 64)) (by decide))
  have hl := hv.len
  subst hl
  have HV := Lib.hid hv; have HX := Lib.hid hx; have HP := Lib.hid hp
  have HI := Lib.hid hi; have Z0 := Lib.hid hz0; have Z1 := Lib.hid hz1; have Z2 := Lib.hid hz2
  clear hv hx hp hi hz0 hz1 hz2
  have d1 : decide ((size : Int) < 1) = false := by simp; omega
  have d2 : decide (8 < (size : Int)) = false := by simp; omega
  go_enter Tryd.func38, Tryd.ntmps38
  go_wp2_with fail
  refine (fits_yes x size w h1 h2 HX.out).mono ?_
  rintro e w' ⟨rfl, rfl⟩
  go_wp2_with (at_builtin; refine stop_here ?_)
  refine stop_go ?_
  refine alloc_abs (G := wpList _ _ _ _ _) ?_
  intro w1 hb1 ho1 hs1
  have B1 := Lib.hid hb1; have O1 := Lib.hid ho1
  have hs1' : w.heap.size < w1.heap.size := by omega
  clear hb1 ho1 hs1
  have hown0 := (row_empty B1.out).owns (enc := bE) (s := 1) (base := 0) (fun _ => rfl) (Nat.zero_le _)
  have OW := Lib.hid hown0; clear hown0
  rcases HP.out with rfl | hpos
  · have hc0 : cap = 0 := HV.out.nil rfl
    have hbl : bs.length = 0 := by have := HV.out.le; omega
    obtain rfl : bs = [] := List.eq_nil_of_length_eq_zero hbl
    subst hc0
    clear hbl
    refine wpList_append_own_none rfl _ _ 37 rfl 0 5 i0 1 Tryd.underlying37 HI.out _ _ _ rfl OW.out rfl ?_
    have HST : Hid (RApp w [] x size (.slice (some ⟨w.heap.size, 0, none⟩) 0 0) (.int .i64 ((size : Int) - 1)) w1) := Lib.hid ⟨0, w.heap.size, 0, Nat.zero_le _, by simp, by simp, by simpa using row_empty B1.out, O1.out, Nat.le_refl _⟩
    clear B1 OW
    go_wp2
    go_loopw [8, 9] (fun vl vi wr => RApp w [] x size vl vi wr) (fun _ vi _ => (intOf vi + 1).toNat)
    case atStart => exact HST.out
    case round =>
      obtain ⟨k, g, c, hk, rfl, rfl, hrow, ho, hg⟩ := hrel
      have RR := Lib.hid hrow; have OO := Lib.hid ho
      clear hrow ho
      by_cases hlt : k < size
      · obtain ⟨y, hy, hy8⟩ : ∃ y : Nat, (x : Int) / 2 ^ (8 * ((size : Int) - 1 - (k : Int))).toNat = (y : Int) ∧ Hid (((y % 256 : Nat) : Int) = beAt x size k) := by
          refine ⟨x / 2 ^ (8 * (size - 1 - k)), ?_, Lib.hid rfl⟩
          rw [show (8 * ((size : Int) - 1 - (k : Int))).toNat = 8 * (size - 1 - k) by omega, Int.natCast_ediv]
          simp
        have hyw : IntKind.u8.wrap (y : Int) = ((y % 256 : Nat) : Int) := by rw [IntKind.wrap_u8]; simp
        have hyz : Hid ((y : Int) % 256 = beAt x size k) := Lib.hid (by rw [← hy8.out]; simp)
        have b1 : 0 ≤ 8 * ((size : Int) - 1 - (k : Int)) := by omega
        have b2 : 8 * ((size : Int) - 1 - (k : Int)) ≤ 64 := by omega
        have b3 : 0 ≤ (size : Int) - 1 - (k : Int) := by omega
        go_wp2_with (at_builtin; refine stop_here ?_)
        refine stop_go ?_
        refine alloc_abs (G := wpList _ _ _ _ _) ?_
        intro w6 hb6 ho6 hs6
        have hlen6 : (([] : List Int) ++ (be x size).take k).length = ([] : List Int).length + k := by simp [be_length]; omega
        have hown6 := (RR.out.kept ho6 (by simp)).owns (enc := bE) (s := 1) (base := 0) (fun _ => rfl) (Nat.zero_le _)
        rw [hlen6] at hown6
        have S6 := Lib.hid hs6; have L6 := Lib.hid hlen6
        clear hs6 hlen6
        refine wpList_append_row rfl _ _ 37 rfl 5 i0 (.int .u8 0) 1 1 Tryd.underlying37 HI.out Z0.out Z1.out Z2.out rfl (by decide) (.slice (some ⟨g, 0, none⟩) (([] : List Int).length + k) c) (([] : List Int).length + k) _ rfl hown6 ⟨wr.heap.size, 0, none⟩ 1 1 [.int .u8 ((y : Int) % 256)] rfl rfl ?_ (by simp [Value.oneCell']) (by simp [maxLen]; omega) (by omega) (by decide) ?_
        · intro j u hj
          rw [addr_add, cell_got hb6]
          simpa using hj
        intro g' c' w7 hown7 ho7 hblk7
        have ho7 : Only [g] w6 w7 := ho7
        have hblk7 : g' = g ∨ g' = w6.heap.size := by rcases hblk7 with h | h; exact .inl (Option.some.inj h).symm; exact .inr h
        have hg' : w.heap.size ≤ g' := by have := S6.out; have := OO.out.size; rcases hblk7 with rfl | rfl <;> omega
        have e7 : ([] : List Int) ++ (be x size).take (k + 1) = (([] : List Int) ++ (be x size).take k) ++ [beAt x size k] := by rw [take_snoc' _ k _ (beAt_get x size k hlt), List.append_assoc]
        have R7 : Hid (RowAt bE 5 1 w7 g' c' (([] : List Int) ++ (be x size).take (k + 1))) := Lib.hid (RowAt.of_owns (n := ([] : List Int).length + k + 1) (base := 0) (by rw [e7, List.flatMap_append, show ([beAt x size k] : List Int).flatMap bE = [.int .u8 ((y : Int) % 256)] from by rw [hyz.out]; rfl]; exact hown7) (by rw [e7, List.length_append, L6.out]; rfl))
        have O7 := Lib.hid ((OO.out.nil_trans ho6).trans ho7 (by simp; omega))
        clear hown6 hown7 ho7 hb6 ho6 hblk7 e7 S6 L6
        go_wp2
        go_roundw
        case rel => exact ⟨k + 1, g', c', by omega, by go_num, by first | rfl | simp, R7.out, O7.out, hg'⟩
        case measure => simp [intOf]; omega
      · obtain rfl : k = size := by omega
        have b4 : (k : Int) - 1 - (k : Int) = -1 := by omega
        go_wp2
        go_ret2
        refine ⟨g, c, by first | rfl | simp, ?_, OO.out, hg⟩
        have := RR.out
        rwa [List.take_of_length_le (Nat.le_of_eq (be_length x k))] at this
  · obtain ⟨ad, rfl, hc⟩ := HV.out.cells1 (f := Value.int .u8) hpos
    refine wpList_append_row rfl _ _ 37 rfl 5 i0 (.int .u8 0) 1 1 Tryd.underlying37 HI.out Z0.out Z1.out Z2.out rfl (by decide) _ _ _ rfl OW.out ad bs.length cap (bs.map (Value.int .u8)) rfl (by simp) ?_ (by intro v hv; obtain ⟨z, _, rfl⟩ := List.mem_map.1 hv; rfl) (by simp [maxLen]; omega) (by simp; omega) hpos ?_
    · intro j v hj
      have := hc j v hj
      obtain ⟨bb, off, hp', hbl, _⟩ := HV.out.cell 0 bs[0] (List.getElem?_eq_getElem hpos)
      cases hp'
      rw [addr_add] at this ⊢
      rw [O1.out.cell hbl (by simp)]; exact this
    intro g c w2 hown2 ho2 hg2
    have hg2 : w.heap.size ≤ g := by
      rcases hg2 with h | h
      · exact Nat.le_of_eq (Option.some.inj h)
      · omega
    have ho2 : Only [w.heap.size] w1 w2 := ho2
    have HST : Hid (RApp w bs x size (.slice (some ⟨g, 0, none⟩) bs.length c) (.int .i64 ((size : Int) - 1)) w2) := Lib.hid ⟨0, g, c, Nat.zero_le _, by simp, by simp, RowAt.of_owns (n := 0 + bs.length) (base := 0) (by simpa [flat_bE] using hown2) (by simp), O1.out.trans ho2 (by simp), hg2⟩
    clear B1 OW hown2 ho2 hc
    go_wp2
    go_loopw [8, 9] (fun vl vi wr => RApp w bs x size vl vi wr) (fun _ vi _ => (intOf vi + 1).toNat)
    case atStart => exact HST.out
    case round =>
      obtain ⟨k, g, c, hk, rfl, rfl, hrow, ho, hg⟩ := hrel
      have RR := Lib.hid hrow; have OO := Lib.hid ho
      clear hrow ho
      by_cases hlt : k < size
      · obtain ⟨y, hy, hy8⟩ : ∃ y : Nat, (x : Int) / 2 ^ (8 * ((size : Int) - 1 - (k : Int))).toNat = (y : Int) ∧ Hid (((y % 256 : Nat) : Int) = beAt x size k) := by
          refine ⟨x / 2 ^ (8 * (size - 1 - k)), ?_, Lib.hid rfl⟩
          rw [show (8 * ((size : Int) - 1 - (k : Int))).toNat = 8 * (size - 1 - k) by omega, Int.natCast_ediv]
          simp
        have hyw : IntKind.u8.wrap (y : Int) = ((y % 256 : Nat) : Int) := by rw [IntKind.wrap_u8]; simp
        have hyz : Hid ((y : Int) % 256 = beAt x size k) := Lib.hid (by rw [← hy8.out]; simp)
        have b1 : 0 ≤ 8 * ((size : Int) - 1 - (k : Int)) := by omega
        have b2 : 8 * ((size : Int) - 1 - (k : Int)) ≤ 64 := by omega
        have b3 : 0 ≤ (size : Int) - 1 - (k : Int) := by omega
        go_wp2_with (at_builtin; refine stop_here ?_)
        refine stop_go ?_
        refine alloc_abs (G := wpList _ _ _ _ _) ?_
        intro w6 hb6 ho6 hs6
        have hlen6 : (bs ++ (be x size).take k).length = bs.length + k := by simp [be_length]; omega
        have hown6 := (RR.out.kept ho6 (by simp)).owns (enc := bE) (s := 1) (base := 0) (fun _ => rfl) (Nat.zero_le _)
        rw [hlen6] at hown6
        have S6 := Lib.hid hs6; have L6 := Lib.hid hlen6
        clear hs6 hlen6
        refine wpList_append_row rfl _ _ 37 rfl 5 i0 (.int .u8 0) 1 1 Tryd.underlying37 HI.out Z0.out Z1.out Z2.out rfl (by decide) (.slice (some ⟨g, 0, none⟩) (bs.length + k) c) (bs.length + k) _ rfl hown6 ⟨wr.heap.size, 0, none⟩ 1 1 [.int .u8 ((y : Int) % 256)] rfl rfl ?_ (by simp [Value.oneCell']) (by simp [maxLen]; omega) (by omega) (by decide) ?_
        · intro j u hj
          rw [addr_add, cell_got hb6]
          simpa using hj
        intro g' c' w7 hown7 ho7 hblk7
        have ho7 : Only [g] w6 w7 := ho7
        have hblk7 : g' = g ∨ g' = w6.heap.size := by rcases hblk7 with h | h; exact .inl (Option.some.inj h).symm; exact .inr h
        have hg' : w.heap.size ≤ g' := by have := S6.out; have := OO.out.size; rcases hblk7 with rfl | rfl <;> omega
        have e7 : bs ++ (be x size).take (k + 1) = (bs ++ (be x size).take k) ++ [beAt x size k] := by rw [take_snoc' _ k _ (beAt_get x size k hlt), List.append_assoc]
        have R7 : Hid (RowAt bE 5 1 w7 g' c' (bs ++ (be x size).take (k + 1))) := Lib.hid (RowAt.of_owns (n := bs.length + k + 1) (base := 0) (by rw [e7, List.flatMap_append, show ([beAt x size k] : List Int).flatMap bE = [.int .u8 ((y : Int) % 256)] from by rw [hyz.out]; rfl]; exact hown7) (by rw [e7, List.length_append, L6.out]; rfl))
        have O7 := Lib.hid ((OO.out.nil_trans ho6).trans ho7 (by simp; omega))
        clear hown6 hown7 ho7 hb6 ho6 hblk7 e7 S6 L6
        go_wp2
        go_roundw
        case rel => exact ⟨k + 1, g', c', by omega, by go_num, by first | rfl | simp, R7.out, O7.out, hg'⟩
        case measure => simp [intOf]; omega
      · obtain rfl : k = size := by omega
        have b4 : (k : Int) - 1 - (k : Int) = -1 := by omega
        go_wp2
        go_ret2
        refine ⟨g, c, by first | rfl | simp, ?_, OO.out, hg⟩
        have := RR.out
        rwa [List.take_of_length_le (Nat.le_of_eq (be_length x k))] at this

theorem Renc_no (s n : Int) (w : World) (h : ¬ stOk s n) :
    Calls Tryd.prog 23 #[.agg #[.int .i64 s, .int .i64 n]] w fun e w' => e = .returned (.tuple #[.slice none 0 0, .int .i64 3]) ∧ Only [] w w' := by
  go_enter Tryd.func23, Tryd.ntmps23
  go_wp2_with fail
  refine alloc_abs (G := fun w0 => Calls _ _ _ w0 _) ?_
  intro w1 hb1 ho1 hs1
  clear hb1 hs1
  refine (Rcheck_no s n w1 h).mono ?_
  rintro e w2 ⟨rfl, ho2⟩
  go_wp2_with fail
  go_ret2
  exact ⟨rfl, ho1.nil_trans ho2⟩

theorem Renc_yes (s n : Int) (w : World) (h : stOk s n) :
    Calls Tryd.prog 23 #[.agg #[.int .i64 s, .int .i64 n]] w fun e w' => ∃ g c, e = .returned (.tuple #[.slice (some ⟨g, 0, none⟩) 10 c, .int .i64 0]) ∧ RowAt bE 5 1 w' g c (encB s n) ∧ Only [] w w' ∧ w.heap.size ≤ g := by
  have h' := h
  obtain ⟨h1, h2, h3, h4⟩ := h'
  obtain ⟨S, rfl⟩ : ∃ S : Nat, s = S := ⟨s.toNat, by omega⟩
  obtain ⟨M, rfl⟩ : ∃ M : Nat, n = M := ⟨n.toNat, by omega⟩
  unfold encB
  simp only [Int.toNat_natCast]
  go_enter Tryd.func23, Tryd.ntmps23
  go_wp2_with fail
  refine alloc_abs (G := fun w0 => Calls _ _ _ w0 _) ?_
  intro w1 hb1 ho1 hs1
  have B1 := Lib.hid hb1
  clear hb1 hs1
  refine (Rcheck_yes S M w1 h).mono ?_
  rintro e w2 ⟨rfl, ho2⟩
  have B2 := Lib.hid (ho2.got B1.out (by simp))
  have g0 := cell_got B2.out 0; have g1 := cell_got B2.out 1
  go_wp2_with fail
  refine (rappend (vrow_nil w2) (.inl rfl) S 6 (by omega) (by omega) (by have : (2 : Nat) ^ (8 * 6) = 281474976710656 := by decide
                                                                         omega) (by omega)).mono ?_
  rintro e w3 ⟨g3, c3, rfl, hrow3, ho3, hg3⟩
  have R3 := Lib.hid hrow3
  have B3 := Lib.hid (ho3.got B2.out (by simp))
  clear g0 g1 hrow3
  have g1 := cell_got B3.out 1
  have hs3 := Lib.hid ho3.size
  have V3 : Hid (VRow bE 1 w3 (some ⟨g3, 0, none⟩) 6 c3 (be S 6)) := Lib.hid (R3.out.vrow_cap (by simp [be_length]))
  go_wp2_with fail
  refine (rappend V3.out (.inr (by omega)) M 4 (by omega) (by omega) (by have : (2 : Nat) ^ (8 * 4) = 4294967296 := by decide
                                                                         omega) (by omega)).mono ?_
  rintro e w4 ⟨g4, c4, rfl, hrow4, ho4, hg4⟩
  have R4 := Lib.hid hrow4
  clear hrow4
  go_wp2_with fail
  go_ret2
  exact ⟨g4, c4, rfl, R4.out, ((ho1.nil_trans ho2).nil_trans ho3).nil_trans ho4, by have := ho1.size; have := ho2.size; have := hs3.out; omega⟩
end Go.Proofs.YtmkiojnhjfkepaaDoor
