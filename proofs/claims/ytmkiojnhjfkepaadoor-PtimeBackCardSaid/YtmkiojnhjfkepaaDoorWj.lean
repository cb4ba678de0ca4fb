/- What wire.number, the reader of package wire and Get of the reference compute; Decode of both. No condition but the bytes' bounds. -/
import Derived.Test.YtmkiojnhjfkepaaDoorPy
namespace Go.Proofs.YtmkiojnhjfkepaaDoor
open Go.RowKit

/-- the number whose bytes these are -/
def numB (l : List Int) : Nat := l.foldl (fun n b => n * 256 + b.toNat) 0
/-- each is a byte -/
def Bytes (l : List Int) : Prop := ∀ z ∈ l, 0 ≤ z ∧ z ≤ 255
theorem numB_snoc (l : List Int) (z : Int) : numB (l ++ [z]) = numB l * 256 + z.toNat := by simp [numB]
theorem numB_lt (l : List Int) (h : Bytes l) : numB l < 256 ^ l.length := by
  have key : ∀ (l : List Int) (n k : Nat), Bytes l → n < 256 ^ k → l.foldl (fun n b => n * 256 + b.toNat) n < 256 ^ (k + l.length) := by
    intro l
    induction l with
    | nil => intro n k _ h; simpa using h
    | cons z l ih =>
      intro n k hb hn
      have hz := hb z (by simp)
      have := ih (n * 256 + z.toNat) (k + 1) (fun y hy => hb y (by simp [hy])) (by rw [Nat.pow_succ]; omega)
      simp only [List.foldl_cons, List.length_cons]
      rw [show k + (l.length + 1) = k + 1 + l.length by omega]
      exact this
  have := key l 0 0 h (by simp)
  simpa [numB] using this
theorem numB_small (l : List Int) (h : Bytes l) (hl : l.length ≤ 7) : numB l ≤ 72057594037927935 := by
  have h1 := numB_lt l h
  have h2 : 256 ^ l.length ≤ 256 ^ 7 := Nat.pow_le_pow_right (by omega) hl
  have h3 : 256 ^ 7 = 72057594037927936 := by decide
  omega
theorem Bytes.take {l : List Int} (h : Bytes l) (k : Nat) : Bytes (l.take k) := fun z hz => h z (List.mem_of_mem_take hz)
theorem Bytes.drop {l : List Int} (h : Bytes l) (k : Nat) : Bytes (l.drop k) := fun z hz => h z (List.mem_of_mem_drop hz)
theorem take_snoc' (l : List Int) (k : Nat) (z : Int) (h : l[k]? = some z) : l.take (k + 1) = l.take k ++ [z] := by
  rw [List.take_add_one, h]; rfl
theorem or_byte {N : Nat} {z : Int} (hN : N ≤ 72057594037927935) (h0 : 0 ≤ z) (h1 : z ≤ 255) : bits BinOp.or IntKind.u64 ((N : Int) * 256) z = ((N * 256 + z.toNat : Nat) : Int) := by
  have := or_low (a := N * 256) (b := z.toNat) 8 (by omega) (by omega) N (by omega) (by omega)
  rw [← this]
  congr 1 <;> simp <;> omega

/-- what the loops keep -/
def NumRel (l : List Int) (vi vn : Value) : Prop := ∃ k : Nat, k ≤ l.length ∧ vi = .int .i64 k ∧ vn = .int .u64 (numB (l.take k))

set_option maxHeartbeats 400000 in
theorem wnumber {w : World} {p : Option Addr} {n cap : Nat} {l : List Int} (hv : VRow bE 1 w p n cap l) (hb : Bytes l) (hn : n ≤ 8) :
    Calls Tryd.prog 57 #[.slice p n cap] w fun e w' => e = .returned (.int .u64 (numB l)) ∧ w = w' := by
  have hl := hv.len
  subst hl
  have HV := Lib.hid hv; have HB := Lib.hid hb
  clear hv hb
  go_enter Tryd.func57, Tryd.ntmps57
  go_wp2
  go_loop [3, 4, 7] (fun vn _ vi => NumRel l vi vn) (fun _ _ vi => l.length - (intOf vi).toNat)
  case atStart => exact ⟨0, Nat.zero_le _, rfl, rfl⟩
  case round =>
    obtain ⟨k, hk, rfl, rfl⟩ := hrel
    by_cases hlt : k < l.length
    · obtain ⟨z, hz⟩ : ∃ z, l[k]? = some z := ⟨l[k], List.getElem?_eq_getElem hlt⟩
      obtain ⟨b, off, rfl, hbl, hc⟩ := HV.out.cell k z hz
      have hc0 := hc 0 _ rfl
      have hcell : w.cell? ⟨b, off + k, none⟩ = some (.int .u8 z) := by simpa using hc0
      obtain ⟨z0, z1⟩ := HB.out z (List.mem_of_getElem? hz)
      have hN := numB_small (l.take k) (HB.out.take k) (by simp; omega)
      have hnext : numB (l.take (k + 1)) = numB (l.take k) * 256 + z.toNat := by rw [take_snoc' l k z hz, numB_snoc]
      have HNX := Lib.hid hnext
      generalize numB (l.take k) = N at hN HNX
      obtain ⟨N', hN'⟩ : ∃ N' : Nat, N' = N * 256 + z.toNat := ⟨_, rfl⟩
      have hor := or_byte hN z0 z1
      rw [← hN'] at hor
      have HN' := Lib.hid hN'
      clear hz hc hc0 hnext hN'
      go_wp2
      go_round
      case rel => exact ⟨k + 1, by omega, by go_num, by rw [HNX.out, HN'.out]⟩
      case measure => simp [intOf]; omega
    · obtain rfl : k = l.length := by omega
      go_wp2
      go_ret
      exact ⟨rfl, rfl⟩

set_option maxRecDepth 100000 in
set_option maxHeartbeats 400000 in
theorem rget {w : World} {p : Option Addr} {n cap : Nat} {l : List Int} (hv : VRow bE 1 w p n cap l) (hb : Bytes l) (at' size : Nat) (h1 : 1 ≤ size) (h8 : size ≤ 8) (hle : at' + size ≤ n) (hn : n ≤ 1000000) :
    Calls Tryd.prog 41 #[.slice p n cap, .int .i64 at', .int .i64 size] w fun e w' => e = .returned (.tuple #[.int .u64 (numB ((l.drop at').take size)), .int .i64 0]) ∧ w = w' := by
  have hl := hv.len
  subst hl
  have HV := Lib.hid hv; have HB := Lib.hid hb
  clear hv hb
  obtain ⟨m, hm⟩ : ∃ m, m = (l.drop at').take size := ⟨_, rfl⟩
  have hml : m.length = size := by rw [hm]; simp; omega
  have hmb : Bytes m := by rw [hm]; exact (HB.out.drop at').take size
  have hget : ∀ k z, m[k]? = some z → l[at' + k]? = some z := fun k z h => by
    rw [hm, List.getElem?_take] at h
    split at h
    · simpa [List.getElem?_drop] using h
    · cases h
  rw [← hm]
  have HG := Lib.hid hget; have HL := Lib.hid hml; have HMB := Lib.hid hmb
  clear hm hget hmb hml HB
  go_enter Tryd.func41, Tryd.ntmps41
  have d1 : decide ((size : Int) < 1) = false := by simp; omega
  have d2 : decide (8 < (size : Int)) = false := by simp; omega
  have d3 : decide ((at' : Int) < 0) = false := by simp
  have d4 : decide ((l.length : Int) < (at' : Int)) = false := by simp; omega
  have d5 : decide ((l.length : Int) - (at' : Int) < (size : Int)) = false := by simp; omega
  have d6 : decide (l.length < at') = false := by simp; omega
  go_wp2
  go_loop [8, 9] (fun vn vi => NumRel m vi vn) (fun _ vi => size - (intOf vi).toNat)
  case atStart => exact ⟨0, Nat.zero_le _, rfl, rfl⟩
  case round =>
    obtain ⟨k, hk, rfl, rfl⟩ := hrel
    rw [HL.out] at hk
    by_cases hlt : k < size
    · obtain ⟨z, hz⟩ : ∃ z, m[k]? = some z := ⟨m[k]'(by rw [HL.out]; exact hlt), List.getElem?_eq_getElem _⟩
      obtain ⟨b, off, rfl, hbl, hc⟩ := HV.out.cell (at' + k) z (HG.out k z hz)
      have hc0 := hc 0 _ rfl
      have hcell : w.cell? ⟨b, off + (at' + k), none⟩ = some (.int .u8 z) := by simpa using hc0
      obtain ⟨z0, z1⟩ := HMB.out z (List.mem_of_getElem? hz)
      have hN := numB_small (m.take k) (HMB.out.take k) (by simp; omega)
      have hnext : numB (m.take (k + 1)) = numB (m.take k) * 256 + z.toNat := by rw [take_snoc' m k z hz, numB_snoc]
      have HNX := Lib.hid hnext
      generalize numB (m.take k) = N at hN HNX
      obtain ⟨N', hN'⟩ : ∃ N' : Nat, N' = N * 256 + z.toNat := ⟨_, rfl⟩
      have hor := or_byte hN z0 z1
      rw [← hN'] at hor
      have HN' := Lib.hid hN'
      have hlt2 : at' + k < l.length := by omega
      clear hz hc hc0 hnext hN'
      go_wp2
      go_round
      case rel => exact ⟨k + 1, by rw [HL.out]; omega, by go_num, by rw [HNX.out, HN'.out]⟩
      case measure => simp [intOf]; omega
    · obtain rfl : k = size := by omega
      go_wp2
      go_ret2
      refine ⟨ret_ii ?_ rfl, rfl⟩
      rw [List.take_of_length_le (by rw [HL.out]; exact Nat.le_refl _)]

/-- a reader at `r` whose rest begins at `off` in the row `g` -/
def RdAt (w : World) (r g off m c : Nat) : Prop := w.heap[r]? = some (.cells #[.slice (some ⟨g, off, none⟩) m c, .int .i64 0] 73 (0, 0))

set_option maxRecDepth 100000 in
set_option maxHeartbeats 400000 in
theorem wtake {w : World} {r g off m c : Nat} (h : RdAt w r g off m c) (size : Nat) (h1 : size < c) (h2 : size ≤ m) (h4 : c ≤ 1000000) :
    Calls Tryd.prog 58 #[.pointer (some ⟨r, 0, none⟩), .int .i64 size, .bool true] w fun e w' => e = .returned (.slice (some ⟨g, off, none⟩) size c) ∧ RdAt w' r g (off + size) (m - size) (c - size) ∧ Only [r] w w' := by
  have c0 := cell_got h 0; have c1 := cell_got h 1
  have f0 := frozen_got h 0
  have hr := got_lt h
  have H := Lib.hid h
  clear h
  have d1 : decide ((m : Int) < (size : Int)) = false := by simp; omega
  have d2 : decide (m < size) = false := by simp; omega
  go_enter Tryd.func58, Tryd.ntmps58
  go_wp2
  go_ret
  refine ⟨?_, ?_, (Only.refl _ _).setCell (.inl (by simp)) _⟩
  · rfl
  · exact setCell_got _ H.out

set_option maxRecDepth 100000 in
set_option maxHeartbeats 400000 in
theorem wtake_all {w : World} {r g off m : Nat} (h : RdAt w r g off m m) :
    Calls Tryd.prog 58 #[.pointer (some ⟨r, 0, none⟩), .int .i64 m, .bool true] w fun e w' => e = .returned (.slice (some ⟨g, off, none⟩) m m) ∧ Only [r] w w' := by
  have c0 := cell_got h 0; have c1 := cell_got h 1
  have f0 := frozen_got h 0
  have hr := got_lt h
  have H := Lib.hid h
  clear h
  go_enter Tryd.func58, Tryd.ntmps58
  go_wp2
  go_ret
  exact ⟨rfl, (Only.refl _ _).setCell (.inl (by simp)) _⟩

/-- the bytes of a row from `off` on -/
theorem RowAt.vrow_at {e : TypeId} {w : World} {g n : Nat} {l : List Int} (h : RowAt bE e 1 w g n l) (hl : l.length = n) (off size c : Nat) (h1 : off + size ≤ n) (h2 : size ≤ c) (h3 : c ≤ maxLen) : VRow bE 1 w (some ⟨g, off, none⟩) size c ((l.drop off).take size) := by
  have hlt : g < w.heap.size := h.lt
  refine ⟨by simp; omega, h2, h3, by simp, fun i x hx => ⟨g, off, rfl, hlt, fun j v hv => ?_⟩⟩
  have hj : j = 0 := by
    have := (List.getElem?_eq_some_iff.1 hv).1
    simp at this; exact this
  subst hj
  have hx' : l[off + i]? = some x := by
    rw [List.getElem?_take] at hx
    split at hx
    · simpa [List.getElem?_drop] using hx
    · cases hx
  have := RowAt.cell (s := 1) (enc := bE) (fun _ => rfl) h (i := off + i) (j := 0) hx' (by decide)
  rw [← hv, ← this]
  congr 2
  omega

set_option maxHeartbeats 400000 in
theorem wuint {w : World} {r g off m c N : Nat} {l : List Int} (h : RdAt w r g off m c) (hrow : RowAt bE 5 1 w g N l) (hN : l.length = N) (hb : Bytes l) (hrg : r ≠ g) (size : Nat) (s1 : 1 ≤ size) (s8 : size ≤ 8) (h1 : size < c) (h2 : size ≤ m) (h4 : c ≤ 1000000) (h5 : off + size ≤ N) :
    Calls Tryd.prog 40 #[.pointer (some ⟨r, 0, none⟩), .int .i64 size] w fun e w' => e = .returned (.int .u64 (numB ((l.drop off).take size))) ∧ RdAt w' r g (off + size) (m - size) (c - size) ∧ Only [r] w w' := by
  have H := Lib.hid h; have HR := Lib.hid hrow; have HB := Lib.hid hb; have HN := Lib.hid hN
  clear h hrow hb hN
  go_enter Tryd.func40, Tryd.ntmps40
  go_wp2_with fail
  refine (sized_yes size w s1 s8).mono ?_
  rintro e w' ⟨rfl, rfl⟩
  go_wp2_with fail
  refine (wtake H.out size h1 h2 h4).mono ?_
  rintro e w1 ⟨rfl, hr1, ho1⟩
  have R1 := Lib.hid hr1; clear hr1
  go_wp2_with fail
  refine (wnumber ((HR.out.kept ho1 (by simpa using Ne.symm hrg)).vrow_at HN.out off size c h5 (by omega) (by simp [maxLen]; omega)) ((HB.out.drop off).take size) s8).mono ?_
  rintro e w2 ⟨rfl, rfl⟩
  go_wp2_with fail
  go_ret
  exact ⟨rfl, R1.out, ho1⟩
set_option maxHeartbeats 400000 in
theorem wuint_all {w : World} {r g off m N : Nat} {l : List Int} (h : RdAt w r g off m m) (hrow : RowAt bE 5 1 w g N l) (hN : l.length = N) (hb : Bytes l) (hrg : r ≠ g) (s1 : 1 ≤ m) (s8 : m ≤ 8) (h5 : off + m ≤ N) :
    Calls Tryd.prog 40 #[.pointer (some ⟨r, 0, none⟩), .int .i64 m] w fun e w' => e = .returned (.int .u64 (numB ((l.drop off).take m))) ∧ Only [r] w w' := by
  have H := Lib.hid h; have HR := Lib.hid hrow; have HB := Lib.hid hb; have HN := Lib.hid hN
  clear h hrow hb hN
  go_enter Tryd.func40, Tryd.ntmps40
  go_wp2_with fail
  refine (sized_yes m w s1 s8).mono ?_
  rintro e w' ⟨rfl, rfl⟩
  go_wp2_with fail
  refine (wtake_all H.out).mono ?_
  rintro e w1 ⟨rfl, ho1⟩
  go_wp2_with fail
  refine (wnumber ((HR.out.kept ho1 (by simpa using Ne.symm hrg)).vrow_at HN.out off m m h5 (by omega) (by simp [maxLen]; omega)) ((HB.out.drop off).take m) s8).mono ?_
  rintro e w2 ⟨rfl, rfl⟩
  go_wp2_with fail
  go_ret
  exact ⟨rfl, ho1⟩

set_option maxHeartbeats 400000 in
theorem wnew {w : World} {p : Option Addr} {n cap : Nat} {l : List Int} (hv : VRow bE 1 w p n cap l) (hn : n ≤ 1000000) :
    Calls Tryd.prog 39 #[.slice p n cap] w fun e w' => e = .returned (.pointer (some ⟨w.heap.size + 1, 0, none⟩)) ∧ RdAt w' (w.heap.size + 1) w.heap.size 0 n n ∧ RowAt bE 5 1 w' w.heap.size n l ∧ Only [] w w' := by
  obtain ⟨i0, hi, hz0, hz1, hz2⟩ := info_parts info_u8
  have HV := Lib.hid hv; have HL := Lib.hid hv.len
  clear hv
  go_enter Tryd.func39, Tryd.ntmps39
  go_wp2_with (first | (at_make; refine wpList_make_row bE rfl _ _ 37 rfl 5 i0 (.int .u8 0) 1 1 Tryd.underlying37 hi hz0 hz1 hz2 (fun _ => rfl) 0 rfl .i64 .i64 _ _ n rfl rfl (by omega) (by omega) (by omega) (by simp [maxLen]; omega) ?_; intro w3 hrow3 ho3 hs3) | (with_reducible refine wpList_copy_bytes rfl (.tmp 7) (.tmp 8) 37 37 rfl 5 Tryd.underlying37 (by kernel_rfl) _ _ _ _ _ _ rfl rfl _ _ hrow3 (by simp) (HV.out.kept ho3) (by omega) ?_))
  intro w4 hrow4 ho4 hs4
  have R4 : Hid (RowAt bE 5 1 w4 w.heap.size n l) := Lib.hid (by simpa using hrow4)
  have O4 := Lib.hid (Only.mono (S' := []) (ho3.nil_left ho4) (by simp))
  clear hrow3 ho3 hs3 hrow4 ho4
  go_wp2
  go_ret
  have e4 : w4.heap.size = w.heap.size + 1 := hs4
  refine ⟨rfl, ?_, R4.out.kept ((Only.refl [] w4).alloc _) (by simp), O4.out.alloc _⟩
  unfold RdAt
  rw [← e4]
  exact alloc_new _ _
end Go.Proofs.YtmkiojnhjfkepaaDoor
