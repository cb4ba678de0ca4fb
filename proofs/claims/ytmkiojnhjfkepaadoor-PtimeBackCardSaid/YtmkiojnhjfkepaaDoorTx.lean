/- What digits and Text of the reference compute. No condition but the number's size. -/
import Derived.Test.YtmkiojnhjfkepaaDoorWl
namespace Go.Proofs.YtmkiojnhjfkepaaDoor
open Go.RowKit

/-- the `i` lowest digits of `u` -/
def low (u : Nat) : Nat → List UInt8
  | 0 => []
  | i + 1 => UInt8.ofNat (48 + u / 10 ^ i % 10) :: low u i
theorem low_length (u i : Nat) : (low u i).length = i := by
  induction i with
  | zero => rfl
  | succ i ih => simp [low, ih]

theorem low_step (u i : Nat) : (⟨(low u (i + 1)).toArray⟩ : ByteArray) = strOfNums [48 + ((u / 10 ^ i : Nat) : Int) % 10] ++ ⟨(low u i).toArray⟩ := by
  have e : (48 + ((u / 10 ^ i : Nat) : Int) % 10).toNat = 48 + u / 10 ^ i % 10 := by omega
  have e1 : strOfNums [48 + ((u / 10 ^ i : Nat) : Int) % 10] = ⟨#[UInt8.ofNat (48 + u / 10 ^ i % 10)]⟩ := by
    rw [← e]; rfl
  rw [e1]
  apply ByteArray.ext
  rw [ByteArray.data_append]
  simp [low]

/-- what the loop of digits keeps -/
def DigRel (u I : Nat) (w : World) (vk vs vi : Value) (wr : World) : Prop := ∃ i : Nat, i ≤ I ∧ vi = .int .i64 i ∧ vk = .int .i64 ((u / 10 ^ i : Nat) : Int) ∧ vs = .string ⟨(low u i).toArray⟩ ∧ Only [] w wr

set_option maxRecDepth 100000 in
set_option maxHeartbeats 1000000 in
theorem rdigits (u n I : Nat) (w : World) (hu : u ≤ 9223372036854775807) (hn : n ≤ 20) (hI : ∀ i, (i < n ∨ 0 < u / 10 ^ i) ↔ i < I) (hI2 : I ≤ 20) :
    Calls Tryd.prog 43 #[.int .i64 u, .int .i64 n] w fun e w' => e = .returned (.string ⟨(low u I).toArray⟩) ∧ Only [] w w' := by
  have HI := Lib.hid hI; clear hI
  go_enter Tryd.func43, Tryd.ntmps43
  go_wp2
  go_loopw [0, 5, 6] (fun vk vs vi wr => DigRel u I w vk vs vi wr) (fun _ _ vi _ => I - (intOf vi).toNat)
  case atStart => exact ⟨0, Nat.zero_le _, rfl, by simp, rfl, Only.refl _ _⟩
  case round =>
    obtain ⟨i, hi, rfl, rfl, rfl, ho⟩ := hrel
    have OO := Lib.hid ho; clear ho
    have hk : u / 10 ^ i ≤ 9223372036854775807 := Nat.le_trans (Nat.div_le_self _ _) hu
    have hsz : (low u i).length = i := low_length u i
    have hiff := HI.out i
    obtain ⟨K, hK⟩ : ∃ K, K = u / 10 ^ i := ⟨_, rfl⟩
    obtain ⟨X, hX⟩ : ∃ X : ByteArray, X = ⟨(low u i).toArray⟩ := ⟨_, rfl⟩
    have hXs : X.size ≤ 20 := by rw [hX]; simp [ByteArray.size, hsz]; omega
    rw [← hK] at hk hiff ⊢
    rw [← hX]
    have HK := Lib.hid hK; have HX := Lib.hid hX; have HS := Lib.hid hsz
    clear hK hX hsz
    by_cases hlt : i < I
    · have hc := hiff.2 hlt
      obtain ⟨C, hC⟩ : ∃ C : ByteArray, C = strOfNums [48 + (K : Int) % 10] := ⟨_, rfl⟩
      have hcv : (convert 37 9 (.slice (some ⟨wr.heap.size, 0, none⟩) 1 1)).run Tryd.prog (wr.alloc (.cells #[.int .u8 (48 + (K : Int) % 10)] 5)) = .ok (.string C) (wr.alloc (.cells #[.int .u8 (48 + (K : Int) % 10)] 5)) := by
        rw [hC]
        exact Lib.BytesIn.convert ((row_of_bytes (l := [48 + (K : Int) % 10]) (alloc_new _ _) (by simp [maxLen])).vrow rfl).bytesIn rfl 1 37 5 9 Tryd.underlying37 Tryd.underlying5 Tryd.underlying9
      have hCs : C.size = 1 := by rw [hC]; rfl
      have hCX : Hid ((⟨(low u (i + 1)).toArray⟩ : ByteArray) = C ++ X) := Lib.hid (by
        rw [hC, HX.out, HK.out]
        exact low_step u i)
      have hKn : Hid ((u / 10 ^ (i + 1) : Nat) = K / 10) := Lib.hid (by rw [HK.out, Nat.pow_succ, Nat.div_div_eq_div_mul])
      have hc1 : ¬ 9223372036854775807 < 1 + X.size := by omega
      have hc2 : ¬ 9223372036854775807 < C.size + X.size := by omega
      clear hC
      by_cases hin : i < n
      · have d1 : decide ((i : Int) < (n : Int)) = true := by simp; omega
        clear hiff hc
        go_wp2
        go_roundw
        case rel => exact ⟨i + 1, by omega, by go_num, by rw [hKn.out]; go_num, by rw [hCX.out], OO.out.alloc _⟩
        case measure => simp [intOf]; omega
      · have d1 : decide ((i : Int) < (n : Int)) = false := by simp; omega
        have hK0 : 0 < K := by omega
        have d2 : decide (0 < (K : Int)) = true := by simp; omega
        clear hiff hc
        go_wp2
        go_roundw
        case rel => exact ⟨i + 1, by omega, by go_num, by rw [hKn.out]; go_num, by rw [hCX.out], OO.out.alloc _⟩
        case measure => simp [intOf]; omega
    · have hc : ¬ (i < n ∨ 0 < K) := fun h => hlt (hiff.1 h)
      obtain rfl : i = I := by omega
      obtain rfl : K = 0 := by omega
      have d1 : decide (i < n) = false := by simp; omega
      clear hc hiff
      go_wp2
      go_ret
      exact ⟨by rw [HX.out]; rfl, OO.out⟩

theorem low_dg (u i : Nat) : low u i = (List.range i).map fun t => Lib.dg u (i - 1 - t) := by
  induction i with
  | zero => rfl
  | succ i ih =>
    rw [low, List.range_succ_eq_map, List.map_cons, List.map_map, ih]
    congr 1
    apply List.map_congr_left
    intro t ht
    simp only [Function.comp_def, Nat.succ_eq_add_one]
    congr 1
    have := List.mem_range.1 ht
    omega
theorem low_dec (u : Nat) : low u (Lib.nDigits u) = Lib.decDigits u := by rw [low_dg, Lib.decDigits_eq]
theorem pow_le_of_nDigits (u : Nat) (h : 0 < u) : 10 ^ (Lib.nDigits u - 1) ≤ u := by
  induction u using Nat.strongRecOn with
  | _ u ih =>
    by_cases h10 : u < 10
    · rw [Lib.nDigits_small h10]; simp; omega
    · rw [Lib.nDigits_big h10]
      have := ih (u / 10) (by omega) (by omega)
      have hp := Lib.nDigits_pos (u / 10)
      rw [show Lib.nDigits (u / 10) + 1 - 1 = (Lib.nDigits (u / 10) - 1) + 1 by omega, Nat.pow_succ]
      omega
theorem digit_iff (u i : Nat) : 0 < u / 10 ^ i ↔ 0 < u ∧ i < Lib.nDigits u := by
  have hp : 0 < 10 ^ i := Nat.pow_pos (by omega)
  constructor
  · intro h
    have h1 : 10 ^ i ≤ u := (Nat.div_pos_iff.1 h).2
    refine ⟨by omega, ?_⟩
    rcases Nat.lt_or_ge i (Lib.nDigits u) with h2 | h2
    · exact h2
    · have := Lib.lt_pow_nDigits u
      have h3 : 10 ^ Lib.nDigits u ≤ 10 ^ i := Nat.pow_le_pow_right (by omega) h2
      omega
  · rintro ⟨h1, h2⟩
    have h3 := pow_le_of_nDigits u h1
    have h4 : 10 ^ i ≤ 10 ^ (Lib.nDigits u - 1) := Nat.pow_le_pow_right (by omega) (by omega)
    exact Nat.div_pos (by omega) hp
theorem nDigits_le_of_lt (u k : Nat) (hk : 1 ≤ k) (h : u < 10 ^ k) : Lib.nDigits u ≤ k := by
  rcases Nat.lt_or_ge k (Lib.nDigits u) with h2 | h2
  · by_cases h0 : u = 0
    · subst h0; rw [Lib.nDigits_small (by omega)] at h2; omega
    · have h3 := pow_le_of_nDigits u (by omega)
      have h4 : 10 ^ k ≤ 10 ^ (Lib.nDigits u - 1) := Nat.pow_le_pow_right (by omega) (by omega)
      omega
  · exact h2

theorem rdigits1 (u : Nat) (w : World) (hu : u ≤ 281474976710655) :
    Calls Tryd.prog 43 #[.int .i64 u, .int .i64 1] w fun e w' => e = .returned (.string ⟨(Lib.decDigits u).toArray⟩) ∧ Only [] w w' := by
  have h20 := nDigits_le_of_lt u 15 (by omega) (by have : (10 : Nat) ^ 15 = 1000000000000000 := by decide
                                                   omega)
  have hp := Lib.nDigits_pos u
  have h := rdigits u 1 (Lib.nDigits u) w (by omega) (by omega) (fun i => by
    rw [digit_iff]
    constructor
    · rintro (h | h)
      · omega
      · exact h.2
    · intro h
      by_cases h0 : i < 1
      · exact .inl h0
      · right
        refine ⟨?_, h⟩
        rcases Nat.eq_zero_or_pos u with rfl | h1
        · rw [Lib.nDigits_small (by omega)] at h; omega
        · exact h1) (by omega)
  rw [low_dec] at h
  exact h
theorem rdigits9 (u : Nat) (w : World) (hu : u ≤ 999999999) :
    Calls Tryd.prog 43 #[.int .i64 u, .int .i64 9] w fun e w' => e = .returned (.string ⟨(low u 9).toArray⟩) ∧ Only [] w w' := by
  have h20 := nDigits_le_of_lt u 9 (by omega) (by have : (10 : Nat) ^ 9 = 1000000000 := by decide
                                                  omega)
  exact rdigits u 9 9 w (by omega) (by omega) (fun i => by rw [digit_iff]; omega) (by omega)

theorem low9 (u : Nat) (hu : u ≤ 999999999) : (Lib.decDigits (1000000000 + u)).drop 1 = low u 9 := by
  have h1 : Lib.nDigits (1000000000 + u) = 10 := Lib.nDigits_unique 9 _ (by omega) (by omega)
  rw [← low_dec, h1]
  have key : ∀ i, i ≤ 9 → low (1000000000 + u) i = low u i := by
    intro i
    induction i with
    | zero => intro _; rfl
    | succ i ih =>
      intro hi
      rw [low, low, ih (by omega)]
      congr 3
      obtain ⟨c, hc⟩ : ∃ c, 1000000000 = 10 ^ i * (10 * c) := ⟨10 ^ (8 - i), by
        rw [← Nat.mul_assoc, ← Nat.pow_succ, ← Nat.pow_add, show i.succ + (8 - i) = 9 by omega]⟩
      rw [hc, Nat.mul_add_div (Nat.pow_pos (by omega)), Nat.mul_add_mod]
  rw [low, List.drop_one, List.tail_cons, key 9 (by omega)]

/-- the text of a timestamp, as a list -/
def stL (S M : Nat) : List UInt8 := Lib.decDigits S ++ 46 :: low M 9
theorem stStr_list (S M : Nat) (h : M ≤ 999999999) : stStr S M = ⟨(stL S M).toArray⟩ := by
  unfold stStr stL
  rw [Lib.itoa_nonneg, show (1000000000 + (M : Int)) = ((1000000000 + M : Nat) : Int) by omega, Lib.itoa_nonneg, ← low9 M h]
  apply ByteArray.ext
  simp [ByteArray.data_extract, ByteArray.size]
  rw [List.take_of_length_le (by simp)]
theorem str3 (S M : Nat) : (⟨(Lib.decDigits S).toArray⟩ ++ ⟨#[46]⟩ ++ ⟨(low M 9).toArray⟩ : ByteArray) = ⟨(stL S M).toArray⟩ := by
  apply ByteArray.ext
  simp [stL]

theorem Rtext_no (s n : Int) (w : World) (h : ¬ stOk s n) :
    Calls Tryd.prog 28 #[.agg #[.int .i64 s, .int .i64 n]] w fun e w' => e = .returned (.string ⟨#[]⟩) ∧ Only [] w w' := by
  go_enter Tryd.func28, Tryd.ntmps28
  go_wp2_with fail
  refine alloc_abs (G := fun w0 => Calls _ _ _ w0 _) ?_
  intro w1 hb1 ho1 hs1
  clear hb1 hs1
  refine (Rcheck_no s n w1 h).mono ?_
  rintro e w2 ⟨rfl, ho2⟩
  go_wp2_with fail
  go_ret
  exact ⟨rfl, ho1.nil_trans ho2⟩

set_option maxHeartbeats 400000 in
theorem Rtext_yes (S M : Nat) (w : World) (h : stOk S M) :
    Calls Tryd.prog 28 #[.agg #[.int .i64 S, .int .i64 M]] w fun e w' => e = .returned (.string ⟨(stL S M).toArray⟩) ∧ Only [] w w' := by
  have h' := h
  obtain ⟨h1, h2, h3, h4⟩ := h'
  rw [← str3]
  obtain ⟨X, hX⟩ : ∃ X : ByteArray, X = ⟨(low M 9).toArray⟩ := ⟨_, rfl⟩
  obtain ⟨Y, hY⟩ : ∃ Y : ByteArray, Y = ⟨(Lib.decDigits S).toArray⟩ := ⟨_, rfl⟩
  have hXt : X.size ≤ 100 := by rw [hX]; simp [ByteArray.size, low_length]
  have hYt : Y.size ≤ 100 := by
    rw [hY]
    have := nDigits_le_of_lt S 15 (by omega) (by have : (10 : Nat) ^ 15 = 1000000000000000 := by decide
                                                 omega)
    simp [ByteArray.size, Lib.decDigits_length]; omega
  rw [← hX, ← hY]
  have EX := Lib.hid hX; have EY := Lib.hid hY
  clear hX hY
  go_enter Tryd.func28, Tryd.ntmps28
  go_wp2_with fail
  refine alloc_abs (G := fun w0 => Calls _ _ _ w0 _) ?_
  intro w1 hb1 ho1 hs1
  have B1 := Lib.hid hb1
  clear hb1 hs1
  refine (Rcheck_yes S M w1 h).mono ?_
  rintro e w2 ⟨rfl, ho2⟩
  have B2 := Lib.hid (ho2.got B1.out (by simp))
  have g0 := cell_got B2.out 0; have g1 := cell_got B2.out 1
  have hlt := got_lt B2.out
  go_wp2_with fail
  refine wp_region_grown [0,1,2,3,4,5,6,7,8] [] (by kernel_rfl) (by kernel_rfl) ?_
  simp only [pick, List.map_cons, List.map_nil, List.getD_cons_succ, List.getD_cons_zero]
  iterate 2 (refine wpQuiet_step (fun K hK => ?_); go_simp; refine hK _ ?_; clear hK K)
  have hc1 : ¬ 9223372036854775807 < Y.size + 1 := by omega
  have hc2 : ¬ 9223372036854775807 < Y.size + 1 + X.size := by omega
  refine wpQuiet_enter rfl 43 #[.int .i64 S, .int .i64 1] (fun _ => by kernel_rfl) (.string Y) (grown_only fun w' _ => by rw [EY.out]; exact rdigits1 S w' (by omega)) ?_
  iterate 3 (refine wpQuiet_step (fun K hK => ?_); go_simp; refine hK _ ?_; clear hK K)
  refine wpQuiet_enter rfl 43 #[.int .i64 M, .int .i64 9] (fun _ => by kernel_rfl) (.string X) (grown_only fun w' _ => by rw [EX.out]; exact rdigits9 M w' (by omega)) ?_
  iterate 2 (refine wpQuiet_step (fun K hK => ?_); go_simp; refine hK _ ?_; clear hK K)
  refine wpQuiet_nil ?_
  intro w4 hw4
  have ho4 := only_of_plus hw4; clear hw4
  go_wp2
  go_ret
  exact ⟨rfl, (ho1.nil_trans ho2).nil_trans ho4⟩
end Go.Proofs.YtmkiojnhjfkepaaDoor
