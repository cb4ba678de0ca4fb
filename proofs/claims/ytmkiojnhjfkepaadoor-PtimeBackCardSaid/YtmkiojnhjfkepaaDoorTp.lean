/- What Parse of the reference computes: the timestamp with that text, or the error. Condition: the length of the string. -/
import Derived.Test.YtmkiojnhjfkepaaDoorTn
namespace Go.Proofs.YtmkiojnhjfkepaaDoor
open Go.RowKit

/-- the timestamp with this text -/
def Txt (l : List UInt8) (S M : Nat) : Prop := stOk S M ∧ l = stL S M
/-- what Parse returns -/
def parV (o : Option (Nat × Nat)) : Value := match o with
  | some (S, M) => .tuple #[.agg #[.int .i64 S, .int .i64 M], .int .i64 0]
  | none => .tuple #[.agg #[.int .i64 0, .int .i64 0], .int .i64 19]

theorem stL_length (S M : Nat) : (stL S M).length = Lib.nDigits S + 10 := by simp [stL, Lib.decDigits_length, low_length]
theorem decFrom_low (u : Nat) : ∀ (i acc : Nat), Lib.decFrom acc (low u i) = some (acc * 10 ^ i + u % 10 ^ i) := by
  intro i
  induction i with
  | zero => intro acc; simp [low, Lib.decFrom, Nat.mod_one]
  | succ i ih =>
    intro acc
    have hd : Lib.digitVal (UInt8.ofNat (48 + u / 10 ^ i % 10)) = some (u / 10 ^ i % 10) := by
      have h1 : (UInt8.ofNat (48 + u / 10 ^ i % 10)).toNat = 48 + u / 10 ^ i % 10 := by
        rw [UInt8.toNat_ofNat']; exact Nat.mod_eq_of_lt (by omega)
      unfold Lib.digitVal
      rw [h1, if_pos (by omega)]
      congr 1; omega
    rw [low, Lib.decFrom, hd]
    simp only []
    rw [ih]
    congr 1
    rw [Nat.pow_succ, Nat.mod_mul]
    generalize u / 10 ^ i % 10 = d
    generalize u % 10 ^ i = r
    generalize 10 ^ i = p
    grind
theorem decFrom_dec (S : Nat) : Lib.decFrom 0 (Lib.decDigits S) = some S := by
  rw [← low_dec, decFrom_low, Nat.zero_mul, Nat.zero_add, Nat.mod_eq_of_lt (Lib.lt_pow_nDigits S)]
theorem decFrom_low9 (M : Nat) (h : M ≤ 999999999) : Lib.decFrom 0 (low M 9) = some M := by
  rw [decFrom_low, Nat.zero_mul, Nat.zero_add, Nat.mod_eq_of_lt (by omega)]
theorem stL_take (S M : Nat) : (stL S M).take (Lib.nDigits S) = Lib.decDigits S := by
  unfold stL
  rw [List.take_append_of_le_length (by rw [Lib.decDigits_length]; exact Nat.le_refl _), List.take_of_length_le (by rw [Lib.decDigits_length]; exact Nat.le_refl _)]
theorem stL_drop (S M : Nat) : (stL S M).drop (Lib.nDigits S + 1) = low M 9 := by
  unfold stL
  rw [List.drop_append, Lib.decDigits_length, List.drop_of_length_le (by rw [Lib.decDigits_length]; omega), show Lib.nDigits S + 1 - Lib.nDigits S = 1 by omega]
  rfl
theorem stL_nd (S : Nat) (h : S ≤ 281474976710655) : Lib.nDigits S ≤ 15 := by
  have h15 : (10 : Nat) ^ 15 = 1000000000000000 := by decide
  exact nDigits_le_of_lt S 15 (by omega) (by omega)
theorem numR_dec (S : Nat) (h : S ≤ 281474976710655) : numR (Lib.decDigits S) = some S := by
  unfold numR
  rw [if_neg, decFrom_dec]
  have := stL_nd S h
  have hp := Lib.nDigits_pos S
  rintro (h1 | h1)
  · have := congrArg List.length h1; rw [Lib.decDigits_length] at this; simp at this; omega
  · rw [Lib.decDigits_length] at h1; omega
theorem numR_low (M : Nat) (h : M ≤ 999999999) : numR (low M 9) = some M := by
  unfold numR
  rw [if_neg, decFrom_low9 M h]
  rintro (h1 | h1)
  · have := congrArg List.length h1; rw [low_length] at this; simp at this
  · rw [low_length] at h1; omega
theorem numR_lt {l : List UInt8} {n : Nat} (h : numR l = some n) : n < 1000000000000000 := by
  unfold numR at h
  split at h
  · cases h
  · rename_i hn
    have h1 := Lib.decFrom_lt _ _ _ h
    have h2 : 10 ^ l.length ≤ 10 ^ 15 := Nat.pow_le_pow_right (by omega) (by omega)
    have h3 : (10 : Nat) ^ 15 = 1000000000000000 := by decide
    omega

theorem str_eq_list {s t : ByteArray} (h : s.data.toList = t.data.toList) : s = t := by
  apply ByteArray.ext
  exact Array.ext' h

theorem Rparse_len (s : ByteArray) (w : World) (h : s.size < 11 ∨ 25 < s.size) (h2 : s.size ≤ 1000000) :
    Calls Tryd.prog 30 #[.string s] w fun e w' => e = .returned (parV none) ∧ Only [] w w' := by
  rcases h with h | h
  · have d1 : decide ((s.size : Int) < 11) = true := by simp; omega
    have d2 : decide (s.size < 11) = true := by simp; omega
    go_enter Tryd.func30, Tryd.ntmps30
    go_wp2
    exact bodyPost_ret (v := .tuple #[.agg #[.int .i64 0, .int .i64 0], .int .i64 19]) (by simp [results, Tryd.results30, go_sem]) rfl ⟨rfl, (Only.refl [] w).alloc _⟩
  · have d1 : decide ((s.size : Int) < 11) = false := by simp; omega
    have d2 : decide (25 < (s.size : Int)) = true := by simp; omega
    go_enter Tryd.func30, Tryd.ntmps30
    go_wp2
    exact bodyPost_ret (v := .tuple #[.agg #[.int .i64 0, .int .i64 0], .int .i64 19]) (by simp [results, Tryd.results30, go_sem]) rfl ⟨rfl, (Only.refl [] w).alloc _⟩

set_option maxRecDepth 100000 in
set_option maxHeartbeats 1000000 in
theorem Rparse_any (s : ByteArray) (w : World) (t : Nat) (ht : s.size = t + 10) (h1 : 1 ≤ t) (h2 : t ≤ 15) (o : Option (Nat × Nat))
    (ho : ∀ S M : Nat, numR (s.data.toList.take t) = some S → numR (s.data.toList.drop (t + 1)) = some M → (if stOk S M ∧ s.data.toList = stL S M then o = some (S, M) else o = none))
    (ho1 : numR (s.data.toList.take t) = none → o = none) (ho2 : numR (s.data.toList.drop (t + 1)) = none → o = none) :
    Calls Tryd.prog 30 #[.string s] w fun e w' => e = .returned (parV o) ∧ Only [] w w' := by
  have e1 : (s.extract 0 t).data.toList = s.data.toList.take t := by rw [ByteArray.data_extract]; simp
  have e2 : (s.extract (t + 1) s.size).data.toList = s.data.toList.drop (t + 1) := by
    rw [ByteArray.data_extract, Array.toList_extract, List.extract_eq_take_drop, List.take_of_length_le (by rw [List.length_drop, Array.length_toList]; exact Nat.le_refl _)]
  have HN1 : Hid (∀ w, Calls Tryd.prog 46 #[.string (s.extract 0 t)] w fun e w' => e = .returned (numV (numR (s.data.toList.take t))) ∧ w = w') := Lib.hid fun w => by
    have := rnumber (s.extract 0 t) w (by simp; omega)
    rwa [e1] at this
  have HN2 : Hid (∀ w, Calls Tryd.prog 46 #[.string (s.extract (t + 1) s.size)] w fun e w' => e = .returned (numV (numR (s.data.toList.drop (t + 1)))) ∧ w = w') := Lib.hid fun w => by
    have := rnumber (s.extract (t + 1) s.size) w (by simp; omega)
    rwa [e2] at this
  have hb1 : ∀ n, numR (s.data.toList.take t) = some n → n < 1000000000000000 := fun n h => numR_lt h
  have hb2 : ∀ n, numR (s.data.toList.drop (t + 1)) = some n → n < 1000000000000000 := fun n h => numR_lt h
  generalize numR (s.data.toList.take t) = A at *
  generalize numR (s.data.toList.drop (t + 1)) = B at *
  have d1 : decide ((s.size : Int) < 11) = false := by simp; omega
  have d2 : decide (25 < (s.size : Int)) = false := by simp; omega
  have hat : (s.size : Int) - 10 = (t : Int) := by omega
  have hle : (t : Int) ≤ (s.size : Int) := by omega
  have hle1 : (t : Int) + 1 ≤ (s.size : Int) := by omega
  have HO := Lib.hid ho; have HO1 := Lib.hid ho1; have HO2 := Lib.hid ho2; have HB1 := Lib.hid hb1; have HB2 := Lib.hid hb2; have HTS := Lib.hid ht
  clear e1 e2 ho ho1 ho2 hb1 hb2 ht
  go_enter Tryd.func30, Tryd.ntmps30
  go_wp2_with fail
  refine alloc_abs (G := fun w0 => Calls _ _ _ w0 _) ?_
  intro w1 hb1 ho1 hs1
  have B1 := Lib.hid hb1; have O1 := Lib.hid ho1
  clear hb1 hs1 ho1
  refine (HN1.out w1).mono ?_
  rintro e w2 ⟨rfl, rfl⟩
  rw [show numV A = .tuple #[.int .i64 ((A.getD 0 : Nat) : Int), .bool A.isSome] from rfl]
  obtain ⟨v1, hv1⟩ : ∃ v1, v1 = A.getD 0 := ⟨_, rfl⟩
  obtain ⟨b1, hb1⟩ : ∃ b1, b1 = A.isSome := ⟨_, rfl⟩
  rw [← hv1, ← hb1]
  have V1 := Lib.hid hv1; have E1 := Lib.hid hb1
  clear hv1 hb1
  go_wp2_with fail
  refine (HN2.out w1).mono ?_
  rintro e w2 ⟨rfl, rfl⟩
  rw [show numV B = .tuple #[.int .i64 ((B.getD 0 : Nat) : Int), .bool B.isSome] from rfl]
  obtain ⟨v2, hv2⟩ : ∃ v2, v2 = B.getD 0 := ⟨_, rfl⟩
  obtain ⟨b2, hb2⟩ : ∃ b2, b2 = B.isSome := ⟨_, rfl⟩
  rw [← hv2, ← hb2]
  have V2 := Lib.hid hv2; have E2 := Lib.hid hb2
  clear hv2 hb2
  cases b1
  · have hn : o = none := HO1.out (by cases A with
      | none => rfl
      | some x => have := E1.out; simp at this)
    have HNn := Lib.hid hn
    clear hn
    have g0 := cell_got B1.out 0; have g1 := cell_got B1.out 1
    have f0 := frozen_got B1.out 0; have f1 := frozen_got B1.out 1
    have l0 := got_lt B1.out
    go_wp2
    exact bodyPost_ret (v := .tuple #[.agg #[.int .i64 0, .int .i64 0], .int .i64 19]) (by simp [results, Tryd.results30, go_sem, g0, g1, l0]) rfl ⟨by rw [HNn.out]; rfl, ((O1.out.setCell (.inr (Nat.le_refl _)) _).setCell (.inr (Nat.le_refl _)) _).alloc _⟩
  · cases b2
    · have hn : o = none := HO2.out (by cases B with
        | none => rfl
        | some x => have := E2.out; simp at this)
      have HNn := Lib.hid hn
      clear hn
      have g0 := cell_got B1.out 0; have g1 := cell_got B1.out 1
      have f0 := frozen_got B1.out 0; have f1 := frozen_got B1.out 1
      have l0 := got_lt B1.out
      go_wp2
      exact bodyPost_ret (v := .tuple #[.agg #[.int .i64 0, .int .i64 0], .int .i64 19]) (by simp [results, Tryd.results30, go_sem, g0, g1, l0]) rfl ⟨by rw [HNn.out]; rfl, ((O1.out.setCell (.inr (Nat.le_refl _)) _).setCell (.inr (Nat.le_refl _)) _).alloc _⟩
    · have hA : A = some v1 := by
        cases A with
        | none => have := E1.out; simp at this
        | some x => have := V1.out; simp at this; rw [this]
      have hB : B = some v2 := by
        cases B with
        | none => have := E2.out; simp at this
        | some x => have := V2.out; simp at this; rw [this]
      have hoo := HO.out v1 v2 hA hB
      have HOO := Lib.hid hoo
      clear hA hB hoo
      go_wp2_with fail
      refine alloc_abs (G := fun w0 => Calls _ _ _ w0 _) ?_
      intro w5 hb5 ho5 hs5
      have B5 := Lib.hid (ho5.got B1.out (by simp)); have O5 := Lib.hid (O1.out.nil_trans ho5); have C5 := Lib.hid hb5
      clear hb5 hs5 ho5 B1
      by_cases hok : stOk v1 v2
      · refine (Rtext_yes v1 v2 w5 hok).mono ?_
        rintro e w6 ⟨rfl, ho6⟩
        have B6 := Lib.hid (ho6.got B5.out (by simp)); have O6 := Lib.hid (O5.out.nil_trans ho6); have C6 := Lib.hid (ho6.got C5.out (by simp))
        have k0 := cell_got C6.out 0; have k1 := cell_got C6.out 1
        have g0 := cell_got B6.out 0; have g1 := cell_got B6.out 1
        have f0 := frozen_got B6.out 0; have f1 := frozen_got B6.out 1
        have l0 := got_lt B6.out
        clear ho6 B5 C5
        obtain ⟨T, hT⟩ : ∃ T : ByteArray, T = ⟨(stL v1 v2).toArray⟩ := ⟨_, rfl⟩
        rw [← hT]
        have HT := Lib.hid hT
        clear hT
        have hTl : T.data.toList = stL v1 v2 := by rw [HT.out]
        by_cases hs : T = s
        · have hoo := HOO.out
          rw [if_pos ⟨hok, by rw [← hs]; exact hTl⟩] at hoo
          have HQ := Lib.hid hoo
          clear hoo HOO
          have hts : (T.toList == s.toList) = true := by rw [hs]; exact beq_self_eq_true _
          clear hs hTl
          go_wp2
          exact bodyPost_ret (v := .tuple #[.agg #[.int .i64 v1, .int .i64 v2], .int .i64 0]) (by simp [results, Tryd.results30, go_sem, g0, g1]) rfl ⟨by rw [HQ.out]; rfl, (O6.out.setCell (.inr (Nat.le_refl _)) _).setCell (.inr (Nat.le_refl _)) _⟩
        · have hoo := HOO.out
          rw [if_neg (fun h => hs (str_eq_list (by rw [hTl, h.2])))] at hoo
          have HQ := Lib.hid hoo
          have hts : (T.toList == s.toList) = false := by
            rw [Lib.toList_data, Lib.toList_data]
            exact beq_eq_false_iff_ne.2 fun h => hs (str_eq_list h)
          clear hoo HOO hs hTl
          go_wp2
          exact bodyPost_ret (v := .tuple #[.agg #[.int .i64 0, .int .i64 0], .int .i64 19]) (by simp [results, Tryd.results30, go_sem, g0, g1]) rfl ⟨by rw [HQ.out]; rfl, (O6.out.setCell (.inr (Nat.le_refl _)) _).setCell (.inr (Nat.le_refl _)) _⟩
      · refine (Rtext_no v1 v2 w5 hok).mono ?_
        rintro e w6 ⟨rfl, ho6⟩
        have B6 := Lib.hid (ho6.got B5.out (by simp)); have O6 := Lib.hid (O5.out.nil_trans ho6); have C6 := Lib.hid (ho6.got C5.out (by simp))
        have k0 := cell_got C6.out 0; have k1 := cell_got C6.out 1
        have g0 := cell_got B6.out 0; have g1 := cell_got B6.out 1
        have f0 := frozen_got B6.out 0; have f1 := frozen_got B6.out 1
        have l0 := got_lt B6.out
        clear ho6 B5 C5
        have hoo := HOO.out
        rw [if_neg (fun h => hok h.1)] at hoo
        have HQ := Lib.hid hoo
        have hne : s.data.toList ≠ [] := fun h => by
          have h9 : s.data.toList.length = s.size := by rw [Array.length_toList]; rfl
          rw [h, HTS.out] at h9; simp at h9
        have hi1 : s.data.toList.isEmpty = false := by cases hq : s.data.toList with
          | nil => exact absurd hq hne
          | cons a b => rfl
        have hi2 : s.toList.isEmpty = false := by rw [Lib.toList_data]; exact hi1
        have hts : (([] : List UInt8) == s.toList) = false := by
          rw [Lib.toList_data]; exact beq_eq_false_iff_ne.2 fun h => hne h.symm
        have hts2 : ((⟨#[]⟩ : ByteArray).toList == s.toList) = false := by
          rw [Lib.toList_data, Lib.toList_data]; exact beq_eq_false_iff_ne.2 fun h => hne h.symm
        clear hoo HOO hne
        go_wp2
        exact bodyPost_ret (v := .tuple #[.agg #[.int .i64 0, .int .i64 0], .int .i64 19]) (by simp [results, Tryd.results30, go_sem, g0, g1]) rfl ⟨by rw [HQ.out]; rfl, (O6.out.setCell (.inr (Nat.le_refl _)) _).setCell (.inr (Nat.le_refl _)) _⟩

theorem txt_parts {l : List UInt8} {S M : Nat} (h : Txt l S M) : ∃ t, l.length = t + 10 ∧ 1 ≤ t ∧ t ≤ 15 ∧ numR (l.take t) = some S ∧ numR (l.drop (t + 1)) = some M := by
  obtain ⟨⟨h1, h2, h3, h4⟩, rfl⟩ := h
  refine ⟨Lib.nDigits S, stL_length S M, Lib.nDigits_pos S, stL_nd S (by omega), ?_, ?_⟩
  · rw [stL_take]; exact numR_dec S (by omega)
  · rw [stL_drop]; exact numR_low M (by omega)

/-- Parse of the reference, at every string of at most 200 bytes -/
theorem Rparse_yes (s : ByteArray) (w : World) {S M : Nat} (h : Txt s.data.toList S M) :
    Calls Tryd.prog 30 #[.string s] w fun e w' => e = .returned (parV (some (S, M))) ∧ Only [] w w' := by
  obtain ⟨t, h1, h2, h3, h4, h5⟩ := txt_parts h
  have hl : s.data.toList.length = s.size := by rw [Array.length_toList]; rfl
  refine Rparse_any s w t (by omega) h2 h3 _ (fun S' M' a b => ?_) (fun a => by rw [h4] at a; cases a) (fun a => by rw [h5] at a; cases a)
  rw [h4] at a; rw [h5] at b
  cases a; cases b
  rw [if_pos (And.intro h.1 h.2)]
theorem Rparse_no (s : ByteArray) (w : World) (hs : s.size ≤ 200) (h : ∀ S M, ¬ Txt s.data.toList S M) :
    Calls Tryd.prog 30 #[.string s] w fun e w' => e = .returned (parV none) ∧ Only [] w w' := by
  by_cases hl : s.size < 11 ∨ 25 < s.size
  · exact Rparse_len s w hl (by omega)
  · refine Rparse_any s w (s.size - 10) (by omega) (by omega) (by omega) none (fun S M _ _ => ?_) (fun _ => rfl) (fun _ => rfl)
    rw [if_neg (fun q => h S M ⟨q.1, q.2⟩)]
end Go.Proofs.YtmkiojnhjfkepaaDoor
