/- What Parse of package ptime computes: the timestamp with that text, or the error. Conditions: the library's table and variables are laid; the length of the string. -/
import Derived.Test.YtmkiojnhjfkepaaDoorTp
import Derived.Test.YtmkiojnhjfkepaaDoorShelfT
import Derived.Lib.AtoiErrMem
import Derived.Lib.IndexMore
namespace Go.Proofs.YtmkiojnhjfkepaaDoor
open Go.RowKit

/-- what the library's variables hold -/
structure Env (w : World) : Prop where
  tab : Tab w
  maxLen : ∃ m, w.cell? ⟨0, 0, none⟩ = some (.int .i64 m)
  syn : ∃ tp p, w.var? Tryd.prog "strconv.ErrSyntax" = some #[.iface tp p]
  ran : ∃ tp p, w.var? Tryd.prog "strconv.ErrRange" = some #[.iface tp p]

theorem var_kept {w w' : World} {n : String} {g : Nat} {cs : Array Value} (hg : Tryd.prog.globalNamed n = some g) (h : w.var? Tryd.prog n = some cs) (ho : Only [] w w') : w'.var? Tryd.prog n = some cs := by
  unfold World.var? at *
  rw [hg] at *
  simp only [Option.bind_some] at *
  cases hb : w.heap[g]? with
  | none => simp [hb] at h
  | some o => rw [ho.got hb (by simp), ← hb]; exact h
theorem cell_kept {w w' : World} {b o : Nat} {v : Value} (h : w.cell? ⟨b, o, none⟩ = some v) (ho : Only [] w w') : w'.cell? ⟨b, o, none⟩ = some v := by
  rw [ho.cell (World.block_lt_of_cell? w _ h) (by simp)]; exact h
theorem Env.kept {w w' : World} (h : Env w) (ho : Only [] w w') : Env w' := by
  obtain ⟨h1, ⟨m, h2⟩, ⟨t1, p1, h3⟩, ⟨t2, p2, h4⟩⟩ := h
  exact ⟨h1.kept ho, ⟨m, cell_kept h2 ho⟩, ⟨t1, p1, var_kept (g := 1) (by kernel_rfl) h3 ho⟩, ⟨t2, p2, var_kept (g := 2) (by kernel_rfl) h4 ho⟩⟩

theorem only_bytes (w : World) (e : TypeId) (s : ByteArray) : Only [] w (Lib.bytesWorld w e s) := only_of_below (Lib.bytesWorld_below w e s)

/-- strconv.Atoi, at every string that is not too long -/
theorem atoi_ok (s : ByteArray) (v : Int) (h : Lib.atoiAll s.data.toList = .ok v) (hs : s.size ≤ 1000000) (w : World) :
    Calls Tryd.prog 45 #[.string s] w fun e w' => e = .returned (.tuple #[.int .i64 v, .nilIface]) ∧ Only [] w w' := by
  refine (Tryd.strconv_Atoi_ok s (by omega) v h w).mono ?_
  rintro e w' ⟨rfl, rfl | ⟨t, rfl⟩⟩
  · exact ⟨rfl, Only.refl _ _⟩
  · exact ⟨rfl, only_bytes _ _ _⟩
theorem atoi_bad (s : ByteArray) (h : ∀ v, Lib.atoiAll s.data.toList ≠ .ok v) (hs : s.size ≤ 1000000) (w : World) (he : Env w) :
    Calls Tryd.prog 45 #[.string s] w fun e w' => ∃ (V : Int) (N : Nat), e = .returned (.tuple #[.int .i64 V, .iface 85 (.pointer (some ⟨N, 0, none⟩))]) ∧ Only [] w w' := by
  rcases hq : Lib.atoiAll s.data.toList with v | _ | _
  · exact absurd hq (h v)
  · obtain ⟨tp, p, hv⟩ := he.syn
    have hc : Calls Tryd.prog 45 #[.string s] w _ := Any.strconv_Atoi_syntax_var Tryd.laysC172 s (by omega) hq tp p w hv
    refine hc.mono ?_
    rintro e w' ⟨N, rfl, _, _, hb⟩
    exact ⟨_, N, rfl, only_of_below hb⟩
  · obtain ⟨tp, p, hv⟩ := he.ran
    have hc : Calls Tryd.prog 45 #[.string s] w _ := Any.strconv_Atoi_range_var Tryd.laysC172 s (by omega) hq tp p w hv
    refine hc.mono ?_
    rintro e w' ⟨N, rfl, _, _, hb⟩
    exact ⟨_, N, rfl, only_of_below hb⟩

theorem cut_dot (s : ByteArray) (w : World) (hs : s.size ≤ 1000000) (he : Env w) :
    Calls Tryd.prog 44 #[.string s, .string ⟨#[46]⟩] w fun e w' => e = .returned (.tuple #[.string ⟨(Lib.cut s.data.toList [46]).1.toArray⟩, .string ⟨(Lib.cut s.data.toList [46]).2.1.toArray⟩, .bool (Lib.cut s.data.toList [46]).2.2]) ∧ Only [] w w' := by
  obtain ⟨m, hm⟩ := he.maxLen
  refine (Tryd.strings_Cut s ⟨#[46]⟩ m w (by omega) hm).mono ?_
  rintro e w' ⟨rfl, n, rfl⟩
  exact ⟨rfl, only_drewN w n⟩

theorem cut_len (l : List UInt8) : (Lib.cut l [46]).1.length ≤ l.length ∧ (Lib.cut l [46]).2.1.length ≤ l.length := by
  unfold Lib.cut
  split
  · simp; omega
  · simp

theorem low_digit (u i : Nat) : ∀ b ∈ low u i, 48 ≤ b.toNat ∧ b.toNat ≤ 57 := by
  induction i with
  | zero => intro b hb; cases hb
  | succ i ih =>
    intro b hb
    rw [low] at hb
    rcases List.mem_cons.1 hb with rfl | hb
    · have : (UInt8.ofNat (48 + u / 10 ^ i % 10)).toNat = 48 + u / 10 ^ i % 10 := by
        rw [UInt8.toNat_ofNat']; exact Nat.mod_eq_of_lt (by omega)
      omega
    · exact ih b hb
theorem dec_digit (S : Nat) : ∀ b ∈ Lib.decDigits S, 48 ≤ b.toNat ∧ b.toNat ≤ 57 := by rw [← low_dec]; exact low_digit _ _
theorem index_dot : ∀ (a b : List UInt8), (∀ x ∈ a, 48 ≤ x.toNat) → Lib.index (a ++ 46 :: b) [46] = a.length
  | [], b, _ => by simp [Lib.index]
  | x :: a, b, h => by
    have hx : ([46] : List UInt8).isPrefixOf (x :: (a ++ 46 :: b)) = false := by
      have : (46 : UInt8) ≠ x := fun e => by have := h x (by simp); rw [← e] at this; simp at this
      have hb : ((46 : UInt8) == x) = false := beq_eq_false_iff_ne.2 this
      simp [List.isPrefixOf, hb]
    have ih := index_dot a b (fun y hy => h y (by simp [hy]))
    rw [List.cons_append, Lib.index, if_neg (by rw [hx]; simp), ih, if_neg (by simp)]
    simp
theorem cut_stL (S M : Nat) : Lib.cut (stL S M) [46] = (Lib.decDigits S, low M 9, true) := by
  have hi : Lib.index (stL S M) [46] = (Lib.decDigits S).length := index_dot _ _ (fun x hx => (dec_digit S x hx).1)
  unfold Lib.cut
  rw [hi, if_pos (by omega)]
  simp only [Int.toNat_natCast, Lib.decDigits_length, List.length_singleton]
  rw [stL_take, stL_drop]
theorem atoi_digits (l : List UInt8) (n : Nat) (hl : l ≠ []) (h : Lib.decFrom 0 l = some n) : Lib.atoi l = some n := by
  cases l with
  | nil => exact absurd rfl hl
  | cons b r =>
    obtain ⟨d, hd⟩ := Lib.digit_of_decFrom _ _ _ h 0 b rfl
    have hb : 48 ≤ b.toNat := by
      unfold Lib.digitVal at hd
      split at hd
      · rename_i h; exact h.1
      · cases hd
    have h45 : (b == 45) = false := by
      apply beq_eq_false_iff_ne.2; rintro rfl; simp at hb
    have h43 : (b == 43) = false := by
      apply beq_eq_false_iff_ne.2; rintro rfl; simp at hb
    simp only [Lib.atoi, h45, h43, Bool.false_eq_true, if_false, Lib.decNat, List.isEmpty_cons, h]
    rfl

theorem atoi_dec (S : Nat) (h : S ≤ 281474976710655) (w : World) :
    Calls Tryd.prog 45 #[.string ⟨(Lib.decDigits S).toArray⟩] w fun e w' => e = .returned (.tuple #[.int .i64 S, .nilIface]) ∧ Only [] w w' := by
  have hn := stL_nd S h
  have hp := decDigits_pos S
  refine (Tryd.strconv_Atoi ⟨(Lib.decDigits S).toArray⟩ S (by simp [ByteArray.size, Lib.decDigits_length]; omega) (atoi_digits _ S (fun e => by rw [show (Lib.decDigits S) = [] from e] at hp; simp at hp) (decFrom_dec S)) w).mono ?_
  rintro e w' ⟨rfl, t, rfl⟩
  exact ⟨rfl, only_bytes _ _ _⟩
theorem atoi_low (M : Nat) (h : M ≤ 999999999) (w : World) :
    Calls Tryd.prog 45 #[.string ⟨(low M 9).toArray⟩] w fun e w' => e = .returned (.tuple #[.int .i64 M, .nilIface]) ∧ Only [] w w' := by
  refine (Tryd.strconv_Atoi ⟨(low M 9).toArray⟩ M (by simp [ByteArray.size, low_length]) (atoi_digits _ M (fun e => by have := congrArg List.length (show low M 9 = [] from e); rw [low_length] at this; simp at this) (decFrom_low9 M h)) w).mono ?_
  rintro e w' ⟨rfl, t, rfl⟩
  exact ⟨rfl, only_bytes _ _ _⟩

set_option maxRecDepth 100000 in
set_option maxHeartbeats 1000000 in
theorem Pparse_yes (s : ByteArray) (w : World) {S M : Nat} (h : Txt s.data.toList S M) (he : Env w) :
    Calls Tryd.prog 29 #[.string s] w fun e w' => e = .returned (parV (some (S, M))) ∧ Only [] w w' := by
  obtain ⟨hok, hl⟩ := h
  have h' := hok
  obtain ⟨h1, h2, h3, h4⟩ := h'
  have hsz : s.size ≤ 25 := by
    have e1 : s.data.toList.length = s.size := by rw [Array.length_toList]; rfl
    have := stL_nd S (by omega)
    rw [hl, stL_length] at e1
    omega
  have hcut : ∀ w, Env w → Calls Tryd.prog 44 #[.string s, .string ⟨#[46]⟩] w fun e w' => e = .returned (.tuple #[.string ⟨(Lib.decDigits S).toArray⟩, .string ⟨(low M 9).toArray⟩, .bool true]) ∧ Only [] w w' := fun w he => by
    have := cut_dot s w (by omega) he
    rw [hl, cut_stL] at this
    exact this
  have htext : ∀ w, Tab w → Calls Tryd.prog 27 #[.agg #[.int .i64 S, .int .i64 M]] w fun e w' => e = .returned (.string s) ∧ Only [] w w' := fun w ht => by
    have := Ptext_yes S M w hok ht
    rw [stStr_list S M (by omega), show (⟨(stL S M).toArray⟩ : ByteArray) = s from str_eq_list (by rw [hl])] at this
    exact this
  have HC := Lib.hid hcut; have HTx := Lib.hid htext; have HE := Lib.hid he
  have HA1 := Lib.hid (atoi_dec S (by omega)); have HA2 := Lib.hid (atoi_low M (by omega))
  clear hcut htext he hl
  obtain ⟨X, hX⟩ : ∃ X : ByteArray, X = ⟨(Lib.decDigits S).toArray⟩ := ⟨_, rfl⟩
  obtain ⟨Y, hY⟩ : ∃ Y : ByteArray, Y = ⟨(low M 9).toArray⟩ := ⟨_, rfl⟩
  rw [← hX] at HC HA1
  rw [← hY] at HC HA2
  clear hX hY
  go_enter Tryd.func29, Tryd.ntmps29
  go_wp2_with fail
  refine alloc_abs (G := fun w0 => Calls _ _ _ w0 _) ?_
  intro w1 hb1 ho1 hs1
  have B1 := Lib.hid hb1; have O1 := Lib.hid ho1
  clear hb1 hs1 ho1
  refine (HC.out w1 (HE.out.kept O1.out)).mono ?_
  rintro e w2 ⟨rfl, ho2⟩
  have B2 := Lib.hid (ho2.got B1.out (by simp)); have O2 := Lib.hid (O1.out.nil_trans ho2)
  clear B1 O1 ho2
  go_wp2_with fail
  refine (HA1.out w2).mono ?_
  rintro e w3 ⟨rfl, ho3⟩
  have B3 := Lib.hid (ho3.got B2.out (by simp)); have O3 := Lib.hid (O2.out.nil_trans ho3)
  clear B2 O2 ho3
  go_wp2_with fail
  refine (HA2.out w3).mono ?_
  rintro e w4 ⟨rfl, ho4⟩
  have B4 := Lib.hid (ho4.got B3.out (by simp)); have O4 := Lib.hid (O3.out.nil_trans ho4)
  clear B3 O3 ho4
  go_wp2_with fail
  refine alloc_abs (G := fun w0 => Calls _ _ _ w0 _) ?_
  intro w5 hb5 ho5 hs5
  have B5 := Lib.hid (ho5.got B4.out (by simp)); have O5 := Lib.hid (O4.out.nil_trans ho5); have C5 := Lib.hid hb5
  clear hb5 hs5 ho5 B4 O4
  refine (Pcheck_yes S M w5 hok).mono ?_
  rintro e w6 ⟨rfl, ho6⟩
  have B6 := Lib.hid (ho6.got B5.out (by simp)); have O6 := Lib.hid (O5.out.nil_trans ho6); have C6 := Lib.hid (ho6.got C5.out (by simp))
  clear ho6 B5 C5 O5
  have k0 := cell_got C6.out 0; have k1 := cell_got C6.out 1
  go_wp2_with fail
  refine (HTx.out w6 (HE.out.tab.kept O6.out)).mono ?_
  rintro e w7 ⟨rfl, ho7⟩
  have B7 := Lib.hid (ho7.got B6.out (by simp)); have O7 := Lib.hid (O6.out.nil_trans ho7); have C7 := Lib.hid (ho7.got C6.out (by simp))
  clear ho7 B6 C6 O6 k0 k1
  have k0 := cell_got C7.out 0; have k1 := cell_got C7.out 1
  have g0 := cell_got B7.out 0; have g1 := cell_got B7.out 1
  have f0 := frozen_got B7.out 0; have f1 := frozen_got B7.out 1
  have l0 := got_lt B7.out
  go_wp2
  exact bodyPost_ret (v := .tuple #[.agg #[.int .i64 S, .int .i64 M], .int .i64 0]) (by simp [results, Tryd.results29, go_sem, g0, g1]) rfl ⟨rfl, (O7.out.setCell (.inr (Nat.le_refl _)) _).setCell (.inr (Nat.le_refl _)) _⟩

set_option maxRecDepth 100000 in
set_option maxHeartbeats 2000000 in
theorem Pparse_no (s : ByteArray) (w : World) (hs : s.size ≤ 1000) (h : ∀ S M, ¬ Txt s.data.toList S M) (he : Env w) :
    Calls Tryd.prog 29 #[.string s] w fun e w' => e = .returned (parV none) ∧ Only [] w w' := by
  have hln : s.data.toList.length = s.size := by rw [Array.length_toList]; rfl
  have hcl := cut_len s.data.toList
  have hcut := fun w he => cut_dot s w (by omega) he
  obtain ⟨c1, hc1⟩ : ∃ c1, c1 = (Lib.cut s.data.toList [46]).1 := ⟨_, rfl⟩
  obtain ⟨c2, hc2⟩ : ∃ c2, c2 = (Lib.cut s.data.toList [46]).2.1 := ⟨_, rfl⟩
  obtain ⟨c3, hc3⟩ : ∃ c3, c3 = (Lib.cut s.data.toList [46]).2.2 := ⟨_, rfl⟩
  rw [← hc1, ← hc2, ← hc3] at hcut
  rw [← hc1, ← hc2] at hcl
  clear hc1 hc2 hc3
  obtain ⟨X, hX⟩ : ∃ X : ByteArray, X = ⟨c1.toArray⟩ := ⟨_, rfl⟩
  obtain ⟨Y, hY⟩ : ∃ Y : ByteArray, Y = ⟨c2.toArray⟩ := ⟨_, rfl⟩
  have hXs : X.size ≤ 1000 := by rw [hX]; simp only [ByteArray.size, List.size_toArray]; omega
  have hYs : Y.size ≤ 1000 := by rw [hY]; simp only [ByteArray.size, List.size_toArray]; omega
  rw [← hX, ← hY] at hcut
  have HC := Lib.hid hcut; have HE := Lib.hid he; have HH := Lib.hid h; have HL := Lib.hid hln
  clear hcut he h hX hY hcl hln
  go_enter Tryd.func29, Tryd.ntmps29
  go_wp2_with fail
  refine alloc_abs (G := fun w0 => Calls _ _ _ w0 _) ?_
  intro w1 hb1 ho1 hs1
  have B1 := Lib.hid hb1; have O1 := Lib.hid ho1
  clear hb1 hs1 ho1
  refine (HC.out w1 (HE.out.kept O1.out)).mono ?_
  rintro e w2 ⟨rfl, ho2⟩
  have B2 := Lib.hid (ho2.got B1.out (by simp)); have O2 := Lib.hid (O1.out.nil_trans ho2)
  clear B1 O1 ho2
  go_wp2_with fail
  by_cases ha1 : ∃ v, Lib.atoiAll X.data.toList = .ok v
  · obtain ⟨v1, hv1⟩ := ha1
    refine (atoi_ok X v1 hv1 (by omega) w2).mono ?_
    rintro e w3 ⟨rfl, ho3⟩
    have B3 := Lib.hid (ho3.got B2.out (by simp)); have O3 := Lib.hid (O2.out.nil_trans ho3)
    clear B2 O2 ho3 hv1
    go_wp2_with fail
    by_cases ha2 : ∃ v, Lib.atoiAll Y.data.toList = .ok v
    · obtain ⟨v2, hv2⟩ := ha2
      refine (atoi_ok Y v2 hv2 (by omega) w3).mono ?_
      rintro e w4 ⟨rfl, ho4⟩
      have B4 := Lib.hid (ho4.got B3.out (by simp)); have O4 := Lib.hid (O3.out.nil_trans ho4)
      clear B3 O3 ho4 hv2
      go_wp2_with fail
      refine alloc_abs (G := fun w0 => Calls _ _ _ w0 _) ?_
      intro w5 hb5 ho5 hs5
      have B5 := Lib.hid (ho5.got B4.out (by simp)); have O5 := Lib.hid (O4.out.nil_trans ho5); have C5 := Lib.hid hb5
      clear hb5 hs5 ho5 B4 O4
      by_cases hok : stOk v1 v2
      · refine (Pcheck_yes v1 v2 w5 hok).mono ?_
        rintro e w6 ⟨rfl, ho6⟩
        have B6 := Lib.hid (ho6.got B5.out (by simp)); have O6 := Lib.hid (O5.out.nil_trans ho6); have C6 := Lib.hid (ho6.got C5.out (by simp))
        clear ho6 B5 C5 O5
        have k0 := cell_got C6.out 0; have k1 := cell_got C6.out 1
        go_wp2_with fail
        refine (Ptext_yes v1 v2 w6 hok (HE.out.tab.kept O6.out)).mono ?_
        rintro e w7 ⟨rfl, ho7⟩
        have B7 := Lib.hid (ho7.got B6.out (by simp)); have O7 := Lib.hid (O6.out.nil_trans ho7)
        clear ho7 B6 C6 O6 k0 k1
        have g0 := cell_got B7.out 0; have g1 := cell_got B7.out 1
        have f0 := frozen_got B7.out 0; have f1 := frozen_got B7.out 1
        have l0 := got_lt B7.out
        have hts : ((stStr v1 v2).toList == s.toList) = false := by
          rw [Lib.toList_data, Lib.toList_data]
          refine beq_eq_false_iff_ne.2 fun hq => ?_
          obtain ⟨q1, q2, q3, q4⟩ := hok
          obtain ⟨S, rfl⟩ : ∃ S : Nat, v1 = S := ⟨v1.toNat, by omega⟩
          obtain ⟨M, rfl⟩ : ∃ M : Nat, v2 = M := ⟨v2.toNat, by omega⟩
          rw [stStr_list S M (by omega)] at hq
          exact HH.out S M ⟨⟨q1, q2, q3, q4⟩, hq.symm⟩
        generalize stStr v1 v2 = T at hts ⊢
        go_wp2
        exact bodyPost_ret (v := .tuple #[.agg #[.int .i64 0, .int .i64 0], .int .i64 19]) (by simp [results, Tryd.results29, go_sem, g0, g1]) rfl ⟨rfl, (O7.out.setCell (.inr (Nat.le_refl _)) _).setCell (.inr (Nat.le_refl _)) _⟩
      · refine (Pcheck_no v1 v2 w5 hok).mono ?_
        rintro e w6 ⟨rfl, ho6⟩
        have B6 := Lib.hid (ho6.got B5.out (by simp)); have O6 := Lib.hid (O5.out.nil_trans ho6)
        clear ho6 B5 C5 O5
        have g0 := cell_got B6.out 0; have g1 := cell_got B6.out 1
        have f0 := frozen_got B6.out 0; have f1 := frozen_got B6.out 1
        have l0 := got_lt B6.out
        go_wp2
        exact bodyPost_ret (v := .tuple #[.agg #[.int .i64 0, .int .i64 0], .int .i64 19]) (by simp [results, Tryd.results29, go_sem, g0, g1]) rfl ⟨rfl, (O6.out.setCell (.inr (Nat.le_refl _)) _).setCell (.inr (Nat.le_refl _)) _⟩
    · refine (atoi_bad Y (fun v hv => ha2 ⟨v, hv⟩) (by omega) w3 (HE.out.kept O3.out)).mono ?_
      rintro e w4 ⟨V, N, rfl, ho4⟩
      have B4 := Lib.hid (ho4.got B3.out (by simp)); have O4 := Lib.hid (O3.out.nil_trans ho4)
      clear B3 O3 ho4 ha2
      have g0 := cell_got B4.out 0; have g1 := cell_got B4.out 1
      have f0 := frozen_got B4.out 0; have f1 := frozen_got B4.out 1
      have l0 := got_lt B4.out
      go_wp2
      exact bodyPost_ret (v := .tuple #[.agg #[.int .i64 0, .int .i64 0], .int .i64 19]) (by simp [results, Tryd.results29, go_sem, g0, g1]) rfl ⟨rfl, (O4.out.setCell (.inr (Nat.le_refl _)) _).setCell (.inr (Nat.le_refl _)) _⟩
  · refine (atoi_bad X (fun v hv => ha1 ⟨v, hv⟩) (by omega) w2 (HE.out.kept O2.out)).mono ?_
    rintro e w3 ⟨V, N, rfl, ho3⟩
    have B3 := Lib.hid (ho3.got B2.out (by simp)); have O3 := Lib.hid (O2.out.nil_trans ho3)
    clear B2 O2 ho3 ha1
    have g0 := cell_got B3.out 0; have g1 := cell_got B3.out 1
    have f0 := frozen_got B3.out 0; have f1 := frozen_got B3.out 1
    have l0 := got_lt B3.out
    go_wp2
    exact bodyPost_ret (v := .tuple #[.agg #[.int .i64 0, .int .i64 0], .int .i64 19]) (by simp [results, Tryd.results29, go_sem, g0, g1]) rfl ⟨rfl, (O3.out.setCell (.inr (Nat.le_refl _)) _).setCell (.inr (Nat.le_refl _)) _⟩
end Go.Proofs.YtmkiojnhjfkepaaDoor
