/- Words of a text and numbers in words: the plain layer under every parser. No condition. -/
import Derived.Lib.Split
import Derived.Lib.IndexMore
import Derived.Lib.AtoiAllCases
import Derived.Lib.ItoaMem
import Derived.Lib.ItoaLen
namespace Go.Proofs.YthmeifdgkodjlaaDoor
open Go

/-! ### pieces between separators -/
/-- the pieces of a text between the bytes `c` -/
def pcs (c : UInt8) : List UInt8 → List (List UInt8)
  | [] => [[]]
  | x :: r => if x = c then [] :: pcs c r else match pcs c r with
    | [] => [[x]]
    | h :: t => (x :: h) :: t
theorem pcs_ne (c : UInt8) (l : List UInt8) : pcs c l ≠ [] := by
  cases l with
  | nil => simp [pcs]
  | cons x r =>
    unfold pcs
    split
    · simp
    · split <;> simp
theorem pcs_no {c : UInt8} : ∀ {a : List UInt8}, c ∉ a → pcs c a = [a]
  | [], _ => rfl
  | x :: a, h => by
    have hx : x ≠ c := fun e => h (by simp [e])
    have := pcs_no (c := c) (a := a) (fun m => h (by simp [m]))
    unfold pcs
    rw [if_neg hx, this]
theorem pcs_cut {c : UInt8} : ∀ {a : List UInt8} (r : List UInt8), c ∉ a → pcs c (a ++ c :: r) = a :: pcs c r
  | [], r, _ => by simp [pcs]
  | x :: a, r, h => by
    have hx : x ≠ c := fun e => h (by simp [e])
    have := pcs_cut (c := c) (a := a) r (fun m => h (by simp [m]))
    rw [List.cons_append, pcs, if_neg hx, this]
theorem mem_pcs {c : UInt8} : ∀ {l p : List UInt8}, p ∈ pcs c l → c ∉ p
  | [], p, h => by simp [pcs] at h; simp [h]
  | x :: r, p, h => by
    unfold pcs at h
    split at h
    · rcases List.mem_cons.1 h with rfl | h
      · simp
      · exact mem_pcs h
    · rename_i hx
      split at h
      · rename_i e; exact absurd e (pcs_ne c r)
      · rename_i q t e
        rcases List.mem_cons.1 h with rfl | h
        · have := mem_pcs (c := c) (l := r) (p := q) (by rw [e]; simp)
          intro m
          rcases List.mem_cons.1 m with m | m
          · exact hx m.symm
          · exact this m
        · exact mem_pcs (c := c) (l := r) (by rw [e]; simp [h])
/-- a text splits at the first `c` -/
theorem cut_first {c : UInt8} : ∀ (l : List UInt8), c ∈ l → ∃ a r, l = a ++ c :: r ∧ c ∉ a
  | [], h => by cases h
  | x :: l, h => by
    by_cases hx : x = c
    · subst hx; exact ⟨[], l, rfl, by simp⟩
    · rcases List.mem_cons.1 h with e | h
      · exact absurd e.symm hx
      · obtain ⟨a, r, rfl, hn⟩ := cut_first l h
        exact ⟨x :: a, r, rfl, fun m => by
          rcases List.mem_cons.1 m with m | m
          · exact hx m.symm
          · exact hn m⟩
theorem pcs_length_le (c : UInt8) : ∀ l : List UInt8, (pcs c l).length ≤ l.length + 1
  | [] => by simp [pcs]
  | x :: r => by
    have := pcs_length_le c r
    unfold pcs
    split
    · simp; omega
    · split
      · simp
      · rename_i e; rw [e] at this; simp at this ⊢; omega
/-- the pieces again joined -/
def joinC (c : UInt8) : List (List UInt8) → List UInt8
  | [] => []
  | [p] => p
  | p :: q :: r => p ++ c :: joinC c (q :: r)
theorem joinC_cons (c : UInt8) (p : List UInt8) {r : List (List UInt8)} (h : r ≠ []) : joinC c (p :: r) = p ++ c :: joinC c r := by
  cases r with
  | nil => exact absurd rfl h
  | cons q r => rfl
theorem join_pcs (c : UInt8) : ∀ l : List UInt8, joinC c (pcs c l) = l
  | [] => rfl
  | x :: r => by
    have ih := join_pcs c r
    unfold pcs
    split
    · rename_i h
      rw [joinC_cons c [] (pcs_ne c r), ih, h]; rfl
    · split
      · rename_i e; exact absurd e (pcs_ne c r)
      · rename_i h t e
        rw [e] at ih
        cases t with
        | nil => simp only [joinC] at ih ⊢; rw [ih]
        | cons q t => rw [joinC_cons c _ (by simp)] at ih ⊢; rw [List.cons_append, ih]
theorem pcs_join {c : UInt8} : ∀ (ps : List (List UInt8)), ps ≠ [] → (∀ p ∈ ps, c ∉ p) → pcs c (joinC c ps) = ps
  | [], h, _ => absurd rfl h
  | [p], _, h => pcs_no (h p (by simp))
  | p :: q :: r, _, h => by
    rw [joinC_cons c p (by simp), pcs_cut _ (h p (by simp)), pcs_join (q :: r) (by simp) (fun x hx => h x (by simp [hx]))]

theorem index_at {c : UInt8} : ∀ (a b : List UInt8), c ∉ a → Lib.index (a ++ c :: b) [c] = a.length
  | [], b, _ => by simp [Lib.index]
  | x :: a, b, h => by
    have hx : c ≠ x := fun e => h (by simp [e])
    have hp : ([c] : List UInt8).isPrefixOf (x :: (a ++ c :: b)) = false := by
      have hb : (c == x) = false := beq_eq_false_iff_ne.2 hx
      simp [List.isPrefixOf, hb]
    have ih := index_at (c := c) a b (fun m => h (by simp [m]))
    rw [List.cons_append, Lib.index, if_neg (by rw [hp]; simp), ih, if_neg (by simp)]
    simp
theorem index_no {c : UInt8} : ∀ (a : List UInt8), c ∉ a → Lib.index a [c] = -1
  | [], _ => by simp [Lib.index]
  | x :: a, h => by
    have hx : c ≠ x := fun e => h (by simp [e])
    have hp : ([c] : List UInt8).isPrefixOf (x :: a) = false := by
      have hb : (c == x) = false := beq_eq_false_iff_ne.2 hx
      simp [List.isPrefixOf, hb]
    have ih := index_no (c := c) a (fun m => h (by simp [m]))
    rw [Lib.index, if_neg (by rw [hp]; simp), ih]; rfl
theorem split_pcs (c : UInt8) (l : List UInt8) : Lib.split l [c] = pcs c l := by
  obtain ⟨n, hn⟩ : ∃ n, n = l.length := ⟨_, rfl⟩
  induction n using Nat.strongRecOn generalizing l with
  | _ n ih =>
    unfold Lib.split
    by_cases hc : c ∈ l
    · obtain ⟨a, r, rfl, ha⟩ := cut_first l hc
      have hi := index_at (c := c) a r ha
      have hd : (a ++ c :: r).drop (a.length + 1) = r := by simp
      rw [Lib.count_hit (by simp) hi]
      simp only [List.length_singleton, hd]
      rw [Nat.add_comm 1, Lib.splitK, if_neg (by rw [hi]; simp), hi, pcs_cut r ha]
      simp only [Int.toNat_natCast, List.length_singleton, Nat.add_zero, hd]
      rw [List.take_left]
      have := ih r.length (by rw [hn]; simp; omega) r rfl
      unfold Lib.split at this
      rw [this]
    · have hi := index_no l hc
      rw [Lib.count_miss hi, Lib.splitK, pcs_no hc]
theorem cut_at {c : UInt8} {a : List UInt8} (r : List UInt8) (h : c ∉ a) : Lib.cut (a ++ c :: r) [c] = (a, r, true) := by
  have hi := index_at (c := c) a r h
  unfold Lib.cut
  rw [hi, if_pos (by omega)]
  simp
theorem cut_no {c : UInt8} {a : List UInt8} (h : c ∉ a) : Lib.cut a [c] = (a, [], false) := by
  have hi := index_no a h
  unfold Lib.cut
  rw [hi, if_neg (by omega)]

/-! ### numbers -/
theorem digit_ofNat (d : Nat) (h : d < 10) : (UInt8.ofNat (48 + d)).toNat = 48 + d := by
  rw [UInt8.toNat_ofNat']; exact Nat.mod_eq_of_lt (by omega)
theorem parseUint10_append : ∀ (l m : List UInt8) (acc u : Nat), Lib.parseUint10 acc l = .ok u → Lib.parseUint10 acc (l ++ m) = Lib.parseUint10 u m
  | [], m, acc, u, h => by
    simp only [Lib.parseUint10] at h
    injection h with h
    rw [List.nil_append, h]
  | c :: l, m, acc, u, h => by
    rw [List.cons_append]
    simp only [Lib.parseUint10] at h ⊢
    split at h
    · rename_i h1
      rw [if_pos h1]
      split at h
      · cases h
      · rename_i h2
        rw [if_neg h2]
        split at h
        · cases h
        · rename_i h3
          rw [if_neg h3]
          exact parseUint10_append l m _ u h
    · cases h
theorem parse_dec (u : Nat) (h : u < 18446744073709551616) : Lib.parseUint10 0 (Lib.decDigits u) = .ok u := by
  induction u using Nat.strongRecOn with
  | _ u ih =>
    unfold Lib.decDigits
    split
    · rename_i h10
      have e := digit_ofNat u h10
      simp only [Lib.parseUint10, e]
      rw [if_pos (by omega), if_neg (by omega), if_neg (by omega)]
      congr 1; omega
    · rename_i h10
      rw [parseUint10_append _ _ 0 (u / 10) (ih (u / 10) (by omega) (by omega))]
      have e := digit_ofNat (u % 10) (by omega)
      simp only [Lib.parseUint10, e]
      rw [if_pos (by omega), if_neg (by omega), if_neg (by omega)]
      congr 1; omega
theorem dec_ne (u : Nat) : Lib.decDigits u ≠ [] := by
  unfold Lib.decDigits
  split <;> simp
theorem dec_bytes (u : Nat) : ∀ b ∈ Lib.decDigits u, 48 ≤ b.toNat ∧ b.toNat ≤ 57 := by
  induction u using Nat.strongRecOn with
  | _ u ih =>
    unfold Lib.decDigits
    split
    · rename_i h10
      intro b hb
      have e := digit_ofNat u h10
      simp only [List.mem_singleton] at hb
      subst hb; omega
    · rename_i h10
      intro b hb
      rcases List.mem_append.1 hb with hb | hb
      · exact ih (u / 10) (by omega) b hb
      · have e := digit_ofNat (u % 10) (by omega)
        simp only [List.mem_singleton] at hb
        subst hb; omega
theorem mag_dec (u : Nat) (h : u < 18446744073709551616) : Lib.parseMag (Lib.decDigits u) = .ok u := by
  unfold Lib.parseMag
  rw [if_neg (dec_ne u), parse_dec u h]
/-- a number that an int holds -/
def i64 (n : Int) : Prop := -9223372036854775808 ≤ n ∧ n ≤ 9223372036854775807
theorem atoi_itoa (n : Int) (h : i64 n) : Lib.atoiAll (Lib.itoa n) = .ok n := by
  obtain ⟨h1, h2⟩ := h
  unfold Lib.itoa
  split
  · rw [Lib.atoiAll_minus, mag_dec _ (by omega)]
    simp only [Lib.signed]
    rw [if_neg (by omega)]
    congr 1; omega
  · cases hd : Lib.decDigits n.toNat with
    | nil => exact absurd hd (dec_ne _)
    | cons c r =>
      have hc := dec_bytes n.toNat c (by rw [hd]; simp)
      rw [Lib.atoiAll_plain c r (by omega) (by omega), ← hd, mag_dec _ (by omega)]
      simp only [Lib.signless]
      rw [if_neg (by omega)]
      congr 1; omega
/-- the int that a word is -/
def numO (l : List UInt8) : Option Int := match Lib.atoiAll l with
  | .ok v => if Lib.itoa v = l then some v else none
  | _ => none
theorem numO_itoa {n : Int} (h : i64 n) : numO (Lib.itoa n) = some n := by
  unfold numO; rw [atoi_itoa n h]; simp
theorem numO_some {l : List UInt8} {n : Int} (h : numO l = some n) : i64 n ∧ Lib.itoa n = l := by
  unfold numO at h
  split at h
  · rename_i v hv
    split at h
    · rename_i e
      cases h
      exact ⟨Lib.atoiAll_bounds hv, e⟩
    · cases h
  · cases h
theorem numO_ok {l : List UInt8} {v : Int} (h : Lib.atoiAll l = .ok v) (e : Lib.itoa v = l) : numO l = some v := by unfold numO; rw [h]; simp [e]
theorem numO_no {l : List UInt8} {v : Int} (h : Lib.atoiAll l = .ok v) (e : Lib.itoa v ≠ l) : numO l = none := by unfold numO; rw [h]; simp [e]
theorem numO_bad {l : List UInt8} (h : ∀ v, Lib.atoiAll l ≠ .ok v) : numO l = none := by
  unfold numO
  split
  · rename_i v hv; exact absurd hv (h v)
  · rfl
/-- the bytes of a number: digits and a minus sign -/
theorem itoa_bytes (n : Int) : ∀ b ∈ Lib.itoa n, b = 45 ∨ (48 ≤ b.toNat ∧ b.toNat ≤ 57) := by
  intro b hb
  unfold Lib.itoa at hb
  split at hb
  · rcases List.mem_cons.1 hb with h | h
    · exact .inl h
    · exact .inr (dec_bytes _ b h)
  · exact .inr (dec_bytes _ b hb)
theorem itoa_ne (n : Int) : Lib.itoa n ≠ [] := by
  unfold Lib.itoa
  split
  · simp
  · exact dec_ne _
end Go.Proofs.YthmeifdgkodjlaaDoor
