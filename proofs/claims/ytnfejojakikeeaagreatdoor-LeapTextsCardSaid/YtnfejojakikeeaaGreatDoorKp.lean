/- Plain laws of a valid leap table: labels and TAI seconds. No condition. -/
import Derived.Test.YtnfejojakikeeaaGreatDoorK6
namespace Go.Proofs.YtnfejojakikeeaaGreatDoor

/-- the beginning of the entry `i` -/
def aA (es : List Le) (i : Nat) : Int := (es.getD i ⟨0, 0⟩).a
/-- the offset before the entry `i` -/
def oO (b : Int) (es : List Le) (i : Nat) : Int := prvO b es i
theorem oO_succ (b : Int) (es : List Le) (i : Nat) : oO b es (i + 1) = (es.getD i ⟨0, 0⟩).o := by simp [oO, prvO]
theorem stp_oO (b : Int) (es : List Le) (i : Nat) : stp b es i = oO b es (i + 1) - oO b es i := by rw [oO_succ]; rfl
structure Gd (b : Int) (es : List Le) : Prop where
  st : ∀ i, i < es.length → oO b es (i + 1) = oO b es i + 1 ∨ oO b es (i + 1) = oO b es i - 1
  gap : ∀ i, i + 1 < es.length → aA es i + 86400 ≤ aA es (i + 1)
  ms : ∀ i, i < es.length → mst (aA es i) = true
  bo : ∀ i, i ≤ es.length → -1000 ≤ oO b es i ∧ oO b es i ≤ 1000
  ba : ∀ i, i < es.length → -8000000000 ≤ aA es i ∧ aA es i ≤ 8000000000
theorem scan_succ (b : Int) (es : List Le) (f i : Nat) : scanE b es (f + 1) i = if mst (es.getD i ⟨0, 0⟩).a = false then 7 else if 0 < i ∧ (es.getD i ⟨0, 0⟩).a ≤ prvA es i then 12 else if stp b es i = 1 ∨ stp b es i = -1 then scanE b es f (i + 1) else 3 := rfl
theorem scan_all (b : Int) (es : List Le) (f : Nat) : ∀ (i : Nat), scanE b es f i = 0 → ∀ j, i ≤ j → j < i + f → mst (aA es j) = true ∧ (0 < j → prvA es j < aA es j) ∧ (stp b es j = 1 ∨ stp b es j = -1) := by
  induction f with
  | zero => intro i _ j h1 h2; omega
  | succ f ih =>
    intro i h j h1 h2
    rw [scan_succ] at h
    by_cases m1 : mst (es.getD i ⟨0, 0⟩).a = false
    · rw [if_pos m1] at h; omega
    · rw [if_neg m1] at h
      by_cases m2 : 0 < i ∧ (es.getD i ⟨0, 0⟩).a ≤ prvA es i
      · rw [if_pos m2] at h; omega
      · rw [if_neg m2] at h
        by_cases m3 : stp b es i = 1 ∨ stp b es i = -1
        · rw [if_pos m3] at h
          by_cases hj : j = i
          · subst hj
            refine ⟨by unfold aA; exact eq_true_of_ne_false m1, fun h0 => ?_, m3⟩
            have : ¬ (es.getD j ⟨0, 0⟩).a ≤ prvA es j := fun h' => m2 ⟨h0, h'⟩
            unfold aA; omega
          · exact ih (i + 1) h j (by omega) (by omega)
        · rw [if_neg m3] at h; omega
theorem gd_of {b x : Int} {es : List Le} (h : chkT b x es = 0) : Gd b es := by
  obtain ⟨_, hb, _, hr, hs⟩ := chkT_ok h
  have hsc := fun j (hj : j < es.length) => scan_all b es es.length 0 hs j (Nat.zero_le _) (by omega)
  have hm : ∀ j, j < es.length → es.getD j ⟨0, 0⟩ ∈ es := fun j hj => by
    rw [List.getD_eq_getElem?_getD, List.getElem?_eq_getElem hj]; exact List.getElem_mem hj
  refine ⟨fun i hi => ?_, fun i hi => ?_, fun i hi => (hsc i hi).1, fun i hi => ?_, fun i hi => ?_⟩
  · have := (hsc i hi).2.2
    rw [stp_oO] at this
    omega
  · have h1 := (hsc (i + 1) hi).2.1 (by omega)
    have h2 := mst_day (hsc (i + 1) hi).1
    have h3 := mst_day (hsc i (by omega)).1
    have h4 : prvA es (i + 1) = aA es i := rfl
    omega
  · cases i with
    | zero => have := inM_t.1 hb; simpa [oO, prvO] using this
    | succ i => rw [oO_succ]; exact inM_t.1 (hr _ (hm i hi)).1
  · exact inM_t.1 (hr _ (hm i hi)).2
theorem Gd.far {b : Int} {es : List Le} (g : Gd b es) (i : Nat) : ∀ d, i + d < es.length → aA es i + 86400 * d ≤ aA es (i + d) ∧ -(d : Int) ≤ oO b es (i + d + 1) - oO b es (i + 1) ∧ oO b es (i + d + 1) - oO b es (i + 1) ≤ d
  | 0, _ => by simp
  | d + 1, h => by
    obtain ⟨h1, h2, h3⟩ := g.far i d (by omega)
    have h4 := g.gap (i + d) (by omega)
    have h5 := g.st (i + d + 1) (by omega)
    rw [show i + (d + 1) = i + d + 1 by omega]
    omega
theorem Gd.mono {b : Int} {es : List Le} (g : Gd b es) {i j : Nat} (h : i < j) (hj : j < es.length) : aA es i + 86400 ≤ aA es j ∧ aA es i + oO b es (i + 1) + 86399 ≤ aA es j + oO b es (j + 1) := by
  obtain ⟨d, rfl⟩ : ∃ d, j = i + d := ⟨j - i, by omega⟩
  have := g.far i d hj
  omega
theorem fold_pos (b : Int) (p : Le → Prop) [DecidablePred p] : ∀ (es : List Le) (k : Nat), k ≤ es.length → (∀ i, i < k → p (es.getD i ⟨0, 0⟩)) → (∀ i, k ≤ i → i < es.length → ¬ p (es.getD i ⟨0, 0⟩)) →
    es.foldl (fun o e => if p e then e.o else o) b = oO b es k := by
  intro es
  induction es generalizing b with
  | nil => intro k hk _ _; simp at hk; subst hk; simp [oO, prvO]
  | cons e r ih =>
    intro k hk h1 h2
    rw [List.foldl_cons]
    cases k with
    | zero =>
      have h0 := h2 0 (Nat.le_refl _) (by simp)
      simp only [List.getD_cons_zero] at h0
      rw [if_neg h0, ih b 0 (Nat.zero_le _) (fun i hi => by omega) (fun i _ hi => by simpa using h2 (i + 1) (by omega) (by simpa using hi))]
      simp [oO, prvO]
    | succ k =>
      have h0 := h1 0 (by omega)
      simp only [List.getD_cons_zero] at h0
      rw [if_pos h0, ih e.o k (by simpa using hk) (fun i hi => by simpa using h1 (i + 1) (by omega)) (fun i hk hi => by simpa using h2 (i + 1) (by omega) (by simpa using hi)), oO_succ]
      cases k with
      | zero => simp [oO, prvO]
      | succ k => rw [oO_succ]; simp
/-- a place up to which a property holds -/
theorem place (p : Nat → Prop) [DecidablePred p] : ∀ n, (∀ i j, i < j → j < n → p j → p i) → ∃ k, k ≤ n ∧ (∀ i, i < k → p i) ∧ (∀ i, k ≤ i → i < n → ¬ p i)
  | 0, _ => ⟨0, Nat.le_refl _, fun i hi => by omega, fun i _ hi => by omega⟩
  | n + 1, h => by
    obtain ⟨k, hk, h1, h2⟩ := place p n (fun i j hij hj => h i j hij (by omega))
    by_cases hn : p n
    · refine ⟨n + 1, Nat.le_refl _, fun i hi => ?_, fun i _ hi => by omega⟩
      by_cases hi' : i = n
      · subst hi'; exact hn
      · exact h i n (by omega) (by omega) hn
    · refine ⟨k, by omega, h1, fun i hi1 hi2 => ?_⟩
      by_cases hi' : i = n
      · subst hi'; exact hn
      · exact h2 i hi1 (by omega)
theorem ofs_at {b utc : Int} {es : List Le} {k : Nat} (hk : k ≤ es.length) (h1 : ∀ i, i < k → aA es i ≤ utc) (h2 : ∀ i, k ≤ i → i < es.length → utc < aA es i) : ofsL b utc es = oO b es k :=
  fold_pos b (fun e => e.a ≤ utc) es k hk h1 (fun i a c => by have := h2 i a c; unfold aA at this; omega)
theorem uO_at {b tai : Int} {es : List Le} {k : Nat} (hk : k ≤ es.length) (h1 : ∀ i, i < k → aA es i + oO b es (i + 1) ≤ tai) (h2 : ∀ i, k ≤ i → i < es.length → tai < aA es i + oO b es (i + 1)) : uO b tai es = oO b es k :=
  fold_pos b (fun e => e.a + e.o ≤ tai) es k hk (fun i hi => by have := h1 i hi; rw [oO_succ] at this; exact this) (fun i a c => by have := h2 i a c; rw [oO_succ] at this; unfold aA at this; omega)
theorem uE_iff {b tai : Int} {es : List Le} : ∀ {k : Nat}, uE b tai es k = true ↔ ∃ i, i < k ∧ tai = aA es i + oO b es (i + 1) - 1 ∧ oO b es (i + 1) = oO b es i + 1
  | 0 => by simp [uE]
  | k + 1 => by
    simp only [uE, Bool.or_eq_true, Bool.and_eq_true, decide_eq_true_eq, stp_oO]
    rw [uE_iff (k := k)]
    constructor
    · rintro (⟨i, h1, h2, h3⟩ | ⟨h2, h3⟩)
      · exact ⟨i, by omega, h2, h3⟩
      · exact ⟨k, by omega, by rw [oO_succ]; exact h2, by omega⟩
    · rintro ⟨i, h1, h2, h3⟩
      by_cases hi : i = k
      · subst hi; right; rw [oO_succ] at h2; exact ⟨h2, by omega⟩
      · exact .inl ⟨i, by omega, h2, h3⟩
theorem chgF_none {b utc : Int} {es : List Le} : ∀ (f i : Nat), (∀ j, i ≤ j → j < i + f → aA es j ≠ utc) → chgF b utc es f i = 0
  | 0, _, _ => rfl
  | f + 1, i, h => by
    have := h i (Nat.le_refl _) (by omega)
    unfold aA at this
    unfold chgF
    rw [if_neg this]
    exact chgF_none f (i + 1) (fun j a c => h j (by omega) (by omega))
theorem chgF_at {b utc : Int} {es : List Le} {k : Nat} (hk : aA es k = utc) : ∀ (f i : Nat), i ≤ k → k < i + f → (∀ j, i ≤ j → j < k → aA es j ≠ utc) → chgF b utc es f i = oO b es (k + 1) - oO b es k
  | 0, i, _, _, _ => by omega
  | f + 1, i, h1, h2, h => by
    unfold chgF
    by_cases hi : i = k
    · subst hi; unfold aA at hk; rw [if_pos hk, stp_oO]
    · have := h i (Nat.le_refl _) (by omega)
      unfold aA at this
      rw [if_neg this]
      exact chgF_at hk f (i + 1) (by omega) (by omega) (fun j a c => h j (by omega) c)
theorem Gd.chg_at {b utc : Int} {es : List Le} (g : Gd b es) {k : Nat} (hk : k < es.length) (h : aA es k = utc) : chg b utc es = oO b es (k + 1) - oO b es k :=
  chgF_at h es.length 0 (Nat.zero_le _) (by omega) (fun j _ hj => by have := g.mono hj hk; omega)
theorem chg_none {b utc : Int} {es : List Le} (h : ∀ j, j < es.length → aA es j ≠ utc) : chg b utc es = 0 :=
  chgF_none es.length 0 (fun j _ hj => h j (by omega))
theorem Gd.chg_cases {b utc : Int} {es : List Le} (g : Gd b es) : (∃ k, k < es.length ∧ aA es k = utc ∧ chg b utc es = oO b es (k + 1) - oO b es k) ∨ ((∀ j, j < es.length → aA es j ≠ utc) ∧ chg b utc es = 0) := by
  by_cases h : ∃ k, k < es.length ∧ aA es k = utc
  · obtain ⟨k, h1, h2⟩ := h
    exact .inl ⟨k, h1, h2, g.chg_at h1 h2⟩
  · have h' : ∀ j, j < es.length → aA es j ≠ utc := fun j hj he => h ⟨j, hj, he⟩
    exact .inr ⟨h', chg_none h'⟩
/-- where a TAI second lies -/
theorem Gd.tai_place {b : Int} {es : List Le} (g : Gd b es) (tai : Int) : ∃ k, k ≤ es.length ∧ (∀ i, i < k → aA es i + oO b es (i + 1) ≤ tai) ∧ (∀ i, k ≤ i → i < es.length → tai < aA es i + oO b es (i + 1)) := by
  obtain ⟨k, h1, h2, h3⟩ := place (fun i => aA es i + oO b es (i + 1) ≤ tai) es.length (fun i j hij hj h => by have := g.mono hij hj; omega)
  exact ⟨k, h1, h2, fun i a c => by have := h3 i a c; omega⟩
theorem Gd.utc_place {b : Int} {es : List Le} (g : Gd b es) (utc : Int) : ∃ k, k ≤ es.length ∧ (∀ i, i < k → aA es i ≤ utc) ∧ (∀ i, k ≤ i → i < es.length → utc < aA es i) := by
  obtain ⟨k, h1, h2, h3⟩ := place (fun i => aA es i ≤ utc) es.length (fun i j hij hj h => by have := g.mono hij hj; omega)
  exact ⟨k, h1, h2, fun i a c => by have := h3 i a c; omega⟩
/-- the label of a TAI second: the place, and whether it is an inserted second there -/
theorem Gd.utc_at {b tai : Int} {es : List Le} (g : Gd b es) : ∃ k, k ≤ es.length ∧ (∀ i, i < k → aA es i + oO b es (i + 1) ≤ tai) ∧ (∀ i, k ≤ i → i < es.length → tai < aA es i + oO b es (i + 1)) ∧ uO b tai es = oO b es k ∧
    (uE b tai es es.length = true ↔ k < es.length ∧ tai = aA es k + oO b es (k + 1) - 1 ∧ oO b es (k + 1) = oO b es k + 1) := by
  obtain ⟨k, h1, h2, h3⟩ := g.tai_place tai
  refine ⟨k, h1, h2, h3, uO_at h1 h2 h3, ?_⟩
  rw [uE_iff]
  constructor
  · rintro ⟨i, a, c, d⟩
    have hik : i = k := by
      rcases Nat.lt_trichotomy i k with h | h | h
      · have := h2 i h; omega
      · exact h
      · have := h3 k (Nat.le_refl _) (by omega)
        have := g.mono h a
        omega
    subst hik; exact ⟨a, c, d⟩
  · rintro ⟨a, c, d⟩; exact ⟨k, a, c, d⟩
theorem utcR_ok {b x tai : Int} {es : List Le} (h : (utcR b x es tai).2.2 = 0) : chkT b x es = 0 ∧ inM (tai - uO b tai es - (if uE b tai es es.length then 1 else 0)) 8000000000 = true ∧ (utcR b x es tai).1 = tai - uO b tai es - (if uE b tai es es.length then 1 else 0) ∧ (utcR b x es tai).2.1 = uE b tai es es.length := by
  by_cases hc : chkT b x es = 0
  · by_cases hd : inI (tai - uO b tai es) = true ∧ inM (tai - uO b tai es - (if uE b tai es es.length then 1 else 0)) 8000000000 = true
    · have e : utcR b x es tai = (tai - uO b tai es - (if uE b tai es es.length then 1 else 0), uE b tai es es.length, 0) := by unfold utcR; rw [if_pos hc, if_pos hd]
      rw [e]; exact ⟨hc, hd.2, rfl, rfl⟩
    · have e : utcR b x es tai = (0, false, 3) := by unfold utcR; rw [if_pos hc, if_neg hd]
      rw [e] at h; cases h
  · have e : utcR b x es tai = (0, false, chkT b x es) := by unfold utcR; rw [if_neg hc]
    rw [e] at h; exact absurd h hc
theorem taiR_ok {b x utc : Int} {ex : Bool} {es : List Le} (h : (taiR b x es utc ex).2 = 0) : chkT b x es = 0 ∧ inM utc 8000000000 = true ∧ ¬ ((ex = true ∧ chg b (utc + 1) es ≠ 1) ∨ (ex = false ∧ chg b (utc + 1) es = -1)) ∧ (taiR b x es utc ex).1 = utc + ofsL b utc es + (if ex then 1 else 0) := by
  unfold taiR at h ⊢
  split at h
  · rename_i hc
    rw [if_pos hc]
    split at h
    · rename_i hd
      rw [if_pos hd]
      split at h
      · cases h
      · rename_i he
        rw [if_neg he]
        exact ⟨hc, hd, he, rfl⟩
    · cases h
  · rename_i hc; exact absurd h hc
/-- the label of a TAI second has that second -/
theorem one_a {b x tai : Int} {es : List Le} (h : (utcR b x es tai).2.2 = 0) : taiR b x es (utcR b x es tai).1 (utcR b x es tai).2.1 = (tai, 0) := by
  obtain ⟨hc, hm, h1, h2⟩ := utcR_ok h
  have g := gd_of hc
  obtain ⟨k, k0, k1, k2, k3, k4⟩ := g.utc_at (tai := tai)
  rw [h1, h2]
  unfold taiR
  rw [if_pos hc, if_pos hm, k3]
  cases hu : uE b tai es es.length with
  | true =>
    obtain ⟨a1, a2, a3⟩ := k4.1 hu
    simp only [if_true]
    have e1 : tai - oO b es k - 1 = aA es k - 1 := by omega
    rw [e1]
    have hch : chg b (aA es k - 1 + 1) es = 1 := by rw [show aA es k - 1 + 1 = aA es k by omega, g.chg_at a1 rfl]; omega
    rw [if_neg (by rw [hch]; simp), ofs_at k0 (fun i hi => ?_) (fun i a c => ?_)]
    · rw [show aA es k - 1 + oO b es k + 1 = tai by omega]
    · have := g.mono hi a1; omega
    · rcases Nat.lt_or_ge k i with h | h
      · have := g.mono h c; omega
      · have : i = k := by omega
        subst this; omega
  | false =>
    have hno : ¬ (k < es.length ∧ tai = aA es k + oO b es (k + 1) - 1 ∧ oO b es (k + 1) = oO b es k + 1) := fun h => by rw [k4.2 h] at hu; cases hu
    simp only [Bool.false_eq_true, if_false, Int.sub_zero, Int.add_zero, false_and, true_and, false_or]
    have up : ∀ i, k ≤ i → i < es.length → tai - oO b es k < aA es i ∧ (i = k → oO b es (k + 1) = oO b es k - 1 → tai - oO b es k + 1 < aA es k) ∧ (k < i → tai - oO b es k + 1 < aA es i) := by
      intro i a c
      have hk : k < es.length := by omega
      have s1 := g.st k hk
      have s2 := k2 k (Nat.le_refl _) hk
      have s3 : tai - oO b es k < aA es k := by
        rcases s1 with s1 | s1
        · have : tai ≠ aA es k + oO b es (k + 1) - 1 := fun h => hno ⟨hk, h, s1⟩
          omega
        · omega
      rcases Nat.lt_or_ge k i with h | h
      · have := g.mono h c; exact ⟨by omega, by omega, by omega⟩
      · have : i = k := by omega
        subst this; exact ⟨s3, by omega, by omega⟩
    have low : ∀ i, i < k → aA es i ≤ tai - oO b es k := by
      intro i hi
      obtain ⟨m, rfl⟩ : ∃ m, k = m + 1 := ⟨k - 1, by omega⟩
      have s1 := k1 m (by omega)
      rcases Nat.lt_or_ge i m with h | h
      · have := g.mono h (by omega : m < es.length); omega
      · have : i = m := by omega
        subst this; omega
    have hch : chg b (tai - oO b es k + 1) es ≠ -1 := by
      rcases g.chg_cases (utc := tai - oO b es k + 1) with ⟨i, c1, c2, c3⟩ | ⟨_, c3⟩
      · rw [c3]
        intro hm1
        rcases Nat.lt_or_ge i k with h | h
        · have := low i h; omega
        · obtain ⟨_, u2, u3⟩ := up i h c1
          rcases Nat.lt_or_ge k i with h' | h'
          · have := u3 h'; omega
          · have hik : i = k := by omega
            subst hik
            have := u2 rfl (by omega); omega
      · rw [c3]; decide
    rw [if_neg (by simpa using hch), ofs_at k0 low (fun i a c => (up i a c).1)]
    rw [show tai - oO b es k + oO b es k = tai by omega]
/-- the second of a label has that label -/
theorem one_b {b x utc : Int} {ex : Bool} {es : List Le} (h : (taiR b x es utc ex).2 = 0) : utcR b x es (taiR b x es utc ex).1 = (utc, ex, 0) := by
  obtain ⟨hc, hm, h1, h2⟩ := taiR_ok h
  have g := gd_of hc
  have hm' := inM_t.1 hm
  obtain ⟨k, k0, k1, k2⟩ := g.utc_place utc
  have ko := g.bo k k0
  rw [ofs_at k0 k1 k2] at h2
  have low : ∀ i, i < k → aA es i + oO b es (i + 1) ≤ utc + oO b es k := by
    intro i hi
    obtain ⟨m, rfl⟩ : ∃ m, k = m + 1 := ⟨k - 1, by omega⟩
    have s1 := k1 m (by omega)
    rcases Nat.lt_or_ge i m with h | h
    · have := (g.mono h (by omega : m < es.length)).2; omega
    · have : i = m := by omega
      subst this; omega
  rw [h2]
  cases ex with
  | true =>
    have hch : chg b (utc + 1) es = 1 := Decidable.by_contra fun hh => h1 (.inl ⟨rfl, hh⟩)
    rcases g.chg_cases (utc := utc + 1) with ⟨i, c1, c2, c3⟩ | ⟨_, c3⟩
    · have hik : i = k := by
        rcases Nat.lt_trichotomy i k with h | h | h
        · have := k1 i h; omega
        · exact h
        · have := k2 k (Nat.le_refl _) (by omega)
          have := g.mono h c1
          omega
      subst hik
      have hs : oO b es (i + 1) = oO b es i + 1 := by omega
      have up : ∀ j, i ≤ j → j < es.length → utc + oO b es i + 1 < aA es j + oO b es (j + 1) := by
        intro j a c
        rcases Nat.lt_or_ge i j with h | h
        · have := (g.mono h c).2; omega
        · have : j = i := by omega
          subst this; omega
      simp only [if_true]
      have hu : uO b (utc + oO b es i + 1) es = oO b es i := uO_at k0 (fun j hj => by have := low j hj; omega) up
      have he : uE b (utc + oO b es i + 1) es es.length = true := uE_iff.2 ⟨i, c1, by omega, hs⟩
      unfold utcR
      rw [if_pos hc, hu, he]
      simp only [if_true]
      rw [show utc + oO b es i + 1 - oO b es i - 1 = utc by omega, if_pos ⟨inI_yes (by omega) (by omega), hm⟩]
    · rw [c3] at hch; cases hch
  | false =>
    have hch : chg b (utc + 1) es ≠ -1 := fun hh => h1 (.inr ⟨rfl, hh⟩)
    have up : ∀ j, k ≤ j → j < es.length → utc + oO b es k < aA es j + oO b es (j + 1) ∧ (oO b es (j + 1) = oO b es j + 1 → utc + oO b es k ≠ aA es j + oO b es (j + 1) - 1) := by
      intro j a c
      have hk : k < es.length := by omega
      have s1 := g.st k hk
      have s2 := k2 k (Nat.le_refl _) hk
      have s3 : utc + oO b es k < aA es k + oO b es (k + 1) ∧ (oO b es (k + 1) = oO b es k + 1 → utc + oO b es k ≠ aA es k + oO b es (k + 1) - 1) := by
        rcases s1 with s1 | s1
        · exact ⟨by omega, by omega⟩
        · have : aA es k ≠ utc + 1 := fun h => hch (by rw [g.chg_at hk h]; omega)
          exact ⟨by omega, by omega⟩
      rcases Nat.lt_or_ge k j with h | h
      · have := (g.mono h c).2; exact ⟨by omega, by omega⟩
      · have : j = k := by omega
        subst this; exact s3
    simp only [Bool.false_eq_true, if_false, Int.add_zero]
    have hu : uO b (utc + oO b es k) es = oO b es k := uO_at k0 low (fun j a c => (up j a c).1)
    have he : uE b (utc + oO b es k) es es.length = false := by
      rw [Bool.eq_false_iff]
      intro hh
      obtain ⟨i, a, c, d⟩ := uE_iff.1 hh
      rcases Nat.lt_or_ge i k with h | h
      · have := low i h; omega
      · exact (up i h a).2 d c
    unfold utcR
    rw [if_pos hc, hu, he]
    simp only [Bool.false_eq_true, if_false, Int.sub_zero]
    rw [show utc + oO b es k - oO b es k = utc by omega, if_pos ⟨inI_yes (by omega) (by omega), hm⟩]
/-- what the labels of consecutive seconds are like -/
def TickR (u v : Int) (p q : Bool) (f : Int → Int) : Prop :=
  if q = true then v = u ∧ p = false ∧ f (u + 1) - f u = 1
  else if v - u = 2 then p = false ∧ f v - f u = -1
  else v - u = 1 ∧ (p = true → f v - f u = 1)
theorem ticks {b x tai : Int} {es : List Le} (h : (utcR b x es tai).2.2 = 0) (h' : (utcR b x es (tai + 1)).2.2 = 0) :
    TickR (utcR b x es tai).1 (utcR b x es (tai + 1)).1 (utcR b x es tai).2.1 (utcR b x es (tai + 1)).2.1 (fun utc => offR b x utc es) := by
  obtain ⟨hc, hm, h1, h2⟩ := utcR_ok h
  obtain ⟨_, hm', h1', h2'⟩ := utcR_ok h'
  have hof : (fun utc => offR b x utc es) = fun utc => ofsL b utc es := by funext utc; unfold offR; rw [if_pos hc]
  rw [hof]
  have g := gd_of hc
  obtain ⟨k, k0, k1, k2, k3, k4⟩ := g.utc_at (tai := tai)
  obtain ⟨j, j0, j1, j2, j3, j4⟩ := g.utc_at (tai := tai + 1)
  have below : ∀ {m : Nat} {u : Int}, m < es.length → aA es m - 86400 ≤ u → ∀ i, i < m → aA es i ≤ u := fun hm hu i hi => by have := (g.mono hi hm).1; omega
  have above : ∀ {m : Nat} {u : Int}, m < es.length → u < aA es m → ∀ i, m ≤ i → i < es.length → u < aA es i := fun hm hu i a c => by
    rename_i m u
    rcases Nat.lt_or_ge m i with h | h
    · have := (g.mono h c).1; omega
    · have : i = m := by omega
      subst this; exact hu
  have ofB : ∀ {m : Nat} {u : Int}, m < es.length → aA es m - 86400 ≤ u → u < aA es m → ofsL b u es = oO b es m := fun hm hu hl => ofs_at (by omega) (below hm hu) (above hm hl)
  have ofA : ∀ {m : Nat}, m < es.length → ofsL b (aA es m) es = oO b es (m + 1) := fun hm => by
    rename_i m
    refine ofs_at (by omega) (fun i hi => ?_) (fun i a c => ?_)
    · rcases Nat.lt_or_ge i m with h | h
      · have := (g.mono h hm).1; omega
      · have : i = m := by omega
        subst this; omega
    · have := (g.mono (show m < i by omega) c).1; omega
  rw [k3] at h1
  rw [j3] at h1'
  rw [h1, h1', h2, h2']
  have hkj : k ≤ j := by
    rcases Nat.lt_or_ge j k with h | h
    · have := k1 j h; have := j2 j (Nat.le_refl _) (by omega); omega
    · exact h
  cases hq : uE b (tai + 1) es es.length with
  | true =>
    obtain ⟨a1, a2, a3⟩ := j4.1 hq
    have hjk : j = k := by
      rcases Nat.lt_or_ge k j with h | h
      · have := k2 k (Nat.le_refl _) (by omega)
        have := j1 k h
        have := g.mono h a1
        omega
      · omega
    subst hjk
    have hp : uE b tai es es.length = false := by
      rw [Bool.eq_false_iff]; intro hh
      have := k4.1 hh; omega
    rw [hp]
    simp only [TickR, if_true, Bool.false_eq_true, if_false, Int.sub_zero]
    have e1 : tai - oO b es j = aA es j - 1 := by omega
    rw [e1, show aA es j - 1 + 1 = aA es j by omega, ofA a1, ofB a1 (by omega) (by omega)]
    exact ⟨by omega, trivial, by omega⟩
  | false =>
    simp only [TickR, Bool.false_eq_true, if_false, Int.sub_zero]
    by_cases hjk : j = k
    · subst hjk
      have hp : uE b tai es es.length = false := by
        rw [Bool.eq_false_iff]; intro hh
        have h1 := k4.1 hh
        have := j2 j (Nat.le_refl _) h1.1
        omega
      rw [hp]
      simp only [Bool.false_eq_true, if_false, Int.sub_zero, false_implies, and_true]
      rw [if_neg (by omega)]
      omega
    · have hk : k < es.length := by omega
      have t1 := k2 k (Nat.le_refl _) hk
      have t2 := j1 k (by omega)
      have hj : j = k + 1 := by
        rcases Nat.lt_or_ge (k + 1) j with h | h
        · have := j1 (k + 1) h
          have := g.mono (show k < k + 1 by omega) (by omega : k + 1 < es.length)
          omega
        · omega
      subst hj
      have hv : tai + 1 - oO b es (k + 1) = aA es k := by omega
      rw [hv, ofA hk]
      rcases g.st k hk with s | s
      · have hp : uE b tai es es.length = true := k4.2 ⟨hk, by omega, s⟩
        rw [hp]
        simp only [if_true, forall_const]
        have hu : tai - oO b es k - 1 = aA es k - 1 := by omega
        rw [hu, if_neg (by omega), ofB hk (by omega) (by omega)]
        exact ⟨by omega, by omega⟩
      · have hp : uE b tai es es.length = false := by
          rw [Bool.eq_false_iff]; intro hh
          have h1 := k4.1 hh
          omega
        rw [hp]
        simp only [Bool.false_eq_true, if_false, Int.sub_zero]
        have hu : tai - oO b es k = aA es k - 2 := by omega
        rw [hu, if_pos (by omega), ofB hk (by omega) (by omega)]
        exact ⟨trivial, by omega⟩
theorem nxtF_at {utc : Int} : ∀ {es : List Le} {k : Nat}, k < es.length → (∀ i, i < k → aA es i ≤ utc) → utc < aA es k → nxtF utc es = some (es.getD k ⟨0, 0⟩)
  | [], k, h, _, _ => by simp at h
  | e :: r, 0, _, _, h => by
    have h' : utc < e.a := h
    simp [nxtF, h']
  | e :: r, k + 1, h, h1, h2 => by
    have h0 : e.a ≤ utc := h1 0 (by omega)
    have ih := nxtF_at (utc := utc) (es := r) (k := k) (by simpa using h) (fun i hi => h1 (i + 1) (by omega)) h2
    rw [nxtF, if_neg (by omega), ih]
    rfl
theorem dno_next {y m : Int} (h1 : 1 ≤ m) (h2 : m ≤ 12) : dno (nxY y m) (nxM m) 1 = dno y m 1 + dim y m := by
  have hc := cum_succ y h1 h2
  unfold dno nxY nxM
  by_cases h : m = 12
  · subst h
    rw [if_pos rfl, if_pos rfl, cum_1]
    have := ys_succ y
    have c13 := cum_13 y
    rw [show (12 : Int) + 1 = 13 by omega] at hc
    omega
  · rw [if_neg h, if_neg h]; omega
theorem announce {b x utc v : Int} {es : List Le} (h : IndR b x es utc v) : (v = 0 ∨ (v = 3 ∧ x ≤ utc)) ∨ ((v = 1 ∨ v = 2) ∧ ∃ e y m d, nxtR b x utc es = some e ∧ -8000000000 ≤ utc ∧ utc < x ∧ x ≤ 8000000000 ∧ 1 ≤ e.a - utc ∧ e.a - utc ≤ 2678400 ∧ IsCv (utc / 86400) y m d ∧
    IsCv (e.a / 86400) (nxY y m) (nxM m) 1 ∧ -8000000000 ≤ e.a ∧ e.a ≤ 8000000000 ∧ e.o - offR b x utc es = 3 - 2 * v ∧ inM e.o 1000 = true ∧ inM (offR b x utc es) 1000 = true) := by
  unfold IndR at h
  split at h
  case isFalse => exact .inl (.inl h)
  rename_i hc
  obtain ⟨hc, hu⟩ := hc
  split at h
  case isTrue => rename_i hx; exact .inl (.inr ⟨h, hx⟩)
  rename_i hx
  obtain ⟨y, m, d, hcv, hv⟩ := h
  split at hv
  case isFalse => exact .inl (.inl hv)
  rename_i hsec
  obtain ⟨_, _, hxx, _, _⟩ := chkT_ok hc
  have hxx := inM_t.1 hxx
  have hcv' := hcv
  obtain ⟨c1, c2, c3, c4, c5, c6, c7⟩ := hcv'
  have hdim := dim_bd y c3 c4
  have hnx := dno_next (y := y) c3 c4
  have hy : dno y m d = dno y m 1 + (d - 1) := by unfold dno; omega
  have hs1 : (secR (nxY y m) (nxM m)).1 = 86400 * dno (nxY y m) (nxM m) 1 ∧ nxY y m ≤ 2199 ∧ 1600 ≤ nxY y m ∧ 86400 * dno (nxY y m) (nxM m) 1 ≤ 8000000000 := by
    have e1 : 1600 ≤ nxY y m ∧ nxY y m ≤ 2200 := Decidable.by_contra fun hh => by
      unfold secR at hsec; rw [if_neg hh] at hsec; cases hsec
    have e2 : inB (86400 * dno (nxY y m) (nxM m) 1) (-8000000000) 8000000000 = true := Decidable.by_contra fun hh => by
      unfold secR at hsec; rw [if_pos e1, if_neg hh] at hsec; cases hsec
    have e3 := inB_t.1 e2
    refine ⟨by unfold secR; rw [if_pos e1, if_pos e2], Decidable.by_contra fun hh => ?_, e1.1, e3.2⟩
    have h22 : nxY y m = 2200 := by omega
    rw [h22] at e3
    have hM : 1 ≤ nxM m ∧ nxM m ≤ 13 := by unfold nxM; split <;> omega
    have := cum_mono 2200 (a := 1) (b := nxM m) (by omega) hM.1 hM.2
    have := cum_1 2200
    have := ys_2200
    unfold dno at e3
    omega
  rw [hs1.1] at hv
  have g := gd_of hc
  rcases g.chg_cases (utc := 86400 * dno (nxY y m) (nxM m) 1) with ⟨k, k1, k2, k3⟩ | ⟨_, k3⟩
  case inr => rw [k3] at hv; exact .inl (.inl hv)
  have hat : utc < aA es k := by omega
  have low : ∀ i, i < k → aA es i ≤ utc := by
    intro i hi
    rcases Int.lt_or_le utc (aA es i) with h | h
    · exfalso
      have hlt := (g.mono hi k1).1
      obtain ⟨y', m', e1, e2, e3, e4, e5⟩ := mst_iff.1 (g.ms i (by omega))
      have hd' := dim_bd y' e3 e4
      have i1 : IsCv (aA es i / 86400) y' m' 1 := ⟨e1, e2, e3, e4, by omega, by omega, by omega⟩
      have i2 : IsCv (aA es i / 86400) y m (aA es i / 86400 - dno y m 1 + 1) := ⟨c1, c2, c3, c4, by omega, by omega, by unfold dno; omega⟩
      have := (i1.uniq i2).2.2
      omega
    · exact h
  have hnext : nxtR b x utc es = some (es.getD k ⟨0, 0⟩) := by unfold nxtR; rw [if_pos hc, nxtF_at k1 low hat]
  have hof : offR b x utc es = oO b es k := by
    unfold offR; rw [if_pos hc]
    refine ofs_at (by omega) low (fun i a c => ?_)
    rcases Nat.lt_or_ge k i with h | h
    · have := (g.mono h c).1; omega
    · have : i = k := by omega
      subst this; exact hat
  have ho : (es.getD k ⟨0, 0⟩).o = oO b es (k + 1) := (oO_succ b es k).symm
  have ha : (es.getD k ⟨0, 0⟩).a = aA es k := rfl
  have hba := g.ba k k1
  have hb1 := g.bo k (by omega)
  have hb2 := g.bo (k + 1) (by omega)
  have hM : 1 ≤ nxM m ∧ nxM m ≤ 12 := by unfold nxM; split <;> omega
  have hdn := dim_bd (nxY y m) hM.1 hM.2
  have hst := g.st k k1
  have hvv : v = if oO b es (k + 1) - oO b es k = 1 then 1 else 2 := by
    rw [hv, k3]; unfold indC
    rcases hst with s | s
    · rw [if_pos (by omega), if_pos (by omega)]
    · rw [if_neg (by omega), if_pos (by omega), if_neg (by omega)]
  have hvv2 : (v = 1 ∧ oO b es (k + 1) = oO b es k + 1) ∨ (v = 2 ∧ oO b es (k + 1) = oO b es k - 1) := by
    rcases hst with s | s
    · rw [if_pos (by omega)] at hvv; exact .inl ⟨hvv, s⟩
    · rw [if_neg (by omega)] at hvv; exact .inr ⟨hvv, s⟩
  refine .inr ⟨by omega, es.getD k ⟨0, 0⟩, y, m, d, hnext, hu, by omega, by omega, by omega, by omega, hcv, ?_, ?_⟩
  · rw [ha, k2]
    exact ⟨hs1.2.2.1, hs1.2.1, hM.1, hM.2, by omega, by omega, by omega⟩
  · rw [ha, ho, hof]
    exact ⟨by omega, by omega, by omega, inM_t.2 (by omega), inM_t.2 (by omega)⟩
theorem tai_bd (b x : Int) (es : List Le) (utc : Int) (ex : Bool) : -9223372036854775808 ≤ (taiR b x es utc ex).1 ∧ (taiR b x es utc ex).1 ≤ 9223372036854775807 := by
  unfold taiR
  split
  · rename_i hc
    split
    · rename_i hm
      split
      · exact ⟨by decide, by decide⟩
      · obtain ⟨_, hb, _, hr, _⟩ := chkT_ok hc
        have h1 := inM_t.1 (ofsL_bd (utc := utc) hb (fun e he => (hr e he).1))
        have h2 := inM_t.1 hm
        cases ex <;> simp <;> omega
    · exact ⟨by decide, by decide⟩
  · exact ⟨by simp, by simp⟩
end Go.Proofs.YtnfejojakikeeaaGreatDoor
