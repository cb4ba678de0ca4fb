/- The numbered lines of a text, and reading them one by one. Plain Lean, no condition. -/
import Derived.Test.YthmeifdgkodjlaaDoorS3
namespace Go.Proofs.YthmeifdgkodjlaaDoor
open Go

/-- the lines with their line feeds and numbers, out of the pieces between line feeds -/
def lnsO : Nat → List (List UInt8) → List (Nat × List UInt8)
  | _, [] => []
  | n, [l] => if l = [] then [] else [(n, l)]
  | n, l :: q :: r => (n, l ++ [10]) :: lnsO (n + 1) (q :: r)
theorem lnsO_cons (n : Nat) (l : List UInt8) {r : List (List UInt8)} (h : r ≠ []) : lnsO n (l :: r) = (n, l ++ [10]) :: lnsO (n + 1) r := by
  cases r with
  | nil => exact absurd rfl h
  | cons q r => rfl
/-- reading them -/
def rdI : SSt → List (Nat × List UInt8) → Except Nat SSt
  | x, [] => .ok x
  | x, (n, l) :: r => if l.getLast? = some 10 then (match rdW x (pcs 32 l.dropLast) with
      | none => .error n
      | some y => rdI y r) else .error n
theorem rdI_snoc : ∀ (p : List (Nat × List UInt8)) (x y : SSt) (n : Nat) (l : List UInt8), rdI x p = .ok y →
    rdI x (p ++ [(n, l)]) = if l.getLast? = some 10 then (match rdW y (pcs 32 l.dropLast) with
      | none => .error n
      | some z => .ok z) else .error n
  | [], x, y, n, l, h => by
    cases h
    simp only [List.nil_append, rdI]
  | (m, q) :: p, x, y, n, l, h => by
    simp only [List.cons_append, rdI] at h ⊢
    split at h
    · rename_i hq
      rw [if_pos hq]
      cases hz : rdW x (pcs 32 q.dropLast) with
      | none => rw [hz] at h; cases h
      | some z => rw [hz] at h; exact rdI_snoc p z y n l h
    · cases h
theorem rdI_err : ∀ (p r : List (Nat × List UInt8)) (x : SSt) (m : Nat), rdI x p = .error m → rdI x (p ++ r) = .error m
  | [], _, _, _, h => by cases h
  | (n, q) :: p, r, x, m, h => by
    simp only [List.cons_append, rdI] at h ⊢
    split at h
    · rename_i hq
      rw [if_pos hq]
      cases hz : rdW x (pcs 32 q.dropLast) with
      | none => rw [hz] at h; exact h
      | some z => rw [hz] at h; exact rdI_err p r z m h
    · rename_i hq
      rw [if_neg hq]; exact h
theorem rdA_lns : ∀ (ps : List (List UInt8)) (x : SSt) (n : Nat), ps ≠ [] → (∀ p ∈ ps, (10 : UInt8) ∉ p) →
    rdA x n ps = match rdI x (lnsO n ps) with
      | .error m => .error m
      | .ok y => if whole y.at_ = true then .ok y else .error (n + (lnsO n ps).length)
  | [], _, _, h, _ => absurd rfl h
  | [l], x, n, _, hn => by
    rw [rdA, lnsO]
    by_cases hl : l = []
    · subst hl
      simp only [if_true, rdI, true_and, List.length_nil, Nat.add_zero]
    · have hg : l.getLast? ≠ some 10 := fun e => hn l (by simp) (List.mem_of_getLast? e)
      rw [if_neg (fun h => hl h.1), if_neg hl]
      simp only [rdI, if_neg hg]
  | l :: q :: r, x, n, _, hn => by
    rw [rdA]
    · rw [lnsO]
      have hg : (l ++ [10]).getLast? = some 10 := by simp
      simp only [rdI, if_pos hg, List.dropLast_concat]
      cases hz : rdW x (pcs 32 l) with
      | none => rfl
      | some y =>
        simp only
        rw [rdA_lns (q :: r) y (n + 1) (by simp) (fun p hp => hn p (by simp [hp]))]
        cases rdI y (lnsO (n + 1) (q :: r)) with
        | error m => rfl
        | ok z => simp only [List.length_cons]; rw [show n + ((lnsO (n + 1) (q :: r)).length + 1) = n + 1 + (lnsO (n + 1) (q :: r)).length by omega]
    · intro e; cases e
theorem lnsO_num : ∀ (ps : List (List UInt8)) (n i : Nat) (y : Nat × List UInt8), (lnsO n ps)[i]? = some y → y.1 = n + i
  | [], _, _, _, h => by simp [lnsO] at h
  | [l], n, i, y, h => by
    rw [lnsO] at h
    split at h
    · simp at h
    · cases i with
      | zero => simp at h; rw [← h]; simp
      | succ i => simp at h
  | l :: q :: r, n, i, y, h => by
    rw [lnsO] at h
    cases i with
    | zero => simp at h; rw [← h]; simp
    | succ i =>
      rw [List.getElem?_cons_succ] at h
      have := lnsO_num (q :: r) (n + 1) i y h
      omega
theorem lnsO_length : ∀ (ps : List (List UInt8)) (n : Nat), (lnsO n ps).length ≤ ps.length
  | [], _ => by simp [lnsO]
  | [l], n => by rw [lnsO]; split <;> simp
  | l :: q :: r, n => by
    rw [lnsO]
    have := lnsO_length (q :: r) (n + 1)
    simp at this ⊢; omega
/-- one line is taken off a text -/
theorem lns_step (n : Nat) (L : List UInt8) (h : L ≠ []) : ∃ l r, L = l ++ r ∧ l ≠ [] ∧ lnsO n (pcs 10 L) = (n, l) :: lnsO (n + 1) (pcs 10 r) ∧
    ((10 : UInt8) ∉ L ∧ l = L ∧ r = [] ∨ ∃ a, (10 : UInt8) ∉ a ∧ l = a ++ [10]) := by
  by_cases hc : (10 : UInt8) ∈ L
  · obtain ⟨a, r, rfl, ha⟩ := cut_first L hc
    refine ⟨a ++ [10], r, by simp, by simp, ?_, .inr ⟨a, ha, rfl⟩⟩
    rw [pcs_cut r ha, lnsO_cons n a (pcs_ne 10 r)]
  · refine ⟨L, [], by simp, h, ?_, .inl ⟨hc, rfl, rfl⟩⟩
    rw [pcs_no hc]
    simp [lnsO, h, pcs]
theorem lns_nil (n : Nat) : lnsO n (pcs 10 []) = [] := by simp [lnsO, pcs]
theorem lnsO_mem : ∀ (ps : List (List UInt8)) (n : Nat) (y : Nat × List UInt8), y ∈ lnsO n ps → ∃ p ∈ ps, y.2 = p ∨ y.2 = p ++ [10]
  | [], _, _, h => by simp [lnsO] at h
  | [l], n, y, h => by
    rw [lnsO] at h
    split at h
    · simp at h
    · simp at h; exact ⟨l, by simp, .inl (by rw [h])⟩
  | l :: q :: r, n, y, h => by
    rw [lnsO] at h
    rcases List.mem_cons.1 h with rfl | h
    · exact ⟨l, by simp, .inr rfl⟩
    · obtain ⟨p, hp, hy⟩ := lnsO_mem (q :: r) (n + 1) y h
      exact ⟨p, List.mem_cons_of_mem _ hp, hy⟩
theorem mem_pcs_len {c : UInt8} : ∀ {l p : List UInt8}, p ∈ pcs c l → p.length ≤ l.length
  | [], p, h => by simp [pcs] at h; simp [h]
  | x :: r, p, h => by
    unfold pcs at h
    split at h
    · rcases List.mem_cons.1 h with rfl | h
      · simp
      · have := mem_pcs_len h; simp; omega
    · split at h
      · rename_i e; exact absurd e (pcs_ne c r)
      · rename_i q t e
        rcases List.mem_cons.1 h with rfl | h
        · have := mem_pcs_len (c := c) (l := r) (p := q) (by rw [e]; simp)
          simp; omega
        · have := mem_pcs_len (c := c) (l := r) (p := p) (by rw [e]; simp [h])
          simp; omega
/-- what reading gives, for Parse -/
def endS (r : Except Nat SSt) (n : Nat) : Sc × Nat × Int := match r with
  | .error m => (sc0, m, 19)
  | .ok x => if whole x.at_ = true then (if chkS x.sc = 0 then (x.sc, 0, 0) else (sc0, 0, chkS x.sc)) else (sc0, n + 1, 19)
theorem prsS_lns (s : List UInt8) : prsS s = endS (rdI ss0 (lnsO 1 (pcs 10 s))) (lnsO 1 (pcs 10 s)).length := by
  unfold prsS endS
  rw [rdA_lns _ _ _ (pcs_ne 10 s) (fun p hp => mem_pcs hp)]
  cases rdI ss0 (lnsO 1 (pcs 10 s)) with
  | error m => rfl
  | ok y =>
    simp only
    by_cases hw : whole y.at_ = true
    · rw [if_pos hw, if_pos hw]
    · rw [if_neg hw, if_neg hw, Nat.add_comm]

/-- the parts are not more than the lines -/
structure SLm (n : Nat) (x : SSt) : Prop where
  nd : x.sc.nd.length ≤ n
  lk : x.sc.lk.length ≤ n
  ft : x.sc.ft.length ≤ n
  sg : ∀ y ∈ x.sc.nd, y.sg.length ≤ n ∧ y.sv.length ≤ n
  ch : ∀ y ∈ x.sc.lk, y.ch.length ≤ n
  l6 : x.at_ = 6 → 0 < x.sc.lk.length
theorem slm0 : SLm 0 ss0 := ⟨by simp [ss0, sc0], by simp [ss0, sc0], by simp [ss0, sc0], by simp [ss0, sc0], by simp [ss0, sc0], by simp [ss0]⟩
theorem slm_step {x y : SSt} {ws : List (List UInt8)} {n : Nat} (hi : SLm n x) (h : rdW x ws = some y) : SLm (n + 1) y := by
  obtain ⟨⟨nd, lk, ft, un, sd⟩, a⟩ := x
  obtain ⟨i1, i2, i3, i4, i5, i6⟩ := hi
  simp only at i1 i2 i3 i4 i5 i6
  have i4' : ∀ y ∈ nd, y.sg.length ≤ n + 1 ∧ y.sv.length ≤ n + 1 := fun y hy => by have := i4 y hy; omega
  have i5' : ∀ y ∈ lk, y.ch.length ≤ n + 1 := fun y hy => by have := i5 y hy; omega
  rcases ws with _ | ⟨w, r⟩
  · cases h
  · rw [rdW] at h
    split at h
    · obtain ⟨m, rfl, h0, rfl⟩ := until_inv h
      exact ⟨by simp; omega, by simp; omega, by simp; omega, i4', i5', by simp⟩
    · split at h
      · obtain ⟨m, rfl, h0, rfl, _⟩ := seed_inv h
        exact ⟨by simp; omega, by simp; omega, by simp; omega, i4', i5', by simp⟩
      · split at h
        · obtain ⟨m, hr, h0, rfl, e1, e2, e3⟩ := node_inv h
          refine ⟨by simp [addN]; omega, by simp [addN]; omega, by simp [addN]; omega, fun y hy => ?_, i5', by simp [addN]⟩
          rcases List.mem_append.1 hy with hy | hy
          · exact i4' y hy
          · obtain rfl : y = m := by simpa using hy
            rw [e2, e3]; simp
        · split at h
          · obtain ⟨l, m, hl, hc⟩ := part_inv h
            simp only at hl
            have hm := i4 m (by rw [hl]; simp)
            have hlen : nd.length = l.length + 1 := by rw [hl]; simp
            have key : ∀ m' : Nd, m'.sg.length ≤ n + 1 ∧ m'.sv.length ≤ n + 1 → ∀ y ∈ l ++ [m'], y.sg.length ≤ n + 1 ∧ y.sv.length ≤ n + 1 := fun m' hm' y hy => by
              rcases List.mem_append.1 hy with hy | hy
              · exact i4' y (by rw [hl]; simp [hy])
              · obtain rfl : y = m' := by simpa using hy
                exact hm'
            rcases hc with ⟨p, rfl, h3, _, rfl⟩ | ⟨v, rfl, h3, _, rfl⟩ | ⟨s, rfl, h3, _, rfl⟩
            · exact ⟨by simp; omega, by simp; omega, by simp; omega, key _ ⟨by simp; omega, by simp; omega⟩, i5', by simp⟩
            · exact ⟨by simp; omega, by simp; omega, by simp; omega, key _ ⟨by simp; omega, by simp; omega⟩, i5', by simp⟩
            · exact ⟨by simp; omega, by simp; omega, by simp; omega, key _ ⟨by simp; omega, by simp; omega⟩, i5', by simp⟩
          · split at h
            · obtain ⟨k, hr, h0, rfl, e1, e2, e3⟩ := link_inv h
              refine ⟨by simp; omega, by simp; omega, by simp; omega, i4', fun y hy => ?_, by simp⟩
              rcases List.mem_append.1 hy with hy | hy
              · exact i5' y hy
              · obtain rfl : y = k := by simpa using hy
                rw [e1]; simp
            · split at h
              · obtain ⟨l, k, c, hl, h6, hr, rfl⟩ := change_inv h
                simp only at hl
                have hm := i5 k (by rw [hl]; simp)
                have hlen : lk.length = l.length + 1 := by rw [hl]; simp
                refine ⟨by simp; omega, by simp; omega, by simp; omega, i4', fun y hy => ?_, by simp⟩
                rcases List.mem_append.1 hy with hy | hy
                · exact i5' y (by rw [hl]; simp [hy])
                · obtain rfl : y = { k with ch := k.ch ++ [c] } := by simpa using hy
                  simp; omega
              · split at h
                · obtain ⟨f, hr, h0, rfl⟩ := fault_inv h
                  exact ⟨by simp; omega, by simp; omega, by simp; omega, i4', i5', by simp⟩
                · cases h
theorem slm_run : ∀ (p : List (Nat × List UInt8)) (x y : SSt) (n : Nat), SLm n x → rdI x p = .ok y → SLm (n + p.length) y
  | [], x, y, n, hi, h => by cases h; exact hi
  | (m, l) :: p, x, y, n, hi, h => by
    simp only [rdI] at h
    split at h
    · cases hz : rdW x (pcs 32 l.dropLast) with
      | none => rw [hz] at h; cases h
      | some z =>
        rw [hz] at h
        have := slm_run p z y (n + 1) (slm_step hi hz) h
        rw [List.length_cons, show n + (p.length + 1) = n + 1 + p.length by omega]
        exact this
    · cases h
end Go.Proofs.YthmeifdgkodjlaaDoor
