/- Scenes in plain Lean: the data and the checks. No condition. -/
import Derived.Test.YthmeifdgkodjlaaDoorTw
namespace Go.Proofs.YthmeifdgkodjlaaDoor

/-- the first error of those with the numbers from i on -/
def fe (f : Nat → Int) : Nat → Nat → Int
  | 0, _ => 0
  | k + 1, i => if f i = 0 then fe f k (i + 1) else f i
theorem fe_ok {f : Nat → Int} : ∀ {k i : Nat}, fe f k i = 0 ↔ ∀ j, i ≤ j → j < i + k → f j = 0
  | 0, i => by simp [fe]; omega
  | k + 1, i => by
    unfold fe
    constructor
    · intro h j h1 h2
      by_cases h0 : f i = 0
      · rw [if_pos h0] at h
        by_cases hj : j = i
        · subst hj; exact h0
        · exact (fe_ok (k := k)).1 h j (by omega) (by omega)
      · rw [if_neg h0] at h; exact absurd h h0
    · intro h
      have h0 := h i (Nat.le_refl _) (by omega)
      rw [if_pos h0]
      exact (fe_ok (k := k)).2 fun j a b => h j (by omega) (by omega)
theorem fe_yes {f : Nat → Int} {n k : Nat} (hk : k < n) (h : f k = 0) : fe f (n - k) k = fe f (n - (k + 1)) (k + 1) := by
  rw [show n - k = (n - (k + 1)) + 1 by omega, fe, if_pos h]
theorem fe_no {f : Nat → Int} {n k : Nat} (hk : k < n) (h : f k ≠ 0) : fe f (n - k) k = f k := by
  rw [show n - k = (n - (k + 1)) + 1 by omega, fe, if_neg h]
theorem fe_end {f : Nat → Int} {n k : Nat} (hk : n ≤ k) : fe f (n - k) k = 0 := by
  rw [show n - k = 0 by omega]; rfl

structure Sg where
  a : Int
  p : Int
deriving DecidableEq
structure Ch where
  a : Int
  d : Int
  y : Int
deriving DecidableEq
structure Nd where
  ph : Int
  sg : List Sg
  tol : Int
  rf : Bool
  er : Int
  st : Int
  sv : List Int
deriving DecidableEq
structure Lk where
  A : Int
  B : Int
  d0 : Int
  d1 : Int
  v0 : Int
  v1 : Int
  lo : Int
  sd : Int
  ch : List Ch
deriving DecidableEq
structure Ft where
  n : Int
  f : Int
  t : Int
  k : Int
  v : Int
deriving DecidableEq
structure Sc where
  nd : List Nd
  lk : List Lk
  ft : List Ft
  un : Int
  sd : Int
deriving DecidableEq
def sg0 : Sg := ⟨0, 0⟩
def ch0 : Ch := ⟨0, 0, 0⟩
def nd0 : Nd := ⟨0, [], 0, false, 0, 0, []⟩
def lk0 : Lk := ⟨0, 0, 0, 0, 0, 0, 0, 0, []⟩
def ft0 : Ft := ⟨0, 0, 0, 0, 0⟩
/-- from lo to hi? -/
def inR (n lo hi : Int) : Bool := decide (lo ≤ n ∧ n ≤ hi)
theorem inR_t {n lo hi : Int} : inR n lo hi = true ↔ (lo ≤ n ∧ n ≤ hi) := by simp [inR]
theorem inR_f {n lo hi : Int} : inR n lo hi = false ↔ ¬ (lo ≤ n ∧ n ≤ hi) := by simp only [inR, decide_eq_false_iff_not]
def sgE (l : List Sg) (i : Nat) : Int :=
  if inR (l.getD i sg0).a 0 1125899906842624 = true ∧ inR (l.getD i sg0).p (-500000) 500000 = true then
    (if i = 0 ∧ (l.getD i sg0).a ≠ 0 then 7 else if 0 < i ∧ (l.getD i sg0).a ≤ (l.getD (i - 1) sg0).a then 12 else 0) else 3
def oscE (ph : Int) (l : List Sg) : Int :=
  if l.length = 0 then 14 else if 16 < l.length then 6 else if inR ph (-1125899906842624) 1125899906842624 = true then fe (sgE l) l.length 0 else 3
def oscM (l : List Sg) : Int := l.foldl (fun b s => max (max b s.p) (-s.p)) 0
def oscB (ph : Int) (l : List Sg) : Int := if oscE ph l = 0 then oscM l else 0
def chR (c : Ch) : Bool := inR c.a 0 1125899906842624 && (inR c.d 0 1 && inR c.y 0 10000000000)
def chO (l : List Ch) (i : Nat) : Int := if (l.getD i ch0).a < (l.getD (i - 1) ch0).a then 12 else 0
def lkR (l : Lk) : Bool := (inR l.d0 0 10000000000 && inR l.d1 0 10000000000) && ((inR l.v0 0 10000000000 && inR l.v1 0 10000000000) && inR l.lo 0 1000)
def linkE (l : Lk) : Int :=
  if lkR l = true then (if l.ch.all chR = true then (if 16 < l.ch.length then 6 else fe (chO l.ch) (l.ch.length - 1) 1) else 3) else 3
/-- is a value one of its kind? -/
def fits (k v : Int) : Bool :=
  if k = 2 ∨ k = 3 then inR v (-1125899906842624) 1125899906842624 else if k = 5 then inR v 1 15 else if k = 6 then inR v 0 3 else if k = 9 then inR v 0 1125899906842624 else decide (v = 0)
def ftE (f : Ft) : Int :=
  if inR f.n 0 23 = true ∧ inR f.f 0 1125899906842624 = true ∧ inR f.t 0 1125899906842624 = true then
    (if f.t < f.f then 12 else if inR f.k 1 9 = true then (if fits f.k f.v = true then 0 else 3) else 8) else 3
def fcE (l : List Ft) : Int := if 32 < l.length then 6 else fe (fun i => ftE (l.getD i ft0)) l.length 0
def svE (l : List Int) (node nodes : Int) (i : Nat) : Int :=
  if inR (l.getD i 0) 0 (nodes - 1) = true then (if l.getD i 0 = node then 18 else if l.getD i 0 ∈ l.take i then 10 else 0) else 3
def ndE (n : Nd) (i nodes : Int) : Int :=
  if oscE n.ph n.sg = 0 then
    (if inR n.tol 0 500000 = true then
      (if n.tol < oscB n.ph n.sg then 15
       else if inR n.er 0 1125899906842624 = true ∧ (n.er = 0 ∨ n.rf = true) then
        (if n.rf = true ∧ 0 < n.sv.length then 7
         else if 12 < n.sv.length then 6
         else if fe (svE n.sv i nodes) n.sv.length 0 = 0 then (if inR n.st 0 1125899906842624 = true then 0 else 3) else fe (svE n.sv i nodes) n.sv.length 0)
       else 3)
     else 3)
  else oscE n.ph n.sg
def twin (l : List Lk) (x : Lk) : Bool := l.any fun y => decide (y.A = x.A) && decide (y.B = x.B)
def leE (l : List Lk) (nodes : Int) (i : Nat) : Int :=
  if inR (l.getD i lk0).A 0 (nodes - 1) = true ∧ inR (l.getD i lk0).B 0 (nodes - 1) = true then
    (if (l.getD i lk0).B ≤ (l.getD i lk0).A then 12 else if twin (l.take i) (l.getD i lk0) = true then 10 else linkE (l.getD i lk0)) else 3
/-- the link between two nodes, from the index i on, and its direction -/
def lnkF (a b : Int) : List Lk → Nat → Option (Nat × Bool)
  | [], _ => none
  | l :: r, i => if l.A = a ∧ l.B = b then some (i, false) else if l.A = b ∧ l.B = a then some (i, true) else lnkF a b r (i + 1)
def lnk (l : List Lk) (a b : Int) : Option (Nat × Bool) := lnkF a b l 0
def jnE (l : List Lk) (i : Int) (n : Nd) : Int := if n.sv.all (fun s => (lnk l i s).isSome) = true then 0 else 11
def chkS (s : Sc) : Int :=
  if s.nd.length = 0 then 14 else if 24 < s.nd.length ∨ 64 < s.lk.length then 6
  else if fe (fun i => ndE (s.nd.getD i nd0) i s.nd.length) s.nd.length 0 = 0 then
    (if fe (leE s.lk s.nd.length) s.lk.length 0 = 0 then
      (if fe (fun i => jnE s.lk i (s.nd.getD i nd0)) s.nd.length 0 = 0 then
        (if fcE s.ft = 0 then
          (if s.ft.all (fun f => decide (f.n < s.nd.length)) = true then (if inR s.un 1 1125899906842624 = true then 0 else 3) else 3)
         else fcE s.ft)
       else 11)
     else fe (leE s.lk s.nd.length) s.lk.length 0)
  else fe (fun i => ndE (s.nd.getD i nd0) i s.nd.length) s.nd.length 0
end Go.Proofs.YthmeifdgkodjlaaDoor
