/- Texts of one chain: XS1 XS2 XS3 XS5 XS6 XS7 XS8 XS9 XSa XSb XSc XSd XSe XSf. -/
import Derived.Test.YthmeifdgkodjlaaGreatDoorG1
import Derived.Deep.Cut
import Derived.Shelf.RegionOpenPlain
import Derived.Lib.UnsafeStr
import Derived.Lib.AppendStr
import Derived.Laws.AppendOwn
import Derived.Laws.Externs
import Derived.Lib.Builder
/- Scenes in plain Lean: the data and the checks. No condition. -/
namespace Go.Proofs.YthmeifdgkodjlaaGreatDoor

/-- the first error of those with the numbers from i on -/
def fe (f : Nat → Int) : Nat → Nat → Int
  | 0, _ => 0
  | k + 1, i => if f i = 0 then fe f k (i + 1) else f i
theorem fe_ok {f : Nat → Int} : ∀ {k i : Nat}, fe f k i = 0 ↔ ∀ j, i ≤ j → j < i + k → f j = 0
  | 0, i => by simp [fe]; omega
  | k + 1, i => by
    unfold fe
    constructor
    · intro h j h1 h2
      by_cases h0 : f i = 0
      · rw [if_pos h0] at h
        by_cases hj : j = i
        · subst hj; exact h0
        · exact (fe_ok (k := k)).1 h j (by omega) (by omega)
      · rw [if_neg h0] at h; exact absurd h h0
    · intro h
      have h0 := h i (Nat.le_refl _) (by omega)
      rw [if_pos h0]
      exact (fe_ok (k := k)).2 fun j a b => h j (by omega) (by omega)
theorem fe_yes {f : Nat → Int} {n k : Nat} (hk : k < n) (h : f k = 0) : fe f (n - k) k = fe f (n - (k + 1)) (k + 1) := by
  rw [show n - k = (n - (k + 1)) + 1 by omega, fe, if_pos h]
theorem fe_no {f : Nat → Int} {n k : Nat} (hk : k < n) (h : f k ≠ 0) : fe f (n - k) k = f k := by
  rw [show n - k = (n - (k + 1)) + 1 by omega, fe, if_neg h]
theorem fe_end {f : Nat → Int} {n k : Nat} (hk : n ≤ k) : fe f (n - k) k = 0 := by
  rw [show n - k = 0 by omega]; rfl

structure Sg where
  a : Int
  p : Int
deriving DecidableEq
structure Ch where
  a : Int
  d : Int
  y : Int
deriving DecidableEq
structure Nd where
  ph : Int
  sg : List Sg
  tol : Int
  rf : Bool
  er : Int
  st : Int
  sv : List Int
deriving DecidableEq
structure Lk where
  A : Int
  B : Int
  d0 : Int
  d1 : Int
  v0 : Int
  v1 : Int
  lo : Int
  sd : Int
  ch : List Ch
deriving DecidableEq
structure Ft where
  n : Int
  f : Int
  t : Int
  k : Int
  v : Int
deriving DecidableEq
structure Sc where
  nd : List Nd
  lk : List Lk
  ft : List Ft
  un : Int
  sd : Int
deriving DecidableEq
def sg0 : Sg := ⟨0, 0⟩
def ch0 : Ch := ⟨0, 0, 0⟩
def nd0 : Nd := ⟨0, [], 0, false, 0, 0, []⟩
def lk0 : Lk := ⟨0, 0, 0, 0, 0, 0, 0, 0, []⟩
def ft0 : Ft := ⟨0, 0, 0, 0, 0⟩
/-- from lo to hi? -/
def inR (n lo hi : Int) : Bool := decide (lo ≤ n ∧ n ≤ hi)
theorem inR_t {n lo hi : Int} : inR n lo hi = true ↔ (lo ≤ n ∧ n ≤ hi) := by simp [inR]
theorem inR_f {n lo hi : Int} : inR n lo hi = false ↔ ¬ (lo ≤ n ∧ n ≤ hi) := by simp only [inR, decide_eq_false_iff_not]
def sgE (l : List Sg) (i : Nat) : Int :=
  if inR (l.getD i sg0).a 0 1125899906842624 = true ∧ inR (l.getD i sg0).p (-500000) 500000 = true then
    (if i = 0 ∧ (l.getD i sg0).a ≠ 0 then 7 else if 0 < i ∧ (l.getD i sg0).a ≤ (l.getD (i - 1) sg0).a then 12 else 0) else 3
def oscE (ph : Int) (l : List Sg) : Int :=
  if l.length = 0 then 14 else if 16 < l.length then 6 else if inR ph (-1125899906842624) 1125899906842624 = true then fe (sgE l) l.length 0 else 3
def oscM (l : List Sg) : Int := l.foldl (fun b s => max (max b s.p) (-s.p)) 0
def oscB (ph : Int) (l : List Sg) : Int := if oscE ph l = 0 then oscM l else 0
def chR (c : Ch) : Bool := inR c.a 0 1125899906842624 && (inR c.d 0 1 && inR c.y 0 10000000000)
def chO (l : List Ch) (i : Nat) : Int := if (l.getD i ch0).a < (l.getD (i - 1) ch0).a then 12 else 0
def lkR (l : Lk) : Bool := (inR l.d0 0 10000000000 && inR l.d1 0 10000000000) && ((inR l.v0 0 10000000000 && inR l.v1 0 10000000000) && inR l.lo 0 1000)
def linkE (l : Lk) : Int :=
  if lkR l = true then (if l.ch.all chR = true then (if 16 < l.ch.length then 6 else fe (chO l.ch) (l.ch.length - 1) 1) else 3) else 3
/-- is a value one of its kind? -/
def fits (k v : Int) : Bool :=
  if k = 2 ∨ k = 3 then inR v (-1125899906842624) 1125899906842624 else if k = 5 then inR v 1 15 else if k = 6 then inR v 0 3 else if k = 9 then inR v 0 1125899906842624 else decide (v = 0)
def ftE (f : Ft) : Int :=
  if inR f.n 0 23 = true ∧ inR f.f 0 1125899906842624 = true ∧ inR f.t 0 1125899906842624 = true then
    (if f.t < f.f then 12 else if inR f.k 1 9 = true then (if fits f.k f.v = true then 0 else 3) else 8) else 3
def fcE (l : List Ft) : Int := if 32 < l.length then 6 else fe (fun i => ftE (l.getD i ft0)) l.length 0
def svE (l : List Int) (node nodes : Int) (i : Nat) : Int :=
  if inR (l.getD i 0) 0 (nodes - 1) = true then (if l.getD i 0 = node then 18 else if l.getD i 0 ∈ l.take i then 10 else 0) else 3
def ndE (n : Nd) (i nodes : Int) : Int :=
  if oscE n.ph n.sg = 0 then
    (if inR n.tol 0 500000 = true then
      (if n.tol < oscB n.ph n.sg then 15
       else if inR n.er 0 1125899906842624 = true ∧ (n.er = 0 ∨ n.rf = true) then
        (if n.rf = true ∧ 0 < n.sv.length then 7
         else if 12 < n.sv.length then 6
         else if fe (svE n.sv i nodes) n.sv.length 0 = 0 then (if inR n.st 0 1125899906842624 = true then 0 else 3) else fe (svE n.sv i nodes) n.sv.length 0)
       else 3)
     else 3)
  else oscE n.ph n.sg
def twin (l : List Lk) (x : Lk) : Bool := l.any fun y => decide (y.A = x.A) && decide (y.B = x.B)
def leE (l : List Lk) (nodes : Int) (i : Nat) : Int :=
  if inR (l.getD i lk0).A 0 (nodes - 1) = true ∧ inR (l.getD i lk0).B 0 (nodes - 1) = true then
    (if (l.getD i lk0).B ≤ (l.getD i lk0).A then 12 else if twin (l.take i) (l.getD i lk0) = true then 10 else linkE (l.getD i lk0)) else 3
/-- the link between two nodes, from the index i on, and its direction -/
def lnkF (a b : Int) : List Lk → Nat → Option (Nat × Bool)
  | [], _ => none
  | l :: r, i => if l.A = a ∧ l.B = b then some (i, false) else if l.A = b ∧ l.B = a then some (i, true) else lnkF a b r (i + 1)
def lnk (l : List Lk) (a b : Int) : Option (Nat × Bool) := lnkF a b l 0
def jnE (l : List Lk) (i : Int) (n : Nd) : Int := if n.sv.all (fun s => (lnk l i s).isSome) = true then 0 else 11
def chkS (s : Sc) : Int :=
  if s.nd.length = 0 then 14 else if 24 < s.nd.length ∨ 64 < s.lk.length then 6
  else if fe (fun i => ndE (s.nd.getD i nd0) i s.nd.length) s.nd.length 0 = 0 then
    (if fe (leE s.lk s.nd.length) s.lk.length 0 = 0 then
      (if fe (fun i => jnE s.lk i (s.nd.getD i nd0)) s.nd.length 0 = 0 then
        (if fcE s.ft = 0 then
          (if s.ft.all (fun f => decide (f.n < s.nd.length)) = true then (if inR s.un 1 1125899906842624 = true then 0 else 3) else 3)
         else fcE s.ft)
       else 11)
     else fe (leE s.lk s.nd.length) s.lk.length 0)
  else fe (fun i => ndE (s.nd.getD i nd0) i s.nd.length) s.nd.length 0
end Go.Proofs.YthmeifdgkodjlaaGreatDoor

/- The text of a scene, and the scene of a text, in plain Lean. No condition. -/
namespace Go.Proofs.YthmeifdgkodjlaaGreatDoor

def wUntil : List UInt8 := [117, 110, 116, 105, 108]
def wSeed : List UInt8 := [115, 101, 101, 100]
def wNode : List UInt8 := [110, 111, 100, 101]
def wTol : List UInt8 := [116, 111, 108]
def wStart : List UInt8 := [115, 116, 97, 114, 116]
def wRef : List UInt8 := [114, 101, 102]
def wOsc : List UInt8 := [111, 115, 99]
def wSeg : List UInt8 := [115, 101, 103]
def wUse : List UInt8 := [117, 115, 101]
def wLink : List UInt8 := [108, 105, 110, 107]
def wChange : List UInt8 := [99, 104, 97, 110, 103, 101]
def wFault : List UInt8 := [102, 97, 117, 108, 116]
def kinds9 : List (List UInt8) := [[100, 114, 111, 112], [115, 104, 105, 102, 116], [110, 97, 114, 114, 111, 119], [109, 117, 116, 101], [115, 116, 114, 97, 116, 117, 109], [108, 101, 97, 112], [98, 111, 103, 117, 115], [107, 105, 115, 115], [104, 111, 108, 100]]
/-- the number of a natural that is written so -/
def natO (l : List UInt8) : Option Nat := match Lib.decFrom 0 l with
  | some m => if m ≤ 18446744073709551615 ∧ Lib.decDigits m = l then some m else none
  | none => none
/-- the lines of a scene, each as its words -/
def it (n : Int) : List UInt8 := Lib.itoa n
def ndH (n : Nd) (i : Int) : List (List UInt8) := [wNode, it i, wTol, it n.tol, wStart, it n.st] ++ if n.rf then [wRef, it n.er] else []
def sgW (i : Int) (s : Sg) : List (List UInt8) := [wSeg, it i, it s.a, it s.p]
def svW (i : Int) (v : Int) : List (List UInt8) := [wUse, it i, it v]
def ndW (n : Nd) (i : Int) : List (List (List UInt8)) := [ndH n i, [wOsc, it i, it n.ph]] ++ n.sg.map (sgW i) ++ n.sv.map (svW i)
def chW (l : Lk) (c : Ch) : List (List UInt8) := [wChange, it l.A, it l.B, it c.a, it c.d, it c.y]
def lkH (l : Lk) : List (List UInt8) := [wLink, it l.A, it l.B, it l.d0, it l.d1, it l.v0, it l.v1, it l.lo, Lib.decDigits l.sd.toNat]
def lkW (l : Lk) : List (List (List UInt8)) := lkH l :: l.ch.map (chW l)
def ftW (f : Ft) : List (List UInt8) := [wFault, it f.n, it f.f, it f.t, kinds9.getD (f.k - 1).toNat [], it f.v]
def ndsW : List Nd → Int → List (List (List UInt8))
  | [], _ => []
  | n :: r, i => ndW n i ++ ndsW r (i + 1)
def scW (s : Sc) : List (List (List UInt8)) := [[wUntil, it s.un], [wSeed, Lib.decDigits s.sd.toNat]] ++ ndsW s.nd 0 ++ s.lk.flatMap lkW ++ s.ft.map ftW
def lnT (ws : List (List UInt8)) : List UInt8 := joinC 32 ws ++ [10]
def scT (s : Sc) : List UInt8 := (scW s).flatMap lnT
def txtS (s : Sc) : List UInt8 × Int := if chkS s = 0 then (scT s, 0) else ([], 2)

/-! ### reading -/
structure SSt where
  sc : Sc
  at_ : Nat
def sc0 : Sc := ⟨[], [], [], 0, 0⟩
def ss0 : SSt := ⟨sc0, 0⟩
def whole (k : Nat) : Bool := decide (k = 2 ∨ 4 ≤ k)
def numsO : List (List UInt8) → Option (List Int)
  | [] => some []
  | x :: r => match numO x, numsO r with
    | some n, some l => some (n :: l)
    | _, _ => none
/-- the last node with a change -/
def lastN (l : List Nd) (f : Nd → Nd) : List Nd := l.dropLast ++ (l.getLast?.map f).toList
def lastL (l : List Lk) (f : Lk → Lk) : List Lk := l.dropLast ++ (l.getLast?.map f).toList
def rdUntil (x : SSt) : List (List UInt8) → Option SSt
  | [a] => if x.at_ = 0 then (numO a).map fun n => ⟨{ x.sc with un := n }, 1⟩ else none
  | _ => none
def rdSeed (x : SSt) : List (List UInt8) → Option SSt
  | [a] => if x.at_ = 1 then (natO a).map fun (n : Nat) => (⟨{ x.sc with sd := (n : Int) }, 2⟩ : SSt) else none
  | _ => none
def addN (x : SSt) (n : Nd) : SSt := ⟨{ x.sc with nd := x.sc.nd ++ [n] }, 3⟩
def rdNode (x : SSt) : List (List UInt8) → Option SSt
  | [i, w2, t, w4, s] => if (x.at_ = 2 ∨ x.at_ = 4 ∨ x.at_ = 5) ∧ w2 = wTol ∧ w4 = wStart then
      (match numsO [i, t, s] with
       | some [a, b, c] => if a = x.sc.nd.length then some (addN x ⟨0, [], b, false, 0, c, []⟩) else none
       | _ => none) else none
  | [i, w2, t, w4, s, w6, e] => if (x.at_ = 2 ∨ x.at_ = 4 ∨ x.at_ = 5) ∧ w2 = wTol ∧ w4 = wStart then
      (match numsO [i, t, s] with
       | some [a, b, c] => if a = x.sc.nd.length then (match numO e with
           | some d => if w6 = wRef then some (addN x ⟨0, [], b, true, d, c, []⟩) else none
           | none => none) else none
       | _ => none) else none
  | _ => none
def rdPart (x : SSt) (w : List UInt8) (r : List (List UInt8)) : Option SSt := match numsO r with
  | some (k :: ns) => if 0 < x.sc.nd.length ∧ k = (x.sc.nd.length : Int) - 1 then
      (match ns with
       | [a] => if w = wOsc ∧ x.at_ = 3 then some ⟨{ x.sc with nd := lastN x.sc.nd (fun n => { n with ph := a }) }, 4⟩
           else if w = wUse ∧ (x.at_ = 4 ∨ x.at_ = 5) then some ⟨{ x.sc with nd := lastN x.sc.nd (fun n => { n with sv := n.sv ++ [a] }) }, 5⟩ else none
       | [a, p] => if w = wSeg ∧ x.at_ = 4 then some ⟨{ x.sc with nd := lastN x.sc.nd (fun n => { n with sg := n.sg ++ [⟨a, p⟩] }) }, 4⟩ else none
       | _ => none) else none
  | _ => none
def rdLink (x : SSt) : List (List UInt8) → Option SSt
  | [a, b, c, d, e, f, g, h] => if whole x.at_ = true ∧ x.at_ ≠ 7 then
      (match numsO [a, b, c, d, e, f, g] with
       | some [a, b, c, d, e, f, g] => (natO h).map fun (n : Nat) => (⟨{ x.sc with lk := x.sc.lk ++ [⟨a, b, c, d, e, f, g, (n : Int), []⟩] }, 6⟩ : SSt)
       | _ => none) else none
  | _ => none
def rdChange (x : SSt) (r : List (List UInt8)) : Option SSt :=
  if x.at_ = 6 then (match numsO r with
    | some [a, b, t, d, y] => (match x.sc.lk.getLast? with
        | some l => if a = l.A ∧ b = l.B then some ⟨{ x.sc with lk := lastL x.sc.lk (fun l => { l with ch := l.ch ++ [⟨t, d, y⟩] }) }, 6⟩ else none
        | none => none)
    | _ => none) else none
/-- the index of a word -/
def idxW (w : List UInt8) : List (List UInt8) → Nat → Option Nat
  | [], _ => none
  | x :: r, i => if x = w then some i else idxW w r (i + 1)
def rdFault (x : SSt) : List (List UInt8) → Option SSt
  | [a, b, c, w, d] => if whole x.at_ = true then
      (match numsO [a, b, c, d] with
       | some [a, b, c, d] => (idxW w kinds9 1).map fun (k : Nat) => (⟨{ x.sc with ft := x.sc.ft ++ [⟨a, b, c, (k : Int), d⟩] }, 7⟩ : SSt)
       | _ => none) else none
  | _ => none
def rdW (x : SSt) : List (List UInt8) → Option SSt
  | [] => none
  | w :: r => if w = wUntil then rdUntil x r else if w = wSeed then rdSeed x r else if w = wNode then rdNode x r
      else if w = wOsc ∨ w = wSeg ∨ w = wUse then rdPart x w r else if w = wLink then rdLink x r else if w = wChange then rdChange x r
      else if w = wFault then rdFault x r else none
/-- the pieces of a text between line feeds: the state, or the number of the wrong line -/
def rdA : SSt → Nat → List (List UInt8) → Except Nat SSt
  | _, n, [] => .error n
  | x, n, [l] => if l = [] ∧ whole x.at_ = true then .ok x else .error n
  | x, n, l :: r => match rdW x (pcs 32 l) with
    | none => .error n
    | some y => rdA y (n + 1) r
def prsS (s : List UInt8) : Sc × Nat × Int := match rdA ss0 1 (pcs 10 s) with
  | .error n => (sc0, n, 19)
  | .ok x => if chkS x.sc = 0 then (x.sc, 0, 0) else (sc0, 0, chkS x.sc)
end Go.Proofs.YthmeifdgkodjlaaGreatDoor

/- The text of a scene is read back; what is read has just this text; a text that is cut. No condition. -/
namespace Go.Proofs.YthmeifdgkodjlaaGreatDoor

theorem pcs_cons_line {c : UInt8} {a r : List UInt8} (h : c ∉ a) : pcs c (a ++ [c] ++ r) = a :: pcs c r := by
  rw [List.append_assoc]; exact pcs_cut r h
def runW : SSt → List (List (List UInt8)) → Option SSt
  | x, [] => some x
  | x, w :: r => match rdW x w with
    | none => none
    | some y => runW y r
theorem runW_append : ∀ (a : List (List (List UInt8))) (x : SSt) (b : List (List (List UInt8))), runW x (a ++ b) = (runW x a).bind fun y => runW y b
  | [], x, b => rfl
  | w :: a, x, b => by
    rw [List.cons_append, runW, runW]
    cases rdW x w with
    | none => rfl
    | some y => exact runW_append a y b
/-- words without blanks and line feeds, at least one -/
def Wok (ws : List (List UInt8)) : Prop := ws ≠ [] ∧ ∀ w ∈ ws, (10 : UInt8) ∉ w ∧ (32 : UInt8) ∉ w
theorem joinC_no {c d : UInt8} (hcd : c ≠ d) : ∀ {ws : List (List UInt8)}, (∀ w ∈ ws, c ∉ w) → c ∉ joinC d ws
  | [], _ => by simp [joinC]
  | [p], h => by simpa [joinC] using h p (by simp)
  | p :: q :: r, h => by
    rw [joinC_cons d p (by simp)]
    intro hm
    rcases List.mem_append.1 hm with h1 | h1
    · exact h p (by simp) h1
    · rcases List.mem_cons.1 h1 with h1 | h1
      · exact hcd h1
      · exact joinC_no hcd (fun w hw => h w (by simp [hw])) h1
theorem Wok.no10 {ws : List (List UInt8)} (h : Wok ws) : (10 : UInt8) ∉ joinC 32 ws := joinC_no (by decide) fun w hw => (h.2 w hw).1
theorem Wok.pcs {ws : List (List UInt8)} (h : Wok ws) : pcs 32 (joinC 32 ws) = ws := pcs_join ws h.1 fun w hw => (h.2 w hw).2
theorem pcs_lines : ∀ (L : List (List (List UInt8))) (r : List UInt8), (∀ ws ∈ L, Wok ws) → pcs 10 (L.flatMap lnT ++ r) = L.map (joinC 32) ++ pcs 10 r
  | [], r, _ => by simp
  | ws :: L, r, h => by
    have h1 := (h ws (by simp)).no10
    rw [List.flatMap_cons, List.map_cons, List.cons_append, ← pcs_lines L r (fun x hx => h x (by simp [hx]))]
    show pcs 10 (joinC 32 ws ++ [10] ++ L.flatMap lnT ++ r) = _
    rw [List.append_assoc (joinC 32 ws ++ [10]), pcs_cons_line h1]
theorem rdA_run : ∀ (L : List (List (List UInt8))) (x : SSt) (n : Nat) (q : List (List UInt8)), q ≠ [] → (∀ ws ∈ L, Wok ws) → ∀ y, runW x L = some y → rdA x n (L.map (joinC 32) ++ q) = rdA y (n + L.length) q
  | [], x, n, q, _, _, y, h => by
    have h' : x = y := Option.some.inj h
    subst h'; simp
  | ws :: L, x, n, q, hq, hw, y, h => by
    have hws := hw ws (by simp)
    rw [runW] at h
    cases hr : rdW x ws with
    | none => rw [hr] at h; cases h
    | some z =>
      rw [hr] at h
      have ih := rdA_run L z (n + 1) q hq (fun a ha => hw a (by simp [ha])) y h
      have hne : L.map (joinC 32) ++ q ≠ [] := by simp [hq]
      obtain ⟨p, r, hpr⟩ : ∃ p r, L.map (joinC 32) ++ q = p :: r := by
        cases hc : L.map (joinC 32) ++ q with
        | nil => exact absurd hc hne
        | cons p r => exact ⟨p, r, rfl⟩
      rw [List.map_cons, List.cons_append]
      rw [hpr] at ih ⊢
      rw [rdA, hws.pcs, hr]
      · show rdA z (n + 1) (p :: r) = _
        rw [ih, List.length_cons]; congr 1; omega
      · intro he; cases he
/-! ### words -/
theorem it_ok (n : Int) : (10 : UInt8) ∉ it n ∧ (32 : UInt8) ∉ it n := by
  have key : ∀ c : UInt8, c.toNat < 45 → c ∉ it n := fun c hc hm => by
    rcases itoa_bytes n c hm with h | h
    · subst h; simp at hc
    · omega
  exact ⟨key 10 (by decide), key 32 (by decide)⟩
theorem dec_ok (n : Nat) : (10 : UInt8) ∉ Lib.decDigits n ∧ (32 : UInt8) ∉ Lib.decDigits n := by
  have := it_ok (n : Int)
  unfold it at this
  rwa [Lib.itoa_nonneg] at this
theorem kind_ok (k : Nat) : (10 : UInt8) ∉ kinds9.getD k [] ∧ (32 : UInt8) ∉ kinds9.getD k [] := by
  by_cases h : k < 9
  · have : k = 0 ∨ k = 1 ∨ k = 2 ∨ k = 3 ∨ k = 4 ∨ k = 5 ∨ k = 6 ∨ k = 7 ∨ k = 8 := by omega
    rcases this with rfl | rfl | rfl | rfl | rfl | rfl | rfl | rfl | rfl <;> decide
  · rw [List.getD_eq_getElem?_getD, List.getElem?_eq_none (by simp [kinds9]; omega)]; simp
theorem wok_of {ws : List (List UInt8)} (h : ws ≠ []) (h2 : ∀ w ∈ ws, (10 : UInt8) ∉ w ∧ (32 : UInt8) ∉ w) : Wok ws := ⟨h, h2⟩
theorem ndH_ok (n : Nd) (i : Int) : Wok (ndH n i) := by
  refine ⟨by simp [ndH], fun w hw => ?_⟩
  simp only [ndH, List.mem_append, List.mem_cons, List.not_mem_nil, or_false] at hw
  rcases hw with (rfl | rfl | rfl | rfl | rfl | rfl) | hw
  · decide
  · exact it_ok _
  · decide
  · exact it_ok _
  · decide
  · exact it_ok _
  · split at hw
    · simp only [List.mem_cons, List.not_mem_nil, or_false] at hw
      rcases hw with rfl | rfl
      · decide
      · exact it_ok _
    · cases hw
theorem ndW_ok (n : Nd) (i : Int) : ∀ ws ∈ ndW n i, Wok ws := by
  intro ws h
  simp only [ndW, List.mem_append, List.mem_cons, List.not_mem_nil, or_false, List.mem_map] at h
  rcases h with ((rfl | rfl) | ⟨s, _, rfl⟩) | ⟨s, _, rfl⟩
  · exact ndH_ok n i
  · refine ⟨by simp, fun w hw => ?_⟩
    simp only [List.mem_cons, List.not_mem_nil, or_false] at hw
    rcases hw with rfl | rfl | rfl
    · decide
    · exact it_ok _
    · exact it_ok _
  · refine ⟨by simp [sgW], fun w hw => ?_⟩
    simp only [sgW, List.mem_cons, List.not_mem_nil, or_false] at hw
    rcases hw with rfl | rfl | rfl | rfl
    · decide
    all_goals exact it_ok _
  · refine ⟨by simp [svW], fun w hw => ?_⟩
    simp only [svW, List.mem_cons, List.not_mem_nil, or_false] at hw
    rcases hw with rfl | rfl | rfl
    · decide
    all_goals exact it_ok _
theorem ndsW_ok : ∀ (l : List Nd) (i : Int), ∀ ws ∈ ndsW l i, Wok ws
  | [], _, ws, h => by cases h
  | n :: r, i, ws, h => by
    rcases List.mem_append.1 h with h | h
    · exact ndW_ok n i ws h
    · exact ndsW_ok r (i + 1) ws h
theorem lkW_ok (l : Lk) : ∀ ws ∈ lkW l, Wok ws := by
  intro ws h
  simp only [lkW, List.mem_cons, List.mem_map] at h
  rcases h with rfl | ⟨c, _, rfl⟩
  · refine ⟨by simp [lkH], fun w hw => ?_⟩
    simp only [lkH, List.mem_cons, List.not_mem_nil, or_false] at hw
    rcases hw with rfl | rfl | rfl | rfl | rfl | rfl | rfl | rfl | rfl
    · decide
    all_goals first | exact it_ok _ | exact dec_ok _
  · refine ⟨by simp [chW], fun w hw => ?_⟩
    simp only [chW, List.mem_cons, List.not_mem_nil, or_false] at hw
    rcases hw with rfl | rfl | rfl | rfl | rfl | rfl
    · decide
    all_goals exact it_ok _
theorem ftW_ok (f : Ft) : Wok (ftW f) := by
  refine ⟨by simp [ftW], fun w hw => ?_⟩
  simp only [ftW, List.mem_cons, List.not_mem_nil, or_false] at hw
  rcases hw with rfl | rfl | rfl | rfl | rfl | rfl
  · decide
  · exact it_ok _
  · exact it_ok _
  · exact it_ok _
  · exact kind_ok _
  · exact it_ok _
theorem scW_ok (s : Sc) : ∀ ws ∈ scW s, Wok ws := by
  intro ws h
  simp only [scW, List.mem_append, List.mem_cons, List.not_mem_nil, or_false, List.mem_flatMap, List.mem_map] at h
  rcases h with (((rfl | rfl) | h) | ⟨l, _, h⟩) | ⟨f, _, rfl⟩
  · refine ⟨by simp, fun w hw => ?_⟩
    simp only [List.mem_cons, List.not_mem_nil, or_false] at hw
    rcases hw with rfl | rfl
    · decide
    · exact it_ok _
  · refine ⟨by simp, fun w hw => ?_⟩
    simp only [List.mem_cons, List.not_mem_nil, or_false] at hw
    rcases hw with rfl | rfl
    · decide
    · exact dec_ok _
  · exact ndsW_ok _ _ _ h
  · exact lkW_ok l _ h
  · exact ftW_ok f
/-! ### the text of a scene is read back -/
theorem natO_dec {n : Nat} (h : n ≤ 18446744073709551615) : natO (Lib.decDigits n) = some n := by
  unfold natO; rw [decFrom_decDigits]; simp [h]
theorem natO_some {l : List UInt8} {n : Nat} (h : natO l = some n) : n ≤ 18446744073709551615 ∧ Lib.decDigits n = l := by
  unfold natO at h
  cases hd : Lib.decFrom 0 l with
  | none => rw [hd] at h; cases h
  | some m =>
    rw [hd] at h
    simp only at h
    split at h
    · rename_i hm; cases h; exact hm
    · cases h
theorem nO {n : Int} (h : i64 n) : numO (it n) = some n := numO_itoa h
theorem lastN_snoc (l : List Nd) (n : Nd) (f : Nd → Nd) : lastN (l ++ [n]) f = l ++ [f n] := by simp [lastN]
theorem lastL_snoc (l : List Lk) (n : Lk) (f : Lk → Lk) : lastL (l ++ [n]) f = l ++ [f n] := by simp [lastL]
theorem i64_in {n lo hi : Int} (h : inR n lo hi = true) (h0 : -9223372036854775808 ≤ lo) (h1 : hi ≤ 9223372036854775807) : i64 n := by
  have := inR_t.1 h; exact ⟨by omega, by omega⟩
theorem rd_node {l : List Nd} {lk : List Lk} {ft : List Ft} {un sd : Int} {a : Nat} {n : Nd} {i : Int} (ha : a = 2 ∨ a = 4 ∨ a = 5) (hi : i = l.length) (i0 : i64 i) (i1 : i64 n.tol) (i2 : i64 n.st) (i3 : i64 n.er) (hr : n.rf = false → n.er = 0) :
    rdW ⟨⟨l, lk, ft, un, sd⟩, a⟩ (ndH n i) = some ⟨⟨l ++ [⟨0, [], n.tol, n.rf, n.er, n.st, []⟩], lk, ft, un, sd⟩, 3⟩ := by
  subst hi
  cases hf : n.rf with
  | false =>
    have e : ndH n l.length = [wNode, it l.length, wTol, it n.tol, wStart, it n.st] := by simp [ndH, hf]
    rw [e, rdW, if_neg (by decide), if_neg (by decide), if_pos rfl]
    simp only [rdNode, ha, and_self, if_true, numsO, nO i0, nO i1, nO i2, addN, hr hf]
  | true =>
    have e : ndH n l.length = [wNode, it l.length, wTol, it n.tol, wStart, it n.st, wRef, it n.er] := by simp [ndH, hf]
    rw [e, rdW, if_neg (by decide), if_neg (by decide), if_pos rfl]
    simp only [rdNode, ha, and_self, if_true, numsO, nO i0, nO i1, nO i2, nO i3, addN]
theorem rd_osc {l : List Nd} {m : Nd} {lk : List Lk} {ft : List Ft} {un sd p i : Int} (hi : i = l.length) (i0 : i64 i) (i1 : i64 p) :
    rdW ⟨⟨l ++ [m], lk, ft, un, sd⟩, 3⟩ [wOsc, it i, it p] = some ⟨⟨l ++ [{ m with ph := p }], lk, ft, un, sd⟩, 4⟩ := by
  subst hi
  rw [rdW, if_neg (by decide), if_neg (by decide), if_neg (by decide), if_pos (.inl rfl)]
  have h1 : 0 < (l ++ [m]).length := by simp
  have h2 : (l.length : Int) = ((l ++ [m]).length : Int) - 1 := by simp
  simp only [rdPart, numsO, nO i0, nO i1, h1, ← h2, and_self, if_true, lastN_snoc]
theorem rd_seg {l : List Nd} {m : Nd} {lk : List Lk} {ft : List Ft} {un sd i : Int} {s : Sg} (hi : i = l.length) (i0 : i64 i) (i1 : i64 s.a) (i2 : i64 s.p) :
    rdW ⟨⟨l ++ [m], lk, ft, un, sd⟩, 4⟩ (sgW i s) = some ⟨⟨l ++ [{ m with sg := m.sg ++ [s] }], lk, ft, un, sd⟩, 4⟩ := by
  subst hi
  unfold sgW
  rw [rdW, if_neg (by decide), if_neg (by decide), if_neg (by decide), if_pos (.inr (.inl rfl))]
  have h1 : 0 < (l ++ [m]).length := by simp
  have h2 : (l.length : Int) = ((l ++ [m]).length : Int) - 1 := by simp
  simp only [rdPart, numsO, nO i0, nO i1, nO i2, h1, ← h2, and_self, if_true, lastN_snoc]
theorem rd_use {l : List Nd} {m : Nd} {lk : List Lk} {ft : List Ft} {un sd i v : Int} {a : Nat} (ha : a = 4 ∨ a = 5) (hi : i = l.length) (i0 : i64 i) (i1 : i64 v) :
    rdW ⟨⟨l ++ [m], lk, ft, un, sd⟩, a⟩ (svW i v) = some ⟨⟨l ++ [{ m with sv := m.sv ++ [v] }], lk, ft, un, sd⟩, 5⟩ := by
  subst hi
  unfold svW
  rw [rdW, if_neg (by decide), if_neg (by decide), if_neg (by decide), if_pos (.inr (.inr rfl))]
  have h1 : 0 < (l ++ [m]).length := by simp
  have h2 : (l.length : Int) = ((l ++ [m]).length : Int) - 1 := by simp
  have h3 : ¬ (wUse = wOsc ∧ a = 3) := fun h => absurd h.1 (by decide)
  simp only [rdPart, numsO, nO i0, nO i1, h1, ← h2, and_self, if_true, lastN_snoc, if_neg h3, ha]
theorem run_segs {l : List Nd} {lk : List Lk} {ft : List Ft} {un sd i : Int} (hi : i = l.length) (i0 : i64 i) : ∀ (sg : List Sg) (m : Nd), (∀ s ∈ sg, i64 s.a ∧ i64 s.p) →
    runW ⟨⟨l ++ [m], lk, ft, un, sd⟩, 4⟩ (sg.map (sgW i)) = some ⟨⟨l ++ [{ m with sg := m.sg ++ sg }], lk, ft, un, sd⟩, 4⟩
  | [], m, _ => by simp [runW]
  | s :: r, m, h => by
    have hs := h s (by simp)
    rw [List.map_cons, runW, rd_seg hi i0 hs.1 hs.2]
    simp only
    rw [run_segs hi i0 r _ (fun x hx => h x (by simp [hx]))]
    simp
theorem run_svs {l : List Nd} {lk : List Lk} {ft : List Ft} {un sd i : Int} (hi : i = l.length) (i0 : i64 i) : ∀ (sv : List Int) (m : Nd) (a : Nat), (a = 4 ∨ a = 5) → (∀ s ∈ sv, i64 s) →
    ∃ b, (b = 4 ∨ b = 5) ∧ runW ⟨⟨l ++ [m], lk, ft, un, sd⟩, a⟩ (sv.map (svW i)) = some ⟨⟨l ++ [{ m with sv := m.sv ++ sv }], lk, ft, un, sd⟩, b⟩
  | [], m, a, ha, _ => ⟨a, ha, by simp [runW]⟩
  | s :: r, m, a, ha, h => by
    obtain ⟨b, hb, hr⟩ := run_svs hi i0 r { m with sv := m.sv ++ [s] } 5 (.inr rfl) (fun x hx => h x (by simp [hx]))
    refine ⟨b, hb, ?_⟩
    rw [List.map_cons, runW, rd_use ha hi i0 (h s (by simp))]
    simp only
    rw [hr]
    simp
structure NdI (n : Nd) : Prop where
  tol : i64 n.tol
  st : i64 n.st
  er : i64 n.er
  ph : i64 n.ph
  sg : ∀ s ∈ n.sg, i64 s.a ∧ i64 s.p
  sv : ∀ s ∈ n.sv, i64 s
  rf : n.rf = false → n.er = 0
theorem run_nd {l : List Nd} {lk : List Lk} {ft : List Ft} {un sd : Int} {a : Nat} {n : Nd} {i : Int} (ha : a = 2 ∨ a = 4 ∨ a = 5) (hi : i = l.length) (i0 : i64 i) (h : NdI n) :
    ∃ b, (b = 4 ∨ b = 5) ∧ runW ⟨⟨l, lk, ft, un, sd⟩, a⟩ (ndW n i) = some ⟨⟨l ++ [n], lk, ft, un, sd⟩, b⟩ := by
  obtain ⟨b, hb, hr⟩ := run_svs (lk := lk) (ft := ft) (un := un) (sd := sd) hi i0 n.sv ⟨n.ph, n.sg, n.tol, n.rf, n.er, n.st, []⟩ 4 (.inl rfl) h.sv
  refine ⟨b, hb, ?_⟩
  unfold ndW
  rw [List.append_assoc, List.cons_append, List.cons_append, runW, rd_node ha hi i0 h.tol h.st h.er h.rf]
  simp only
  rw [runW, rd_osc hi i0 h.ph]
  simp only
  rw [List.nil_append, runW_append, run_segs hi i0 n.sg _ h.sg]
  simp only [Option.bind_some, List.nil_append]
  rw [hr]
  simp
theorem run_nds {lk : List Lk} {ft : List Ft} {un sd : Int} : ∀ (r l : List Nd) (a : Nat), (a = 2 ∨ a = 4 ∨ a = 5) → (∀ n ∈ r, NdI n) → l.length + r.length ≤ 1000 →
    ∃ b, (b = 2 ∨ b = 4 ∨ b = 5) ∧ runW ⟨⟨l, lk, ft, un, sd⟩, a⟩ (ndsW r l.length) = some ⟨⟨l ++ r, lk, ft, un, sd⟩, b⟩
  | [], l, a, ha, _, _ => ⟨a, ha, by simp [ndsW, runW]⟩
  | n :: r, l, a, ha, h, hl => by
    simp only [List.length_cons] at hl
    obtain ⟨b, hb, h1⟩ := run_nd (lk := lk) (ft := ft) (un := un) (sd := sd) (i := l.length) ha rfl ⟨by omega, by omega⟩ (h n (by simp))
    obtain ⟨c, hc, h2⟩ := run_nds (lk := lk) (ft := ft) (un := un) (sd := sd) r (l ++ [n]) b (.inr hb) (fun x hx => h x (by simp [hx])) (by simp; omega)
    refine ⟨c, hc, ?_⟩
    rw [ndsW, runW_append, h1]
    simp only [Option.bind_some]
    rw [List.length_append, List.length_cons, List.length_nil] at h2
    rw [show ((l.length : Int) + 1) = ((l.length + (0 + 1) : Nat) : Int) by omega, h2]
    simp
structure LkI (l : Lk) : Prop where
  A : i64 l.A
  B : i64 l.B
  d0 : i64 l.d0
  d1 : i64 l.d1
  v0 : i64 l.v0
  v1 : i64 l.v1
  lo : i64 l.lo
  sd : 0 ≤ l.sd ∧ l.sd ≤ 18446744073709551615
  ch : ∀ c ∈ l.ch, i64 c.a ∧ i64 c.d ∧ i64 c.y
theorem run_chs {nd : List Nd} {l : List Lk} {ft : List Ft} {un sd : Int} : ∀ (ch : List Ch) (m m0 : Lk), m.A = m0.A → m.B = m0.B → i64 m.A → i64 m.B → (∀ c ∈ ch, i64 c.a ∧ i64 c.d ∧ i64 c.y) →
    runW ⟨⟨nd, l ++ [m], ft, un, sd⟩, 6⟩ (ch.map (chW m0)) = some ⟨⟨nd, l ++ [{ m with ch := m.ch ++ ch }], ft, un, sd⟩, 6⟩
  | [], m, m0, _, _, _, _, _ => by simp [runW]
  | c :: r, m, m0, hA, hB, iA, iB, h => by
    have hc := h c (by simp)
    have h1 : rdW ⟨⟨nd, l ++ [m], ft, un, sd⟩, 6⟩ (chW m0 c) = some ⟨⟨nd, l ++ [{ m with ch := m.ch ++ [c] }], ft, un, sd⟩, 6⟩ := by
      unfold chW
      rw [rdW, if_neg (by decide), if_neg (by decide), if_neg (by decide), if_neg (by decide), if_neg (by decide), if_pos rfl]
      rw [← hA, ← hB]
      simp only [rdChange, if_true, numsO, nO iA, nO iB, nO hc.1, nO hc.2.1, nO hc.2.2, List.getLast?_append, List.getLast?_singleton, Option.some_or, and_self, lastL_snoc]
    rw [List.map_cons, runW, h1]
    simp only
    rw [run_chs r { m with ch := m.ch ++ [c] } m0 hA hB iA iB (fun x hx => h x (by simp [hx]))]
    simp
theorem run_lk {nd : List Nd} {l : List Lk} {ft : List Ft} {un sd : Int} {a : Nat} {k : Lk} (ha : whole a = true ∧ a ≠ 7) (h : LkI k) : runW ⟨⟨nd, l, ft, un, sd⟩, a⟩ (lkW k) = some ⟨⟨nd, l ++ [k], ft, un, sd⟩, 6⟩ := by
  have h1 : rdW ⟨⟨nd, l, ft, un, sd⟩, a⟩ (lkH k) = some ⟨⟨nd, l ++ [⟨k.A, k.B, k.d0, k.d1, k.v0, k.v1, k.lo, k.sd, []⟩], ft, un, sd⟩, 6⟩ := by
    unfold lkH
    rw [rdW, if_neg (by decide), if_neg (by decide), if_neg (by decide), if_neg (by decide), if_pos rfl]
    simp only [rdLink, if_pos ha, numsO, nO h.A, nO h.B, nO h.d0, nO h.d1, nO h.v0, nO h.v1, nO h.lo, natO_dec (n := k.sd.toNat) (by have := h.sd; omega), Option.map_some]
    rw [show ((k.sd.toNat : Nat) : Int) = k.sd by have := h.sd; omega]
  unfold lkW
  rw [runW, h1]
  simp only
  rw [run_chs k.ch ⟨k.A, k.B, k.d0, k.d1, k.v0, k.v1, k.lo, k.sd, []⟩ k rfl rfl h.A h.B h.ch]
  simp
theorem run_lks {nd : List Nd} {ft : List Ft} {un sd : Int} : ∀ (r l : List Lk) (a : Nat), (whole a = true ∧ a ≠ 7) → (∀ k ∈ r, LkI k) → ∃ b, (whole b = true ∧ b ≠ 7) ∧ runW ⟨⟨nd, l, ft, un, sd⟩, a⟩ (r.flatMap lkW) = some ⟨⟨nd, l ++ r, ft, un, sd⟩, b⟩
  | [], l, a, ha, _ => ⟨a, ha, by simp [runW]⟩
  | k :: r, l, a, ha, h => by
    obtain ⟨b, hb, h2⟩ := run_lks (nd := nd) (ft := ft) (un := un) (sd := sd) r (l ++ [k]) 6 ⟨by decide, by decide⟩ (fun x hx => h x (by simp [hx]))
    refine ⟨b, hb, ?_⟩
    rw [List.flatMap_cons, runW_append, run_lk ha (h k (by simp))]
    simp only [Option.bind_some]
    rw [h2]; simp
structure FtI (q : Ft) : Prop where
  n : i64 q.n
  f : i64 q.f
  t : i64 q.t
  v : i64 q.v
  k : 1 ≤ q.k ∧ q.k ≤ 9
theorem run_fts {nd : List Nd} {lk : List Lk} {un sd : Int} : ∀ (r l : List Ft) (a : Nat), whole a = true → (∀ k ∈ r, FtI k) → ∃ b, whole b = true ∧ runW ⟨⟨nd, lk, l, un, sd⟩, a⟩ (r.map ftW) = some ⟨⟨nd, lk, l ++ r, un, sd⟩, b⟩
  | [], l, a, ha, _ => ⟨a, ha, by simp [runW]⟩
  | k :: r, l, a, ha, h => by
    obtain ⟨b, hb, h2⟩ := run_fts (nd := nd) (lk := lk) (un := un) (sd := sd) r (l ++ [k]) 7 (by decide) (fun x hx => h x (by simp [hx]))
    have hk := h k (by simp)
    have hid : ∃ j : Nat, idxW (kinds9.getD (k.k - 1).toNat []) kinds9 1 = some j ∧ (j : Int) = k.k := by
      have := hk.k
      obtain ⟨q, hq, hqk⟩ : ∃ q : Nat, q < 9 ∧ k.k = (q : Int) + 1 := ⟨(k.k - 1).toNat, by omega, by omega⟩
      rw [hqk, show ((q : Int) + 1 - 1).toNat = q by omega]
      have h9 : q = 0 ∨ q = 1 ∨ q = 2 ∨ q = 3 ∨ q = 4 ∨ q = 5 ∨ q = 6 ∨ q = 7 ∨ q = 8 := by omega
      refine ⟨q + 1, ?_, by omega⟩
      rcases h9 with rfl | rfl | rfl | rfl | rfl | rfl | rfl | rfl | rfl <;> decide
    obtain ⟨j, hj, hjk⟩ := hid
    have h1 : rdW ⟨⟨nd, lk, l, un, sd⟩, a⟩ (ftW k) = some ⟨⟨nd, lk, l ++ [k], un, sd⟩, 7⟩ := by
      unfold ftW
      rw [rdW, if_neg (by decide), if_neg (by decide), if_neg (by decide), if_neg (by decide), if_neg (by decide), if_neg (by decide), if_pos rfl]
      simp only [rdFault, if_pos ha, numsO, nO hk.n, nO hk.f, nO hk.t, nO hk.v, hj, Option.map_some, hjk]
    refine ⟨b, hb, ?_⟩
    rw [List.map_cons, runW, h1]
    simp only
    rw [h2]; simp
structure ScI (s : Sc) : Prop where
  nd : ∀ n ∈ s.nd, NdI n
  lk : ∀ l ∈ s.lk, LkI l
  ft : ∀ f ∈ s.ft, FtI f
  un : i64 s.un
  sd : 0 ≤ s.sd ∧ s.sd ≤ 18446744073709551615
  le : s.nd.length ≤ 1000
theorem run_sc {s : Sc} (h : ScI s) : ∃ b, whole b = true ∧ runW ss0 (scW s) = some ⟨s, b⟩ := by
  obtain ⟨b, hb, h1⟩ := run_nds (lk := []) (ft := []) (un := s.un) (sd := s.sd) s.nd [] 2 (.inl rfl) h.nd (by have := h.le; simp; omega)
  obtain ⟨c, hc, h2⟩ := run_lks (nd := s.nd) (ft := []) (un := s.un) (sd := s.sd) s.lk [] b (by rcases hb with rfl | rfl | rfl <;> decide) h.lk
  obtain ⟨d, hd, h3⟩ := run_fts (nd := s.nd) (lk := s.lk) (un := s.un) (sd := s.sd) s.ft [] c hc.1 h.ft
  refine ⟨d, hd, ?_⟩
  unfold scW
  rw [List.append_assoc, List.append_assoc, List.cons_append, List.cons_append, List.nil_append, runW]
  have u1 : rdW ss0 [wUntil, it s.un] = some ⟨⟨[], [], [], s.un, 0⟩, 1⟩ := by
    rw [rdW, if_pos rfl]; simp only [rdUntil, ss0, sc0, if_true, nO h.un, Option.map_some]
  have u2 : rdW ⟨⟨[], [], [], s.un, 0⟩, 1⟩ [wSeed, Lib.decDigits s.sd.toNat] = some ⟨⟨[], [], [], s.un, s.sd⟩, 2⟩ := by
    rw [rdW, if_neg (by decide), if_pos rfl]
    simp only [rdSeed, if_true, natO_dec (n := s.sd.toNat) (by have := h.sd; omega), Option.map_some]
    rw [show ((s.sd.toNat : Nat) : Int) = s.sd by have := h.sd; omega]
  rw [u1]
  simp only
  rw [runW, u2]
  simp only
  simp only [List.length_nil, Int.ofNat_zero, List.nil_append] at h1
  rw [runW_append, h1]
  simp only [Option.bind_some]
  rw [runW_append, h2]
  simp only [Option.bind_some, List.nil_append]
  rw [h3]
  simp
/-! ### what a valid scene is -/
theorem if_ne {c : Prop} [Decidable c] {a b : Int} (h : (if c then a else b) = 0) (ha : a ≠ 0) : ¬ c ∧ b = 0 := by
  by_cases hc : c
  · rw [if_pos hc] at h; exact absurd h ha
  · rw [if_neg hc] at h; exact ⟨hc, h⟩
theorem if_eq {c : Prop} [Decidable c] {a b : Int} (h : (if c then a else b) = 0) (hb : b ≠ 0) : c ∧ a = 0 := by
  by_cases hc : c
  · rw [if_pos hc] at h; exact ⟨hc, h⟩
  · rw [if_neg hc] at h; exact absurd h hb
theorem if_self {a b : Int} (h : (if a = 0 then b else a) = 0) : a = 0 ∧ b = 0 := by
  by_cases hc : a = 0
  · rw [if_pos hc] at h; exact ⟨hc, h⟩
  · rw [if_neg hc] at h; exact absurd h hc
theorem sgE_ok {l : List Sg} {i : Nat} (h : sgE l i = 0) : inR (l.getD i sg0).a 0 1125899906842624 = true ∧ inR (l.getD i sg0).p (-500000) 500000 = true := (if_eq h (by decide)).1
theorem oscE_ok {ph : Int} {l : List Sg} (h : oscE ph l = 0) : inR ph (-1125899906842624) 1125899906842624 = true ∧ 0 < l.length ∧ l.length ≤ 16 ∧ ∀ i, i < l.length → sgE l i = 0 := by
  obtain ⟨h1, h⟩ := if_ne h (by decide)
  obtain ⟨h2, h⟩ := if_ne h (by decide)
  obtain ⟨h3, h⟩ := if_eq h (by decide)
  exact ⟨h3, by omega, by omega, fun i hi => fe_ok.1 h i (Nat.zero_le _) (by omega)⟩
theorem mem_getD {α : Type} {l : List α} {x z : α} (h : x ∈ l) : ∃ i, i < l.length ∧ l.getD i z = x := by
  obtain ⟨i, hi, rfl⟩ := List.getElem_of_mem h
  exact ⟨i, hi, by simp [List.getD_eq_getElem?_getD, hi]⟩
structure NdOk (n : Nd) (i nodes : Int) : Prop where
  osc : oscE n.ph n.sg = 0
  tol : inR n.tol 0 500000 = true
  bnd : oscB n.ph n.sg ≤ n.tol
  er : inR n.er 0 1125899906842624 = true
  er0 : n.er = 0 ∨ n.rf = true
  form : n.rf = true → n.sv = []
  len : n.sv.length ≤ 12
  sv : ∀ k, k < n.sv.length → svE n.sv i nodes k = 0
  st : inR n.st 0 1125899906842624 = true
theorem ndE_ok {n : Nd} {i nodes : Int} (h : ndE n i nodes = 0) : NdOk n i nodes := by
  obtain ⟨h1, h⟩ := if_self h
  obtain ⟨h2, h⟩ := if_eq h (by decide)
  obtain ⟨h3, h⟩ := if_ne h (by decide)
  obtain ⟨h4, h⟩ := if_eq h (by decide)
  obtain ⟨h5, h⟩ := if_ne h (by decide)
  obtain ⟨h6, h⟩ := if_ne h (by decide)
  obtain ⟨h7, h⟩ := if_self h
  obtain ⟨h8, _⟩ := if_eq h (by decide)
  exact ⟨h1, h2, by omega, h4.1, h4.2, fun hr => Decidable.byContradiction fun hn => h5 ⟨hr, List.length_pos_iff.2 hn⟩, by omega, fun k hk => fe_ok.1 h7 k (Nat.zero_le _) (by omega), h8⟩
theorem svE_ok {l : List Int} {a b : Int} {i : Nat} (h : svE l a b i = 0) : inR (l.getD i 0) 0 (b - 1) = true ∧ l.getD i 0 ≠ a := by
  obtain ⟨h1, h⟩ := if_eq h (by decide)
  exact ⟨h1, (if_ne h (by decide)).1⟩
structure LkOk (l : List Lk) (nodes : Int) (i : Nat) : Prop where
  A : inR (l.getD i lk0).A 0 (nodes - 1) = true
  B : inR (l.getD i lk0).B 0 (nodes - 1) = true
  lt : (l.getD i lk0).A < (l.getD i lk0).B
  tw : twin (l.take i) (l.getD i lk0) = false
  lk : linkE (l.getD i lk0) = 0
theorem leE_ok {l : List Lk} {nodes : Int} {i : Nat} (h : leE l nodes i = 0) : LkOk l nodes i := by
  obtain ⟨h1, h⟩ := if_eq h (by decide)
  obtain ⟨h2, h⟩ := if_ne h (by decide)
  obtain ⟨h3, h⟩ := if_ne h (by decide)
  exact ⟨h1.1, h1.2, by omega, by simpa using h3, h⟩
theorem linkE_ok {l : Lk} (h : linkE l = 0) : lkR l = true ∧ l.ch.all chR = true := by
  obtain ⟨h1, h⟩ := if_eq h (by decide)
  exact ⟨h1, (if_eq h (by decide)).1⟩
theorem ftE_ok {f : Ft} (h : ftE f = 0) : (inR f.n 0 23 = true ∧ inR f.f 0 1125899906842624 = true ∧ inR f.t 0 1125899906842624 = true) ∧ inR f.k 1 9 = true ∧ fits f.k f.v = true := by
  obtain ⟨h1, h⟩ := if_eq h (by decide)
  obtain ⟨_, h⟩ := if_ne h (by decide)
  obtain ⟨h2, h⟩ := if_eq h (by decide)
  exact ⟨h1, h2, (if_eq h (by decide)).1⟩
structure ScOk (s : Sc) : Prop where
  n0 : 0 < s.nd.length
  n1 : s.nd.length ≤ 24
  l1 : s.lk.length ≤ 64
  nd : ∀ i, i < s.nd.length → NdOk (s.nd.getD i nd0) i s.nd.length
  lk : ∀ i, i < s.lk.length → LkOk s.lk s.nd.length i
  jn : ∀ i, i < s.nd.length → (s.nd.getD i nd0).sv.all (fun v => (lnk s.lk i v).isSome) = true
  fc : fcE s.ft = 0
  ft : ∀ f ∈ s.ft, ftE f = 0
  fl : s.ft.length ≤ 32
  un : inR s.un 1 1125899906842624 = true
theorem chkS_ok {s : Sc} (h : chkS s = 0) : ScOk s := by
  obtain ⟨h1, h⟩ := if_ne h (by decide)
  obtain ⟨h2, h⟩ := if_ne h (by decide)
  obtain ⟨h3, h⟩ := if_self h
  obtain ⟨h4, h⟩ := if_self h
  obtain ⟨h5, h⟩ := if_eq h (by decide)
  obtain ⟨h6, h⟩ := if_self h
  obtain ⟨_, h⟩ := if_eq h (by decide)
  obtain ⟨h8, _⟩ := if_eq h (by decide)
  obtain ⟨h9, h10⟩ := if_ne (c := 32 < s.ft.length) h6 (by decide)
  refine ⟨by omega, by omega, by omega, fun i hi => ndE_ok (fe_ok.1 h3 i (Nat.zero_le _) (by omega)), fun i hi => leE_ok (fe_ok.1 h4 i (Nat.zero_le _) (by omega)), fun i hi => ?_, h6, fun f hf => ?_, by omega, h8⟩
  · exact (if_eq (fe_ok.1 h5 i (Nat.zero_le _) (by omega)) (by decide)).1
  · obtain ⟨i, hi, rfl⟩ := mem_getD (z := ft0) hf
    exact fe_ok.1 h10 i (Nat.zero_le _) (by omega)
theorem fits_i64 {k v : Int} (h : fits k v = true) : i64 v := by
  unfold fits at h
  split at h
  · exact i64_in h (by decide) (by decide)
  · split at h
    · exact i64_in h (by decide) (by decide)
    · split at h
      · exact i64_in h (by decide) (by decide)
      · split at h
        · exact i64_in h (by decide) (by decide)
        · have : v = 0 := by simpa using h
          subst this; exact ⟨by decide, by decide⟩
/-- the seeds are naturals of 64 bits -/
def SdOk (s : Sc) : Prop := (0 ≤ s.sd ∧ s.sd ≤ 18446744073709551615) ∧ ∀ l ∈ s.lk, 0 ≤ l.sd ∧ l.sd ≤ 18446744073709551615
theorem scI_of {s : Sc} (h : chkS s = 0) (hs : SdOk s) : ScI s := by
  have ho := chkS_ok h
  have hn0 := ho.n0; have hn1 := ho.n1
  refine ⟨fun n hn => ?_, fun l hl => ?_, fun f hf => ?_, i64_in ho.un (by decide) (by decide), hs.1, by omega⟩
  · obtain ⟨i, hi, rfl⟩ := mem_getD (z := nd0) hn
    have q := ho.nd i hi
    have qo := oscE_ok q.osc
    refine ⟨i64_in q.tol (by decide) (by decide), i64_in q.st (by decide) (by decide), i64_in q.er (by decide) (by decide), i64_in qo.1 (by decide) (by decide), fun s hs => ?_, fun v hv => ?_, fun hr => ?_⟩
    · obtain ⟨j, hj, rfl⟩ := mem_getD (z := sg0) hs
      have := sgE_ok (qo.2.2.2 j hj)
      exact ⟨i64_in this.1 (by decide) (by decide), i64_in this.2 (by decide) (by decide)⟩
    · obtain ⟨j, hj, rfl⟩ := mem_getD (z := 0) hv
      exact i64_in (svE_ok (q.sv j hj)).1 (by decide) (by omega)
    · rcases q.er0 with h | h
      · exact h
      · rw [hr] at h; cases h
  · have hsd := hs.2 l hl
    obtain ⟨i, hi, rfl⟩ := mem_getD (z := lk0) hl
    have q := ho.lk i hi
    obtain ⟨q1, q2⟩ := linkE_ok q.lk
    simp only [lkR, Bool.and_eq_true] at q1
    obtain ⟨⟨r0, r1⟩, ⟨r2, r3⟩, r4⟩ := q1
    refine ⟨i64_in q.A (by decide) (by omega), i64_in q.B (by decide) (by omega), i64_in r0 (by decide) (by decide), i64_in r1 (by decide) (by decide), i64_in r2 (by decide) (by decide), i64_in r3 (by decide) (by decide), i64_in r4 (by decide) (by decide), hsd, fun c hc => ?_⟩
    have := List.all_eq_true.1 q2 c hc
    simp only [chR, Bool.and_eq_true] at this
    exact ⟨i64_in this.1 (by decide) (by decide), i64_in this.2.1 (by decide) (by decide), i64_in this.2.2 (by decide) (by decide)⟩
  · obtain ⟨⟨q1, q2, q3⟩, q4, q5⟩ := ftE_ok (ho.ft f hf)
    exact ⟨i64_in q1 (by decide) (by decide), i64_in q2 (by decide) (by decide), i64_in q3 (by decide) (by decide), fits_i64 q5, inR_t.1 q4⟩
theorem pcs_scT (s : Sc) : pcs 10 (scT s) = (scW s).map (joinC 32) ++ [[]] := by
  have := pcs_lines (scW s) [] (scW_ok s)
  rw [List.append_nil] at this
  exact this
/-- a valid scene is read back from its text -/
theorem back_sc {s : Sc} (h : chkS s = 0) (hs : SdOk s) : prsS (scT s) = (s, 0, 0) := by
  obtain ⟨b, hb, hr⟩ := run_sc (scI_of h hs)
  unfold prsS
  rw [pcs_scT, rdA_run (scW s) ss0 1 [[]] (by simp) (scW_ok s) _ hr]
  simp only [rdA, hb, and_self, if_true, h]
/-! ### no error of a scene is that of a text -/
theorem fe_ne {f : Nat → Int} {e : Int} (h0 : e ≠ 0) (h : ∀ i, f i ≠ e) : ∀ k i, fe f k i ≠ e
  | 0, _ => by simp [fe]; omega
  | k + 1, i => by
    unfold fe
    split
    · exact fe_ne h0 h k (i + 1)
    · exact h i
theorem ite_ne {c : Prop} [Decidable c] {a b e : Int} (ha : a ≠ e) (hb : b ≠ e) : (if c then a else b) ≠ e := by
  split
  · exact ha
  · exact hb
theorem chkS_ne (s : Sc) : chkS s ≠ 19 := by
  have ho : ∀ ph l, oscE ph l ≠ 19 := fun ph l => ite_ne (by decide) (ite_ne (by decide) (ite_ne (fe_ne (by decide) (fun i => ite_ne (ite_ne (by decide) (ite_ne (by decide) (by decide))) (by decide)) _ _) (by decide)))
  have hl : ∀ l, linkE l ≠ 19 := fun l => ite_ne (ite_ne (ite_ne (by decide) (fe_ne (by decide) (fun i => ite_ne (by decide) (by decide)) _ _)) (by decide)) (by decide)
  have hsv : ∀ l a b k i, fe (svE l a b) k i ≠ 19 := fun l a b k i => fe_ne (by decide) (fun j => ite_ne (ite_ne (by decide) (ite_ne (by decide) (by decide))) (by decide)) k i
  have hn : ∀ n i m, ndE n i m ≠ 19 := fun n i m => ite_ne (ite_ne (ite_ne (by decide) (ite_ne (ite_ne (by decide) (ite_ne (by decide) (ite_ne (ite_ne (by decide) (by decide)) (hsv _ _ _ _ _)))) (by decide))) (by decide)) (ho _ _)
  have he : ∀ l m i, leE l m i ≠ 19 := fun l m i => ite_ne (ite_ne (by decide) (ite_ne (by decide) (hl _))) (by decide)
  have hf : fcE s.ft ≠ 19 := ite_ne (by decide) (fe_ne (by decide) (fun i => ite_ne (ite_ne (by decide) (ite_ne (ite_ne (by decide) (by decide)) (by decide))) (by decide)) _ _)
  exact ite_ne (by decide) (ite_ne (by decide) (ite_ne (ite_ne (ite_ne (ite_ne (ite_ne (ite_ne (by decide) (by decide)) (by decide)) hf) (by decide)) (fe_ne (by decide) (he _ _) _ _)) (fe_ne (by decide) (fun i => hn _ _ _) _ _)))
/-! ### what is read has just this text -/
theorem num_it {a : List UInt8} {n : Int} (h : numO a = some n) : a = it n := (numO_some h).2.symm
theorem numsO_it : ∀ {r : List (List UInt8)} {ns : List Int}, numsO r = some ns → r = ns.map it
  | [], ns, h => by cases h; rfl
  | x :: r, ns, h => by
    cases hx : numO x with
    | none => simp [numsO, hx] at h
    | some n =>
      cases hr : numsO r with
      | none => simp [numsO, hx, hr] at h
      | some m => simp [numsO, hx, hr] at h; subst h; simp [num_it hx, numsO_it hr]
theorem until_inv {x y : SSt} {r : List (List UInt8)} (h : rdUntil x r = some y) : ∃ n, r = [it n] ∧ x.at_ = 0 ∧ y = ⟨{ x.sc with un := n }, 1⟩ := by
  unfold rdUntil at h
  split at h
  · rename_i a
    split at h
    · rename_i h0
      cases hn : numO a with
      | none => rw [hn] at h; cases h
      | some n => rw [hn] at h; exact ⟨n, by rw [num_it hn], h0, (Option.some.inj h).symm⟩
    · cases h
  · cases h
theorem seed_inv {x y : SSt} {r : List (List UInt8)} (h : rdSeed x r = some y) : ∃ n : Nat, r = [Lib.decDigits n] ∧ x.at_ = 1 ∧ y = ⟨{ x.sc with sd := (n : Int) }, 2⟩ ∧ n ≤ 18446744073709551615 := by
  unfold rdSeed at h
  split at h
  · rename_i a
    split at h
    · rename_i h0
      cases hn : natO a with
      | none => rw [hn] at h; cases h
      | some n => rw [hn] at h; exact ⟨n, by rw [(natO_some hn).2], h0, (Option.some.inj h).symm, (natO_some hn).1⟩
    · cases h
  · cases h
theorem node_inv {x y : SSt} {r : List (List UInt8)} (h : rdNode x r = some y) : ∃ n : Nd, wNode :: r = ndH n x.sc.nd.length ∧ (x.at_ = 2 ∨ x.at_ = 4 ∨ x.at_ = 5) ∧ y = addN x n ∧ n.ph = 0 ∧ n.sg = [] ∧ n.sv = [] := by
  unfold rdNode at h
  split at h
  · rename_i i w2 t w4 s
    split at h
    · rename_i hc
      cases hn : numsO [i, t, s] with
      | none => rw [hn] at h; cases h
      | some ns =>
        rw [hn] at h
        have hm := numsO_it hn
        rcases ns with _ | ⟨a, _ | ⟨b, _ | ⟨c, _ | ⟨d, r⟩⟩⟩⟩
        · cases h
        · cases h
        · cases h
        · simp only at h
          split at h
          · rename_i ha
            simp only [List.map_cons, List.map_nil, List.cons.injEq, and_true] at hm
            obtain ⟨rfl, rfl, rfl⟩ := hm
            exact ⟨⟨0, [], b, false, 0, c, []⟩, by simp [ndH, hc.2.1, hc.2.2, ha], hc.1, (Option.some.inj h).symm, rfl, rfl, rfl⟩
          · cases h
        · cases h
    · cases h
  · rename_i i w2 t w4 s w6 e
    split at h
    · rename_i hc
      cases hn : numsO [i, t, s] with
      | none => rw [hn] at h; cases h
      | some ns =>
        rw [hn] at h
        have hm := numsO_it hn
        rcases ns with _ | ⟨a, _ | ⟨b, _ | ⟨c, _ | ⟨d, r⟩⟩⟩⟩
        · cases h
        · cases h
        · cases h
        · simp only at h
          split at h
          · rename_i ha
            cases he : numO e with
            | none => rw [he] at h; cases h
            | some d =>
              rw [he] at h
              simp only at h
              split at h
              · rename_i h6
                simp only [List.map_cons, List.map_nil, List.cons.injEq, and_true] at hm
                obtain ⟨rfl, rfl, rfl⟩ := hm
                exact ⟨⟨0, [], b, true, d, c, []⟩, by simp [ndH, hc.2.1, hc.2.2, ha, h6, num_it he], hc.1, (Option.some.inj h).symm, rfl, rfl, rfl⟩
              · cases h
          · cases h
        · cases h
    · cases h
  · cases h
theorem snoc_of {α : Type} {l : List α} (h : 0 < l.length) : ∃ r m, l = r ++ [m] := by
  have hn : l ≠ [] := List.length_pos_iff.1 h
  exact ⟨l.dropLast, l.getLast hn, (List.dropLast_concat_getLast hn).symm⟩
/-- a line of the last node -/
theorem part_inv {x y : SSt} {w : List UInt8} {r : List (List UInt8)} (h : rdPart x w r = some y) : ∃ l m, x.sc.nd = l ++ [m] ∧
    ((∃ a, w = wOsc ∧ x.at_ = 3 ∧ r = [it l.length, it a] ∧ y = ⟨{ x.sc with nd := l ++ [{ m with ph := a }] }, 4⟩) ∨
     (∃ a, w = wUse ∧ (x.at_ = 4 ∨ x.at_ = 5) ∧ r = [it l.length, it a] ∧ y = ⟨{ x.sc with nd := l ++ [{ m with sv := m.sv ++ [a] }] }, 5⟩) ∨
     (∃ s : Sg, w = wSeg ∧ x.at_ = 4 ∧ r = [it l.length, it s.a, it s.p] ∧ y = ⟨{ x.sc with nd := l ++ [{ m with sg := m.sg ++ [s] }] }, 4⟩)) := by
  unfold rdPart at h
  cases hn : numsO r with
  | none => rw [hn] at h; cases h
  | some ns =>
    rw [hn] at h
    have hm := numsO_it hn
    rcases ns with _ | ⟨k, ns⟩
    · cases h
    · simp only at h
      split at h
      · rename_i hc
        obtain ⟨l, m, hl⟩ := snoc_of hc.1
        have hk : k = (l.length : Int) := by rw [hc.2, hl]; simp
        refine ⟨l, m, hl, ?_⟩
        rw [hl] at h
        simp only [lastN_snoc] at h
        rcases ns with _ | ⟨a, _ | ⟨p, _ | ⟨q, t⟩⟩⟩
        · cases h
        · simp only at h
          simp only [List.map_cons, List.map_nil] at hm
          split at h
          · rename_i h1
            exact .inl ⟨a, h1.1, h1.2, by rw [hm, hk], (Option.some.inj h).symm⟩
          · split at h
            · rename_i h1
              exact .inr (.inl ⟨a, h1.1, h1.2, by rw [hm, hk], (Option.some.inj h).symm⟩)
            · cases h
        · simp only at h
          simp only [List.map_cons, List.map_nil] at hm
          split at h
          · rename_i h1
            exact .inr (.inr ⟨⟨a, p⟩, h1.1, h1.2, by rw [hm, hk], (Option.some.inj h).symm⟩)
          · cases h
        · cases h
      · cases h
theorem link_inv {x y : SSt} {r : List (List UInt8)} (h : rdLink x r = some y) : ∃ k : Lk, wLink :: r = lkH k ∧ (whole x.at_ = true ∧ x.at_ ≠ 7) ∧ y = ⟨{ x.sc with lk := x.sc.lk ++ [k] }, 6⟩ ∧ k.ch = [] ∧ 0 ≤ k.sd ∧ k.sd ≤ 18446744073709551615 := by
  unfold rdLink at h
  split at h
  · rename_i a b c d e f g i
    split at h
    · rename_i hc
      cases hn : numsO [a, b, c, d, e, f, g] with
      | none => rw [hn] at h; cases h
      | some ns =>
        rw [hn] at h
        have hm := numsO_it hn
        have hl : ns.length = 7 := by have := congrArg List.length hm; simp at this; omega
        match ns, hl with
        | [a', b', c', d', e', f', g'], _ =>
          simp only at h
          cases hd : natO i with
          | none => rw [hd] at h; cases h
          | some n =>
            rw [hd] at h
            simp only [List.map_cons, List.map_nil, List.cons.injEq, and_true] at hm
            obtain ⟨rfl, rfl, rfl, rfl, rfl, rfl, rfl⟩ := hm
            have hdn := natO_some hd
            exact ⟨⟨a', b', c', d', e', f', g', n, []⟩, by simp [lkH, hdn.2], hc, (Option.some.inj h).symm, rfl, by simp, by simp; omega⟩
    · cases h
  · cases h
theorem change_inv {x y : SSt} {r : List (List UInt8)} (h : rdChange x r = some y) : ∃ l k c, x.sc.lk = l ++ [k] ∧ x.at_ = 6 ∧ wChange :: r = chW k c ∧ y = ⟨{ x.sc with lk := l ++ [{ k with ch := k.ch ++ [c] }] }, 6⟩ := by
  unfold rdChange at h
  split at h
  · rename_i h6
    cases hn : numsO r with
    | none => rw [hn] at h; cases h
    | some ns =>
      rw [hn] at h
      have hm := numsO_it hn
      rcases ns with _ | ⟨a, _ | ⟨b, _ | ⟨t, _ | ⟨d, _ | ⟨y', _ | ⟨z, q⟩⟩⟩⟩⟩⟩
      · cases h
      · cases h
      · cases h
      · cases h
      · cases h
      · simp only at h
        cases hg : x.sc.lk.getLast? with
        | none => rw [hg] at h; cases h
        | some k =>
          rw [hg] at h
          simp only at h
          split at h
          · rename_i hab
            have hpos : 0 < x.sc.lk.length := by
              cases hl : x.sc.lk with
              | nil => rw [hl] at hg; cases hg
              | cons p q => simp
            obtain ⟨l, k', hl⟩ := snoc_of hpos
            have hkk : k' = k := by rw [hl] at hg; simpa using hg
            subst hkk
            rw [hl, lastL_snoc] at h
            refine ⟨l, k', ⟨t, d, y'⟩, hl, h6, ?_, (Option.some.inj h).symm⟩
            rw [hm]; simp [chW, hab.1, hab.2]
          · cases h
      · cases h
  · cases h
theorem idxW_some {w : List UInt8} : ∀ {l : List (List UInt8)} {i k : Nat}, idxW w l i = some k → i ≤ k ∧ l.getD (k - i) [] = w ∧ k - i < l.length
  | [], i, k, h => by cases h
  | x :: r, i, k, h => by
    unfold idxW at h
    split at h
    · rename_i hx
      cases h
      exact ⟨Nat.le_refl _, by simp [hx], by simp⟩
    · obtain ⟨h1, h2, h3⟩ := idxW_some h
      refine ⟨by omega, ?_, by simp; omega⟩
      rw [show k - i = (k - (i + 1)) + 1 by omega]
      simpa using h2
theorem fault_inv {x y : SSt} {r : List (List UInt8)} (h : rdFault x r = some y) : ∃ f : Ft, wFault :: r = ftW f ∧ whole x.at_ = true ∧ y = ⟨{ x.sc with ft := x.sc.ft ++ [f] }, 7⟩ := by
  unfold rdFault at h
  split at h
  · rename_i a b c w d
    split at h
    · rename_i hc
      cases hn : numsO [a, b, c, d] with
      | none => rw [hn] at h; cases h
      | some ns =>
        rw [hn] at h
        have hm := numsO_it hn
        have hl : ns.length = 4 := by have := congrArg List.length hm; simp at this; omega
        match ns, hl with
        | [a', b', c', d'], _ =>
          simp only at h
          cases hi : idxW w kinds9 1 with
          | none => rw [hi] at h; cases h
          | some k =>
            rw [hi] at h
            simp only [List.map_cons, List.map_nil, List.cons.injEq, and_true] at hm
            obtain ⟨rfl, rfl, rfl, rfl⟩ := hm
            obtain ⟨k1, k2, _⟩ := idxW_some hi
            refine ⟨⟨a', b', c', k, d'⟩, ?_, hc, (Option.some.inj h).symm⟩
            simp only [ftW]
            rw [show ((k : Int) - 1).toNat = k - 1 by omega, k2]
    · cases h
  · cases h
theorem ndsW_append : ∀ (l r : List Nd) (i : Int), ndsW (l ++ r) i = ndsW l i ++ ndsW r (i + l.length)
  | [], r, i => by simp [ndsW]
  | n :: l, r, i => by
    rw [List.cons_append, ndsW, ndsW, ndsW_append l r (i + 1), List.append_assoc, List.length_cons]
    congr 3
    omega
/-- what holds of what has been read -/
structure SIn (x : SSt) : Prop where
  le : x.at_ ≤ 7
  lf : x.at_ ≤ 5 → x.sc.lk = [] ∧ x.sc.ft = []
  f6 : x.at_ = 6 → x.sc.ft = []
  n2 : x.at_ ≤ 2 → x.sc.nd = []
  n3 : x.at_ = 3 → ∃ l n, x.sc.nd = l ++ [n] ∧ n.ph = 0 ∧ n.sg = [] ∧ n.sv = []
  n4 : x.at_ = 4 → ∃ l n, x.sc.nd = l ++ [n] ∧ n.sv = []
  sd : SdOk x.sc
def partW (x : SSt) : List (List (List UInt8)) :=
  if x.at_ = 0 then [] else if x.at_ = 1 then [[wUntil, it x.sc.un]] else if x.at_ = 3 then (scW x.sc).dropLast else scW x.sc
theorem partW_full {x : SSt} (h : x.at_ ≠ 0) (h1 : x.at_ ≠ 1) (h3 : x.at_ ≠ 3) : partW x = scW x.sc := by unfold partW; rw [if_neg h, if_neg h1, if_neg h3]
theorem partW_3 {x : SSt} (h : x.at_ = 3) : partW x = (scW x.sc).dropLast := by unfold partW; rw [if_neg (by omega), if_neg (by omega), if_pos h]
theorem scW_nd (l : List Nd) (n : Nd) (un sd : Int) : scW ⟨l ++ [n], [], [], un, sd⟩ = scW ⟨l, [], [], un, sd⟩ ++ ndW n l.length := by
  simp [scW, ndsW_append, ndsW]
theorem read_step {x y : SSt} {ws : List (List UInt8)} (hi : SIn x) (h : rdW x ws = some y) : SIn y ∧ partW y = partW x ++ [ws] := by
  obtain ⟨⟨nd, lk, ft, un, sd⟩, a⟩ := x
  obtain ⟨i1, i2, i3, i4, i5, i6, i7⟩ := hi
  simp only at i1 i2 i3 i4 i5 i6 i7
  rcases ws with _ | ⟨w, r⟩
  · cases h
  · rw [rdW] at h
    split at h
    · rename_i hw
      obtain ⟨n, rfl, h0, rfl⟩ := until_inv h
      simp only at h0
      subst h0 hw
      obtain ⟨rfl, rfl⟩ := i2 (by decide)
      obtain rfl := i4 (by decide)
      exact ⟨⟨by simp, fun _ => ⟨rfl, rfl⟩, fun h => (by cases h), fun _ => rfl, fun h => (by cases h), fun h => (by cases h), i7⟩, rfl⟩
    · split at h
      · rename_i _ hw
        obtain ⟨n, rfl, h0, rfl, hn⟩ := seed_inv h
        simp only at h0
        subst h0 hw
        obtain ⟨rfl, rfl⟩ := i2 (by decide)
        obtain rfl := i4 (by decide)
        refine ⟨⟨by simp, fun _ => ⟨rfl, rfl⟩, fun h => (by cases h), fun _ => rfl, fun h => (by cases h), fun h => (by cases h), ⟨by simp; omega, by simp⟩⟩, ?_⟩
        simp [partW, scW, ndsW]
      · split at h
        · rename_i _ _ hw
          obtain ⟨n, hr, h0, rfl, e1, e2, e3⟩ := node_inv h
          simp only at h0 hr
          subst hw
          have ha5 : a ≤ 5 := by omega
          obtain ⟨rfl, rfl⟩ := i2 ha5
          refine ⟨⟨by simp [addN], fun _ => ⟨rfl, rfl⟩, fun h => (by cases h), fun h => absurd h (by simp [addN]), fun _ => ⟨nd, n, rfl, e1, e2, e3⟩, fun h => (by cases h), i7⟩, ?_⟩
          have a0 : a ≠ 0 := by omega
          have a1 : a ≠ 1 := by omega
          have a3 : a ≠ 3 := by omega
          rw [partW_full (x := ⟨⟨nd, [], [], un, sd⟩, a⟩) a0 a1 a3, partW_3 rfl]
          simp only [addN]
          rw [scW_nd, hr]
          have : ndW n nd.length = [ndH n nd.length] ++ [[wOsc, it nd.length, it n.ph]] := by simp [ndW, e2, e3]
          rw [this, ← List.append_assoc, List.dropLast_concat]
        · split at h
          · rename_i _ _ _ hw
            obtain ⟨l, m, hl, hc⟩ := part_inv h
            simp only at hl
            rcases hc with ⟨p, rfl, h3, rfl, rfl⟩ | ⟨v, rfl, h3, rfl, rfl⟩ | ⟨s, rfl, h3, rfl, rfl⟩
            · simp only at h3
              subst h3
              obtain ⟨rfl, rfl⟩ := i2 (by decide)
              obtain ⟨l', m', hl', e1, e2, e3⟩ := i5 rfl
              obtain ⟨rfl, rfl⟩ : l = l' ∧ m = m' := by
                rw [hl] at hl'
                have := List.append_inj' hl' rfl
                exact ⟨this.1, by simpa using this.2⟩
              subst hl
              refine ⟨⟨by simp, fun _ => ⟨rfl, rfl⟩, fun h => (by cases h), fun h => absurd h (by simp), fun h => (by cases h), fun _ => ⟨l, _, rfl, e3⟩, i7⟩, ?_⟩
              rw [partW_full (by simp) (by simp) (by simp), partW_3 rfl]
              simp only
              rw [scW_nd, scW_nd]
              have t1 : ndW m l.length = [ndH m l.length] ++ [[wOsc, it l.length, it m.ph]] := by simp [ndW, e2, e3]
              have t2 : ndW { m with ph := p } l.length = [ndH m l.length] ++ [[wOsc, it l.length, it p]] := by simp [ndW, e2, e3, ndH]
              rw [t1, t2, ← List.append_assoc, ← List.append_assoc, List.dropLast_concat]
            · simp only at h3
              obtain ⟨rfl, rfl⟩ := i2 (by omega)
              subst hl
              refine ⟨⟨by simp, fun _ => ⟨rfl, rfl⟩, fun h => (by cases h), fun h => absurd h (by simp), fun h => (by cases h), fun h => (by cases h), i7⟩, ?_⟩
              have a0 : a ≠ 0 := fun e => by rw [e] at h3; revert h3; decide
              have a1 : a ≠ 1 := fun e => by rw [e] at h3; revert h3; decide
              have a3 : a ≠ 3 := fun e => by rw [e] at h3; revert h3; decide
              rw [partW_full (x := ⟨⟨l ++ [m], [], [], un, sd⟩, a⟩) a0 a1 a3, partW_full (by simp) (by simp) (by simp)]
              simp only
              rw [scW_nd, scW_nd, List.append_assoc]
              congr 1
              simp [ndW, ndH, svW]
            · simp only at h3
              subst h3
              obtain ⟨rfl, rfl⟩ := i2 (by decide)
              obtain ⟨l', m', hl', e3⟩ := i6 rfl
              obtain ⟨rfl, rfl⟩ : l = l' ∧ m = m' := by
                rw [hl] at hl'
                have := List.append_inj' hl' rfl
                exact ⟨this.1, by simpa using this.2⟩
              subst hl
              refine ⟨⟨by simp, fun _ => ⟨rfl, rfl⟩, fun h => (by cases h), fun h => absurd h (by simp), fun h => (by cases h), fun _ => ⟨l, _, rfl, e3⟩, i7⟩, ?_⟩
              rw [partW_full (by simp) (by simp) (by simp), partW_full (by simp) (by simp) (by simp)]
              simp only
              rw [scW_nd, scW_nd, List.append_assoc]
              congr 1
              simp [ndW, ndH, sgW, e3]
          · split at h
            · rename_i _ _ _ _ hw
              obtain ⟨k, hr, h0, rfl, e1, e2, e3⟩ := link_inv h
              simp only at h0
              subst hw
              have ha : a = 2 ∨ 4 ≤ a := by have := h0.1; simpa [whole] using this
              have hft : ft = [] := by
                rcases Nat.lt_or_ge a 6 with h6 | h6
                · exact (i2 (by omega)).2
                · exact i3 (by omega)
              subst hft
              refine ⟨⟨by simp, fun h => absurd h (by simp), fun _ => rfl, fun h => absurd h (by simp), fun h => (by cases h), fun h => (by cases h), ⟨i7.1, fun q hq => ?_⟩⟩, ?_⟩
              · rcases List.mem_append.1 hq with hq | hq
                · exact i7.2 q hq
                · simp only [List.mem_singleton] at hq; subst hq; exact ⟨e2, e3⟩
              · have a0 : a ≠ 0 := by omega
                have a1 : a ≠ 1 := by omega
                have a3 : a ≠ 3 := by omega
                rw [partW_full (x := ⟨⟨nd, lk, [], un, sd⟩, a⟩) a0 a1 a3, partW_full (by simp) (by simp) (by simp), hr]
                simp [scW, lkW, e1]
            · split at h
              · rename_i _ _ _ _ _ hw
                obtain ⟨l, k, c, hl, h6, hr, rfl⟩ := change_inv h
                simp only at h6 hl
                subst h6 hw hl
                obtain rfl := i3 rfl
                refine ⟨⟨by simp, fun h => absurd h (by simp), fun _ => rfl, fun h => absurd h (by simp), fun h => (by cases h), fun h => (by cases h), ⟨i7.1, fun q hq => ?_⟩⟩, ?_⟩
                · rcases List.mem_append.1 hq with hq | hq
                  · exact i7.2 q (by simp [hq])
                  · simp only [List.mem_singleton] at hq; subst hq; exact i7.2 k (by simp)
                · rw [partW_full (by simp) (by simp) (by simp), partW_full (by simp) (by simp) (by simp), hr]
                  simp [scW, lkW, lkH, chW]
              · split at h
                · rename_i _ _ _ _ _ _ hw
                  obtain ⟨f, hr, h0, rfl⟩ := fault_inv h
                  simp only at h0
                  subst hw
                  have ha : a = 2 ∨ 4 ≤ a := by simpa [whole] using h0
                  refine ⟨⟨by simp, fun h => absurd h (by simp), fun h => (by cases h), fun h => absurd h (by simp), fun h => (by cases h), fun h => (by cases h), i7⟩, ?_⟩
                  have a0 : a ≠ 0 := by omega
                  have a1 : a ≠ 1 := by omega
                  have a3 : a ≠ 3 := by omega
                  rw [partW_full (x := ⟨⟨nd, lk, ft, un, sd⟩, a⟩) a0 a1 a3, partW_full (by simp) (by simp) (by simp), hr]
                  simp [scW]
                · cases h

theorem rdA_again : ∀ (ps : List (List UInt8)) (x y : SSt) (n : Nat), SIn x → rdA x n ps = .ok y → ∃ L, ps = L.map (joinC 32) ++ [[]] ∧ partW y = partW x ++ L ∧ SIn y ∧ whole y.at_ = true
  | [], x, y, n, _, h => by cases h
  | [l], x, y, n, hi, h => by
    rw [rdA] at h
    split at h
    · rename_i hc
      cases h
      exact ⟨[], by simp [hc.1], by simp, hi, hc.2⟩
    · cases h
  | l :: q :: r, x, y, n, hi, h => by
    rw [rdA] at h
    · cases hw : rdW x (pcs 32 l) with
      | none => rw [hw] at h; cases h
      | some z =>
        rw [hw] at h
        obtain ⟨h1, h2⟩ := read_step hi hw
        obtain ⟨L, h3, h4, h5, h6⟩ := rdA_again (q :: r) z y (n + 1) h1 h
        refine ⟨pcs 32 l :: L, ?_, ?_, h5, h6⟩
        · rw [List.map_cons, join_pcs, List.cons_append, ← h3]
        · rw [h4, h2, List.append_assoc]; rfl
    · intro e; cases e
theorem joinC_lines : ∀ (L : List (List (List UInt8))), joinC 10 (L.map (joinC 32) ++ [[]]) = L.flatMap lnT
  | [] => rfl
  | ws :: L => by
    rw [List.map_cons, List.cons_append, joinC_cons 10 _ (by simp), joinC_lines L, List.flatMap_cons]
    simp [lnT]
theorem sin0 : SIn ss0 := ⟨by decide, fun _ => ⟨rfl, rfl⟩, fun h => (by cases h), fun _ => rfl, fun h => (by cases h), fun h => (by cases h), ⟨by decide, fun l hl => (by cases hl)⟩⟩
/-- what is read from a text has just this text -/
theorem again_sc {t : List UInt8} {x : SSt} (h : rdA ss0 1 (pcs 10 t) = .ok x) : scT x.sc = t ∧ SdOk x.sc := by
  obtain ⟨L, h1, h2, h3, h4⟩ := rdA_again _ _ _ _ sin0 h
  have ha : x.at_ = 2 ∨ 4 ≤ x.at_ := by simpa [whole] using h4
  have h5 : partW x = scW x.sc := partW_full (by omega) (by omega) (by omega)
  refine ⟨?_, h3.sd⟩
  rw [← join_pcs 10 t, h1, joinC_lines]
  unfold scT
  rw [← h5, h2]
  simp [partW, ss0]
/-- the wrong line is one of those of the text, or the next one -/
theorem rdA_err : ∀ (ps : List (List UInt8)) (x : SSt) (n m : Nat), ps ≠ [] → rdA x n ps = .error m → n ≤ m ∧ m < n + ps.length
  | [], x, n, m, hp, _ => absurd rfl hp
  | [l], x, n, m, _, h => by
    rw [rdA] at h
    split at h
    · cases h
    · cases h; simp
  | l :: q :: r, x, n, m, _, h => by
    rw [rdA] at h
    · cases hw : rdW x (pcs 32 l) with
      | none => rw [hw] at h; cases h; simp
      | some z =>
        rw [hw] at h
        have := rdA_err (q :: r) z (n + 1) m (by simp) h
        simp only [List.length_cons] at this ⊢
        omega
    · intro e; cases e
/-! ### a text that is cut -/
theorem cut_lines : ∀ (L : List (List (List UInt8))) (p : Nat), p < (L.flatMap lnT).length → ∃ k q r, k < L.length ∧ (L.flatMap lnT).take p = (L.take k).flatMap lnT ++ q ∧ joinC 32 (L.getD k []) = q ++ r
  | [], p, h => by simp at h
  | ws :: L, p, h => by
    by_cases hp : p < (lnT ws).length
    · refine ⟨0, (joinC 32 ws).take p, (joinC 32 ws).drop p, by simp, ?_, by simp⟩
      have h1 : p ≤ (joinC 32 ws).length := by simp [lnT] at hp; omega
      simp only [List.flatMap_cons, List.take_zero, List.flatMap_nil, List.nil_append, lnT]
      rw [List.append_assoc, List.take_append_of_le_length h1]
    · obtain ⟨k, q, r, h1, h2, h3⟩ := cut_lines L (p - (lnT ws).length) (by rw [List.flatMap_cons, List.length_append] at h; omega)
      refine ⟨k + 1, q, r, by simpa using h1, ?_, by simpa using h3⟩
      rw [List.flatMap_cons, List.take_append, List.take_of_length_le (by omega), h2, List.take_succ_cons, List.flatMap_cons, List.append_assoc]
theorem count_lines : ∀ (L : List (List (List UInt8))), (∀ ws ∈ L, Wok ws) → (L.flatMap lnT).count 10 = L.length
  | [], _ => rfl
  | ws :: L, h => by
    have h1 := (h ws (by simp)).no10
    rw [List.flatMap_cons, List.count_append, count_lines L (fun x hx => h x (by simp [hx]))]
    simp only [lnT, List.count_append, List.count_eq_zero.2 h1, List.length_cons]
    simp; omega
theorem runW_cut {x z : SSt} {L : List (List (List UInt8))} (h : runW x L = some z) (k : Nat) : ∃ y, runW x (L.take k) = some y := by
  rw [← List.take_append_drop k L, runW_append] at h
  cases hr : runW x (L.take k) with
  | none => rw [hr] at h; cases h
  | some y => exact ⟨y, rfl⟩
theorem last_line (L : List (List (List UInt8))) (h : L ≠ []) : (L.flatMap lnT).getLast? = some 10 := by
  obtain ⟨r, m, rfl⟩ := snoc_of (List.length_pos_iff.2 h)
  rw [List.flatMap_append]
  simp [lnT]
theorem cut_sc {s : Sc} (h : chkS s = 0) (hs : SdOk s) {p : Nat} (hp : p < (scT s).length) :
    ((prsS ((scT s).take p)).2.1 = 0 ∧ (prsS ((scT s).take p)).2.2 ≠ 19 ∧ 2 ≤ ((scT s).take p).count 10 ∧ ((scT s).take p).getLast? = some 10) ∨
    ((prsS ((scT s).take p)).2.1 = ((scT s).take p).count 10 + 1 ∧ (prsS ((scT s).take p)).2.2 = 19) := by
  obtain ⟨k, q, r, hk, h1, h2⟩ := cut_lines (scW s) p hp
  obtain ⟨b, _, hr⟩ := run_sc (scI_of h hs)
  obtain ⟨y, hy⟩ := runW_cut hr k
  have hwk : ∀ ws ∈ (scW s).take k, Wok ws := fun ws hw => scW_ok s ws (List.mem_of_mem_take hw)
  have hLk : ((scW s).getD k []) ∈ scW s := by
    rw [List.getD_eq_getElem?_getD, List.getElem?_eq_getElem hk]; exact List.getElem_mem hk
  have hq : (10 : UInt8) ∉ q := fun hm => (scW_ok s _ hLk).no10 (by rw [h2]; simp [hm])
  have hlen : ((scW s).take k).length = k := by simp; omega
  have hc : ((scT s).take p).count 10 = k := by
    show ((scW s).flatMap lnT |>.take p).count 10 = k
    rw [h1, List.count_append, count_lines _ hwk, List.count_eq_zero.2 hq, hlen]; rfl
  have hps : pcs 10 ((scT s).take p) = ((scW s).take k).map (joinC 32) ++ [q] := by
    show pcs 10 ((scW s).flatMap lnT |>.take p) = _
    rw [h1, pcs_lines _ _ hwk, pcs_no hq]
  have hrd : rdA ss0 1 (pcs 10 ((scT s).take p)) = if q = [] ∧ whole y.at_ = true then .ok y else .error (k + 1) := by
    rw [hps, rdA_run _ ss0 1 [q] (by simp) hwk y hy, hlen, rdA]
    rw [show 1 + k = k + 1 by omega]
  rw [hc]
  by_cases hw : q = [] ∧ whole y.at_ = true
  · rw [if_pos hw] at hrd
    left
    have h2k : 2 ≤ k := by
      rcases Nat.lt_or_ge k 2 with hk2 | hk2
      · exfalso
        have hk01 : k = 0 ∨ k = 1 := by omega
        have hwy := hw.2
        rcases hk01 with rfl | rfl
        · have : ss0 = y := Option.some.inj hy
          rw [← this] at hwy; revert hwy; decide
        · have e : (scW s).take 1 = [[wUntil, it s.un]] := by simp [scW]
          rw [e, runW, rdW, if_pos rfl] at hy
          simp only [rdUntil, ss0, sc0, if_true, nO (scI_of h hs).un, Option.map_some, runW] at hy
          have := Option.some.inj hy
          rw [← this] at hwy; revert hwy; simp [whole]
      · exact hk2
    refine ⟨?_, ?_, h2k, ?_⟩
    · unfold prsS; rw [hrd]; simp only; split <;> rfl
    · unfold prsS; rw [hrd]; simp only; split
      · simp
      · exact chkS_ne _
    · show ((scW s).flatMap lnT |>.take p).getLast? = some 10
      rw [h1, hw.1, List.append_nil]
      exact last_line _ (by intro e; rw [e] at hlen; simp at hlen; omega)
  · rw [if_neg hw] at hrd
    right
    unfold prsS
    rw [hrd]
    exact ⟨rfl, rfl⟩
/-! ### links -/
theorem lnk_fst (a b : Int) : ∀ (l : List Lk) (i : Nat), (lnkF a b l i).map Prod.fst = (lnkF b a l i).map Prod.fst
  | [], _ => rfl
  | x :: r, i => by
    unfold lnkF
    by_cases h1 : x.A = a ∧ x.B = b
    · rw [if_pos h1]
      by_cases h2 : x.A = b ∧ x.B = a
      · rw [if_pos h2]
      · rw [if_neg h2, if_pos h1]; rfl
    · rw [if_neg h1]
      by_cases h2 : x.A = b ∧ x.B = a
      · rw [if_pos h2, if_pos h2]; rfl
      · rw [if_neg h2, if_neg h2, if_neg h1]; exact lnk_fst a b r (i + 1)
theorem lnk_rev {a b : Int} (hab : a ≠ b) : ∀ (l : List Lk) (i j : Nat) (d : Bool), lnkF a b l i = some (j, d) → lnkF b a l i = some (j, !d)
  | [], _, _, _, h => by cases h
  | x :: r, i, j, d, h => by
    unfold lnkF at h ⊢
    by_cases h1 : x.A = a ∧ x.B = b
    · rw [if_pos h1] at h
      cases h
      rw [if_neg (fun h2 => hab (h1.1.symm.trans h2.1)), if_pos h1]; rfl
    · rw [if_neg h1] at h
      by_cases h2 : x.A = b ∧ x.B = a
      · rw [if_pos h2] at h
        cases h
        rw [if_pos h2]; rfl
      · rw [if_neg h2] at h
        rw [if_neg h2, if_neg h1]; exact lnk_rev hab r (i + 1) j d h
theorem lnk_lt {a b : Int} : ∀ (l : List Lk) (i j : Nat) (d : Bool), lnkF a b l i = some (j, d) → i ≤ j ∧ j < i + l.length
  | [], _, _, _, h => by cases h
  | x :: r, i, j, d, h => by
    unfold lnkF at h
    split at h
    · cases h; simp
    · split at h
      · cases h; simp
      · have := lnk_lt r (i + 1) j d h
        simp only [List.length_cons]; omega
end Go.Proofs.YthmeifdgkodjlaaGreatDoor

/- osc.Check and osc.Bound. Condition: the length. -/
namespace Go.Proofs.YthmeifdgkodjlaaGreatDoor
open Go.RowKit

theorem only_dr2 (w : World) (n : Nat) : Only [] w (w.drewN n) := ⟨rfl, rfl, rfl, Nat.le_refl _, fun _ _ _ => rfl⟩
def sgC (s : Sg) : List Value := [.int .i64 s.a, .int .i64 s.p]
theorem sgC_len (s : Sg) : (sgC s).length = 2 := rfl
theorem sgC_one (s : Sg) : ∀ u ∈ sgC s, u.oneCell' = true := by simp [sgC, Value.oneCell']
theorem VRow.ptr {α : Type} {ec : α → List Value} {s : Nat} {w : World} {p : Option Addr} {n cap k : Nat} {l : List α} (hv : VRow ec s w p n cap l) (hk : k < l.length) : ∃ b off, p = some ⟨b, off, none⟩ := by
  obtain ⟨b, off, hp, _⟩ := hv.cell k l[k] (List.getElem?_eq_getElem hk)
  exact ⟨b, off, hp⟩
/-- the cells of an element, in a world that has grown -/
theorem VRow.at_ {α : Type} {ec : α → List Value} {s : Nat} {w wr : World} {cap n k : Nat} {p : Option Addr} {l : List α} {x : α} (hv : VRow ec s w p n cap l) (ho : Only [] w wr) (hx : l[k]? = some x) :
    ∃ bk off, p = some ⟨bk, off, none⟩ ∧ bk < wr.heap.size ∧ ∀ j v, (ec x)[j]? = some v → wr.cell? ⟨bk, off + (k * s + j), none⟩ = some v := by
  obtain ⟨b, off, hp, hb, hc⟩ := hv.cell k x hx
  exact ⟨b, off, hp, Nat.lt_of_lt_of_le hb ho.size, fun j v hj => by rw [ho.cell hb (by simp)]; exact hc j v hj⟩
theorem getD_some {α : Type} {l : List α} {k : Nat} (z : α) (h : k < l.length) : l[k]? = some (l.getD k z) := by simp [List.getD_eq_getElem?_getD, h]
theorem VRow.sg {w wr : World} {cap k : Nat} {p : Option Addr} {l : List Sg} (hv : VRow sgC 2 w p l.length cap l) (ho : Only [] w wr) (hk : k < l.length) :
    ∃ bk off, p = some ⟨bk, off, none⟩ ∧ wr.cell? ⟨bk, off + k * 2, none⟩ = some (.int .i64 (l.getD k sg0).a) ∧ wr.cell? ⟨bk, off + k * 2 + 1, none⟩ = some (.int .i64 (l.getD k sg0).p) ∧ bk < wr.heap.size := by
  obtain ⟨bk, off, hp, hb, hc⟩ := hv.at_ ho (getD_some sg0 hk)
  exact ⟨bk, off, hp, hc 0 _ rfl, hc 1 _ rfl, hb⟩
theorem ret_int {k : IntKind} {a b : Int} (h : a = b) : Ending.returned (.int k a) = .returned (.int k b) := by rw [h]
def OscR (w : World) (l : List Sg) (vi : Value) (wr : World) : Prop :=
  ∃ k : Nat, k ≤ l.length ∧ vi = .int .i64 k ∧ fe (sgE l) l.length 0 = fe (sgE l) (l.length - k) k ∧ Only [] w wr
/-- why a number is not in a range -/
theorem inR_no {n lo hi : Int} (h : ¬ inR n lo hi = true) : n < lo ∨ (lo ≤ n ∧ hi < n) := by
  have := fun a b => h (inR_t.2 ⟨a, b⟩)
  rcases Int.lt_or_le n lo with h1 | h1
  · exact .inl h1
  · exact .inr ⟨h1, by rcases Int.lt_or_le hi n with h2 | h2; exact h2; exact absurd h2 (this h1)⟩
set_option maxRecDepth 100000 in
set_option maxHeartbeats 4000000 in
theorem pOsc {w : World} {p : Option Addr} {n cap : Nat} {l : List Sg} (ph : Int) (hv : VRow sgC 2 w p n cap l) (hn : n ≤ 100000) :
    Calls Tryz.prog 45 #[.agg #[.int .i64 ph, .slice p n cap]] w fun e w' => e = .returned (.int .i64 (oscE ph l)) ∧ Only [] w w' := by
  have hl := hv.len
  subst hl
  have HV := Lib.hid hv; clear hv
  go_enter Tryz.func45, Tryz.ntmps45
  go_upto_region 1 with (fail)
  refine alloc_abs (G := fun w0 => Code.wp _ _ _ _ w0) ?_
  intro w1 hb1 ho1 hs1
  have B1 := Lib.hid hb1; have O1 := Lib.hid ho1
  clear hb1 ho1 hs1
  have g0 := cell_got B1.out 0; have g1 := cell_got B1.out 1
  have l0 := got_lt B1.out
  by_cases h0 : l.length = 0
  · have d1 : ((l.length : Int) == 0) = true := by rw [h0]; rfl
    have HR : Hid (oscE ph l = 14) := Lib.hid (by unfold oscE; rw [if_pos h0])
    go_wp2
    go_ret
    exact ⟨by rw [HR.out]; rfl, O1.out⟩
  · have d1 : ((l.length : Int) == 0) = false := by rw [beq_eq_false_iff_ne]; omega
    by_cases h16 : 16 < l.length
    · have d2 : decide ((l.length : Int) > 16) = true := by simp; omega
      have d3 : decide (16 < (l.length : Int)) = true := by simp; omega
      have HR : Hid (oscE ph l = 6) := Lib.hid (by unfold oscE; rw [if_neg h0, if_pos h16])
      go_wp2
      go_ret
      exact ⟨by rw [HR.out]; rfl, O1.out⟩
    · have d2 : decide ((l.length : Int) > 16) = false := by simp; omega
      have d3 : decide (16 < (l.length : Int)) = false := by simp; omega
      by_cases hph : inR ph (-1125899906842624) 1125899906842624 = true
      · obtain ⟨p0, p1⟩ := inR_t.1 hph
        have e1 : decide (ph < -1125899906842624) = false := by simp; omega
        have e2 : decide (ph > 1125899906842624) = false := by simp; omega
        have e3 : decide (1125899906842624 < ph) = false := by simp; omega
        have HR : Hid (oscE ph l = fe (sgE l) l.length 0) := Lib.hid (by unfold oscE; rw [if_neg h0, if_neg h16, if_pos hph])
        clear hph
        go_wp2
        go_loopw [27] (fun vi wr => OscR w1 l vi wr) (fun vi _ => l.length - (intOf vi).toNat)
        case atStart => exact ⟨0, Nat.zero_le _, rfl, rfl, Only.refl _ _⟩
        case round =>
          clear d1 d2 d3 e1 e2 e3 p0 p1 g0 g1 l0
          obtain ⟨k, hk, rfl, hfe, ho⟩ := hrel
          have HF := Lib.hid hfe; have OO := Lib.hid ho; have OA := Lib.hid (O1.out.nil_trans ho); have B2 := Lib.hid (ho.got B1.out (by simp))
          clear hfe ho
          by_cases hlt : k < l.length
          · obtain ⟨bk, off, hp, c0, c1, lb⟩ := HV.out.sg OA.out hlt
            subst hp
            have hsE : sgE l k = if inR (l.getD k sg0).a 0 1125899906842624 = true ∧ inR (l.getD k sg0).p (-500000) 500000 = true then (if k = 0 ∧ (l.getD k sg0).a ≠ 0 then 7 else if 0 < k ∧ (l.getD k sg0).a ≤ (l.getD (k - 1) sg0).a then 12 else 0) else 3 := rfl
            generalize l.getD k sg0 = s at c0 c1 hsE
            have HSE := Lib.hid hsE
            clear hsE
            have HNO : Hid (sgE l k ≠ 0 → oscE ph l = sgE l k) := Lib.hid (fun h => by rw [HR.out, HF.out, fe_no hlt h])
            have HYE : Hid (sgE l k = 0 → fe (sgE l) l.length 0 = fe (sgE l) (l.length - (k + 1)) (k + 1)) := Lib.hid (fun h => by rw [HF.out, fe_yes hlt h])
            go_upto_region 10 with (fail)
            refine alloc_abs (G := fun w0 => Code.wp _ _ _ _ w0) ?_
            intro w2 hb2 ho2 hs2
            have E2 := Lib.hid hb2; have O2 := Lib.hid (OO.out.nil_trans ho2); have OB := Lib.hid (OA.out.nil_trans ho2); have B3 := Lib.hid (ho2.got B2.out (by simp))
            clear hb2 ho2 hs2 c0 c1 lb
            have c0 := cell_got E2.out 0; have c1 := cell_got E2.out 1; have le := got_lt E2.out
            have g1 := cell_got B3.out 1; have l0 := got_lt B3.out
            by_cases ha : inR s.a 0 1125899906842624 = true
            · obtain ⟨a0, a1⟩ := inR_t.1 ha
              have e1 : decide (s.a < 0) = false := by simp; omega
              have e2 : decide (s.a > 1125899906842624) = false := by simp; omega
              have e3 : decide (1125899906842624 < s.a) = false := by simp; omega
              by_cases hp : inR s.p (-500000) 500000 = true
              · obtain ⟨b0, b1⟩ := inR_t.1 hp
                have e4 : decide (s.p < -500000) = false := by simp; omega
                have e5 : decide (s.p > 500000) = false := by simp; omega
                have e6 : decide (500000 < s.p) = false := by simp; omega
                have hs2 := HSE.out
                rw [if_pos ⟨ha, hp⟩] at hs2
                by_cases hk0 : k = 0
                · have k1 : ((k : Int) == 0) = true := by rw [hk0]; rfl
                  have k2 : decide (0 < (k : Int)) = false := by simp; omega
                  have k3 : decide ((k : Int) > 0) = false := by simp; omega
                  have k4 : decide (0 < k) = false := by simp; omega
                  by_cases hz : s.a = 0
                  · have z1 : (s.a != 0) = false := by simp [hz]
                    have HX := Lib.hid (HYE.out (by rw [hs2, if_neg (fun q => q.2 hz), if_neg (fun q => by omega)]))
                    clear hs2 hz ha hp hk0
                    go_wp2_with fail
                    go_quiet (fail)
                    go_wp2
                    go_roundw
                    case rel => exact ⟨k + 1, by omega, by go_num, HX.out, O2.out.nil_trans (only_dr2 _ _)⟩
                    case measure => first | (simp [intOf]; done) | (simp [intOf]; omega)
                  · have z1 : (s.a != 0) = true := by simp [hz]
                    have h7 : sgE l k = 7 := by rw [hs2, if_pos ⟨hk0, hz⟩]
                    have HX : Hid (oscE ph l = 7) := Lib.hid ((HNO.out (by rw [h7]; decide)).trans h7)
                    clear hs2 hz ha hp hk0 h7
                    go_wp2
                    go_ret
                    exact ⟨by rw [HX.out]; rfl, OB.out⟩
                · have k1 : ((k : Int) == 0) = false := by rw [beq_eq_false_iff_ne]; omega
                  have k2 : decide (0 < (k : Int)) = true := by simp; omega
                  have k3 : decide ((k : Int) > 0) = true := by simp; omega
                  have k4 : decide (0 < k) = true := by simp; omega
                  obtain ⟨bk', off', hp', p0, p1, lb⟩ := HV.out.sg OB.out (show k - 1 < l.length by omega)
                  cases hp'
                  generalize (l.getD (k - 1) sg0) = t at p0 p1 hs2
                  clear p1
                  have hi1 : (1 : Int) ≤ (k : Int) := by omega
                  have hi2 : (k : Int) - 1 < (l.length : Int) := by omega
                  have hi3 : IntKind.i64.wrap ((k : Int) - 1) = (k : Int) - 1 := IntWalk.i64_in _ (by omega)
                  have hi4 : ((k : Int) - 1).toNat = k - 1 := by omega
                  by_cases hle : s.a ≤ t.a
                  · have z1 : decide (s.a ≤ t.a) = true := by simp [hle]
                    have h12 : sgE l k = 12 := by rw [hs2, if_neg (fun q => hk0 q.1), if_pos ⟨by omega, hle⟩]
                    have HX : Hid (oscE ph l = 12) := Lib.hid ((HNO.out (by rw [h12]; decide)).trans h12)
                    clear hs2 hle ha hp hk0 h12
                    go_wp2_with fail
                    go_quiet (fail)
                    go_wp2
                    go_ret
                    exact ⟨by rw [HX.out]; rfl, OB.out.nil_trans (only_dr2 _ _)⟩
                  · have z1 : decide (s.a ≤ t.a) = false := by simpa using hle
                    have HX := Lib.hid (HYE.out (by rw [hs2, if_neg (fun q => hk0 q.1), if_neg (fun q => hle q.2)]))
                    clear hs2 hle ha hp hk0
                    go_wp2_with fail
                    go_quiet (fail)
                    clear hi3 hi4
                    go_wp2
                    go_roundw
                    case rel => exact ⟨k + 1, by omega, by go_num, HX.out, O2.out.nil_trans (only_dr2 _ _)⟩
                    case measure => first | (simp [intOf]; done) | (simp [intOf]; omega)
              · have h3 : sgE l k = 3 := by rw [HSE.out, if_neg (fun q => hp q.2)]
                have HX : Hid (oscE ph l = 3) := Lib.hid ((HNO.out (by rw [h3]; decide)).trans h3)
                rcases inR_no hp with hq | ⟨hq, hr⟩
                · have e4 : decide (s.p < -500000) = true := by simp; omega
                  clear h3 ha hp
                  go_wp2
                  go_ret
                  exact ⟨by rw [HX.out]; rfl, OB.out⟩
                · have e4 : decide (s.p < -500000) = false := by simp; omega
                  have e5 : decide (s.p > 500000) = true := by simp; omega
                  have e6 : decide (500000 < s.p) = true := by simp; omega
                  clear h3 ha hp
                  go_wp2
                  go_ret
                  exact ⟨by rw [HX.out]; rfl, OB.out⟩
            · have h3 : sgE l k = 3 := by rw [HSE.out, if_neg (fun q => ha q.1)]
              have HX : Hid (oscE ph l = 3) := Lib.hid ((HNO.out (by rw [h3]; decide)).trans h3)
              rcases inR_no ha with hq | ⟨hq, hr⟩
              · have e1 : decide (s.a < 0) = true := by simp; omega
                clear h3 ha
                go_wp2
                go_ret
                exact ⟨by rw [HX.out]; rfl, OB.out⟩
              · have e1 : decide (s.a < 0) = false := by simp; omega
                have e2 : decide (s.a > 1125899906842624) = true := by simp; omega
                have e3 : decide (1125899906842624 < s.a) = true := by simp; omega
                clear h3 ha
                go_wp2
                go_ret
                exact ⟨by rw [HX.out]; rfl, OB.out⟩
          · have HX : Hid (oscE ph l = 0) := Lib.hid (by rw [HR.out, HF.out, fe_end (by omega)])
            obtain rfl : k = l.length := by omega
            go_wp2
            go_ret
            exact ⟨by rw [HX.out]; rfl, OA.out⟩
      · have HR : Hid (oscE ph l = 3) := Lib.hid (by unfold oscE; rw [if_neg h0, if_neg h16, if_neg hph])
        rcases inR_no hph with hq | ⟨hq, hr⟩
        · have e1 : decide (ph < -1125899906842624) = true := by simp; omega
          clear hph
          go_wp2
          go_ret
          exact ⟨by rw [HR.out]; rfl, O1.out⟩
        · have e1 : decide (ph < -1125899906842624) = false := by simp; omega
          have e2 : decide (ph > 1125899906842624) = true := by simp; omega
          have e3 : decide (1125899906842624 < ph) = true := by simp; omega
          clear hph
          go_wp2
          go_ret
          exact ⟨by rw [HR.out]; rfl, O1.out⟩
end Go.Proofs.YthmeifdgkodjlaaGreatDoor

/- osc.Bound. Condition: the length. -/
namespace Go.Proofs.YthmeifdgkodjlaaGreatDoor
open Go.RowKit

def BndR (w : World) (l : List Sg) (v vi : Value) (wr : World) : Prop :=
  ∃ k : Nat, k ≤ l.length ∧ vi = .int .i64 k ∧ v = .int .i64 (oscM (l.take k)) ∧ Only [] w wr
theorem oscM_snoc (l : List Sg) (s : Sg) : oscM (l ++ [s]) = max (max (oscM l) s.p) (-s.p) := by simp [oscM]
theorem oscM_bd : ∀ {l : List Sg}, (∀ s ∈ l, -500000 ≤ s.p ∧ s.p ≤ 500000) → 0 ≤ oscM l ∧ oscM l ≤ 500000 := by
  intro l
  have key : ∀ (l : List Sg) (b : Int), (∀ s ∈ l, -500000 ≤ s.p ∧ s.p ≤ 500000) → 0 ≤ b → b ≤ 500000 → 0 ≤ l.foldl (fun b s => max (max b s.p) (-s.p)) b ∧ l.foldl (fun b s => max (max b s.p) (-s.p)) b ≤ 500000 := by
    intro l
    induction l with
    | nil => intro b _ h0 h1; exact ⟨h0, h1⟩
    | cons s r ih =>
      intro b h h0 h1
      have hs := h s (by simp)
      rw [List.foldl_cons]
      exact ih _ (fun x hx => h x (by simp [hx])) (by omega) (by omega)
  exact fun h => key l 0 h (by decide) (by decide)
set_option maxRecDepth 100000 in
set_option maxHeartbeats 4000000 in
theorem pBound {w : World} {p : Option Addr} {n cap : Nat} {l : List Sg} (ph : Int) (hv : VRow sgC 2 w p n cap l) (hn : n ≤ 100000) :
    Calls Tryz.prog 46 #[.agg #[.int .i64 ph, .slice p n cap]] w fun e w' => e = .returned (.int .i64 (oscB ph l)) ∧ Only [] w w' := by
  have hl := hv.len
  subst hl
  have HV := Lib.hid hv; clear hv
  go_enter Tryz.func46, Tryz.ntmps46
  go_wp2_with fail
  refine alloc_abs (G := fun w0 => Calls _ _ _ w0 _) ?_
  intro w1 hb1 ho1 hs1
  have B1 := Lib.hid hb1; have O1 := Lib.hid ho1
  clear hb1 ho1 hs1
  refine (pOsc ph (HV.out.kept O1.out) hn).mono ?_
  rintro e w2 ⟨rfl, ho2⟩
  have B2 := Lib.hid (ho2.got B1.out (by simp)); have O2 := Lib.hid (O1.out.nil_trans ho2)
  clear ho2 B1 O1
  have g0 := cell_got B2.out 0; have g1 := cell_got B2.out 1
  have l0 := got_lt B2.out
  by_cases hc : oscE ph l = 0
  · have HR : Hid (oscB ph l = oscM l) := Lib.hid (by unfold oscB; rw [if_pos hc])
    have hall : ∀ s ∈ l, -500000 ≤ s.p ∧ s.p ≤ 500000 := fun s hs => by
      obtain ⟨i, hi, rfl⟩ := List.getElem_of_mem hs
      have := (oscE_ok hc).2.2.2 i hi
      unfold sgE at this
      by_cases hq : inR (l.getD i sg0).a 0 1125899906842624 = true ∧ inR (l.getD i sg0).p (-500000) 500000 = true
      · have h2 := inR_t.1 hq.2
        rwa [show l.getD i sg0 = l[i] by simp [List.getD_eq_getElem?_getD, hi]] at h2
      · rw [if_neg hq] at this; cases this
    have HAL := Lib.hid hall
    rw [hc]
    clear hc hall
    go_wp2
    go_loopw [3, 12] (fun v vi wr => BndR w2 l v vi wr) (fun _ vi _ => l.length - (intOf vi).toNat)
    case atStart => exact ⟨0, Nat.zero_le _, rfl, rfl, Only.refl _ _⟩
    case round =>
      clear g0 g1 l0
      obtain ⟨k, hk, rfl, rfl, ho⟩ := hrel
      have OO := Lib.hid ho; have OA := Lib.hid (O2.out.nil_trans ho)
      clear ho
      by_cases hlt : k < l.length
      · obtain ⟨bk, off, hp, c0, c1, lb⟩ := HV.out.sg OA.out hlt
        subst hp
        have hgk := getD_some sg0 hlt
        have hsb := HAL.out _ (List.mem_of_getElem? hgk)
        have htk : oscM (l.take (k + 1)) = max (max (oscM (l.take k)) (l.getD k sg0).p) (-(l.getD k sg0).p) := by rw [List.take_add_one, hgk]; exact oscM_snoc _ _
        have hmb := oscM_bd (l := l.take k) (fun s hs => HAL.out s (List.mem_of_mem_take hs))
        generalize l.getD k sg0 = s at c0 c1 hsb htk
        generalize oscM (l.take k) = z at hmb htk ⊢
        have HTK := Lib.hid htk
        clear hgk htk
        obtain ⟨s0, s1⟩ := hsb
        obtain ⟨m0, m1⟩ := hmb
        go_wp2
        go_roundw
        case rel => exact ⟨k + 1, by omega, by go_num, by rw [HTK.out]; first | rfl | (congr 1; omega), OO.out.alloc _⟩
        case measure => first | (simp [intOf]; done) | (simp [intOf]; omega)
      · rw [List.take_of_length_le (by omega)]
        obtain rfl : k = l.length := by omega
        go_wp2
        go_ret
        exact ⟨by rw [HR.out]; rfl, OA.out⟩
  · have HR : Hid (oscB ph l = 0) := Lib.hid (by unfold oscB; rw [if_neg hc])
    have b1 : (oscE ph l == 0) = false := by simp [hc]
    have b2 : (oscE ph l != 0) = true := by simp [hc]
    clear hc
    go_wp2
    go_ret
    exact ⟨by rw [HR.out]; rfl, O2.out⟩
end Go.Proofs.YthmeifdgkodjlaaGreatDoor

/- link.limited, isTime, isDir. No condition. -/
namespace Go.Proofs.YthmeifdgkodjlaaGreatDoor
open Go.RowKit

/-- the nearest delay that is permitted -/
def clp (n : Int) : Int := min (max n 0) 10000000000
theorem clp_eq {n : Int} : clp n = n ↔ inR n 0 10000000000 = true := by rw [inR_t]; unfold clp; omega
def LimI (w1 : World) (b : Nat) (x y : Int) (vi : Value) (wr : World) : Prop :=
  ∃ k : Nat, k ≤ 2 ∧ vi = .int .i64 k ∧ wr.heap[b]? = some (.cells #[.int .i64 (if 0 < k then clp x else x), .int .i64 (if 1 < k then clp y else y)] 49 (0, 0)) ∧ Only [b] w1 wr
set_option maxRecDepth 100000 in
set_option maxHeartbeats 2000000 in
theorem pLimited (x y : Int) (w : World) : Calls Tryz.prog 83 #[.agg #[.int .i64 x, .int .i64 y]] w fun e w' => e = .returned (.agg #[.int .i64 (clp x), .int .i64 (clp y)]) ∧ Only [] w w' := by
  go_enter Tryz.func83, Tryz.ntmps83
  go_upto_region 1 with (fail)
  refine alloc_abs (G := fun w0 => Code.wp _ _ _ _ (w0.alloc _)) ?_
  intro w0 hb0 ho0 hs0
  have hlt : w.heap.size < w0.heap.size := got_lt hb0
  rw [← hs0]
  clear hs0
  refine alloc_abs (G := fun w0 => Code.wp _ _ _ _ w0) ?_
  intro w1 hb1 ho1 hs1
  have B1 := Lib.hid (ho1.got hb0 (by simp)); have C1 := Lib.hid hb1; have O1 := Lib.hid (ho0.nil_trans ho1)
  clear hb0 ho0 hb1 ho1 hs1
  go_wp2
  go_loopw [4] (fun vi wr => LimI w1 w.heap.size x y vi wr) (fun vi _ => 2 - (intOf vi).toNat)
  case atStart => exact ⟨0, by omega, rfl, B1.out, Only.refl _ _⟩
  case round =>
    obtain ⟨k, hk, rfl, hb, ho⟩ := hrel
    have BB := Lib.hid hb; have OO := Lib.hid ho
    clear hb ho
    have hcases : k = 0 ∨ k = 1 ∨ k = 2 := by omega
    rcases hcases with rfl | rfl | rfl
    · have g0 := cell_got BB.out 0; have f0 := frozen_got BB.out 0; have l0 := got_lt BB.out
      simp only [Nat.lt_irrefl, if_false] at g0
      go_wp2
      have E0 : ∀ z : Int, (if 10000000000 < if z < 0 then (0 : Int) else z then 10000000000 else if z < 0 then 0 else z) = clp z := by intro z; unfold clp; split <;> split <;> omega
      rw [E0]
      exact ⟨⟨1, by omega, rfl, by simpa using setCell_got (o := 0) _ BB.out, OO.out.setCell (Or.inl (by simp)) _⟩, by simp [intOf]⟩
    · have g1 := cell_got BB.out 1; have f1 := frozen_got BB.out 1; have l1 := got_lt BB.out
      simp only [Nat.lt_irrefl, if_false, if_true, Nat.zero_lt_one] at g1
      go_wp2
      have E0 : ∀ z : Int, (if 10000000000 < if z < 0 then (0 : Int) else z then 10000000000 else if z < 0 then 0 else z) = clp z := by intro z; unfold clp; split <;> split <;> omega
      rw [E0]
      exact ⟨⟨2, by omega, rfl, by simpa using setCell_got (o := 1) _ BB.out, OO.out.setCell (Or.inl (by simp)) _⟩, by simp [intOf]⟩
    · have g0 := cell_got BB.out 0; have g1 := cell_got BB.out 1; have l1 := got_lt BB.out
      simp only [if_true, Nat.zero_lt_two, Nat.one_lt_two] at g0 g1
      have hc1 := OO.out.got C1.out (by simp; omega)
      have HC := Lib.hid hc1
      have r0 := cell_got hc1 0; have r1 := cell_got hc1 1; have q0 := frozen_got hc1 0; have q1 := frozen_got hc1 1
      have s1 := cell_got (setCell_got (o := 0) (.int .i64 (clp x)) hc1) 1; have s0 := frozen_got (setCell_got (o := 0) (.int .i64 (clp x)) hc1) 1
      have l2 := got_lt hc1
      clear hc1
      go_wp2
      have HD := setCell_got (o := 1) (.int .i64 (clp y)) (setCell_got (o := 0) (.int .i64 (clp x)) HC.out)
      have e0 := cell_got HD 0; have e1 := cell_got HD 1
      have hO : Only [] w ((wr.setCell ⟨w0.heap.size, 0, none⟩ (.int .i64 (clp x))).setCell ⟨w0.heap.size, 1, none⟩ (.int .i64 (clp y))) :=
        ((O1.out.trans OO.out (fun x hx => by simp at hx; subst hx; exact .inr (Nat.le_refl _))).setCell (Or.inr (by simp; omega)) _).setCell (Or.inr (by simp; omega)) _
      exact bodyPost_ret (v := .agg #[.int .i64 (clp x), .int .i64 (clp y)]) (by simp [results, Tryz.results83, go_sem, e0, e1]) rfl ⟨rfl, hO⟩
theorem pTime (n : Int) (w : World) : Calls Tryz.prog 84 #[.int .i64 n] w fun e w' => e = .returned (.bool (inR n 0 1125899906842624)) ∧ w = w' := by
  by_cases h0 : 0 ≤ n
  · have d1 : decide (n ≥ 0) = true := by simpa using h0
    have d2 : decide (0 ≤ n) = true := by simpa using h0
    have HR : Hid (inR n 0 1125899906842624 = decide (n ≤ 1125899906842624)) := Lib.hid (by simp [inR, h0])
    clear h0
    go_enter Tryz.func84, Tryz.ntmps84
    go_wp2
    go_ret
    exact ⟨by rw [HR.out]; rfl, rfl⟩
  · have d1 : decide (n ≥ 0) = false := by simpa using h0
    have d2 : decide (0 ≤ n) = false := by simpa using h0
    have HR : Hid (inR n 0 1125899906842624 = false) := Lib.hid (by simp [inR, h0])
    clear h0
    go_enter Tryz.func84, Tryz.ntmps84
    go_wp2
    go_ret
    exact ⟨by rw [HR.out]; rfl, rfl⟩
theorem pDir (n : Int) (w : World) : Calls Tryz.prog 85 #[.int .i64 n] w fun e w' => e = .returned (.bool (inR n 0 1)) ∧ w = w' := by
  by_cases h0 : n = 0
  · subst h0
    go_enter Tryz.func85, Tryz.ntmps85
    go_wp2
    go_ret
    exact ⟨rfl, rfl⟩
  · have d1 : (n == 0) = false := by simp [h0]
    have HR : Hid (inR n 0 1 = (n == 1)) := Lib.hid (by rw [Bool.eq_iff_iff, inR_t]; simp; omega)
    clear h0
    go_enter Tryz.func85, Tryz.ntmps85
    go_wp2
    go_ret
    exact ⟨by rw [HR.out]; rfl, rfl⟩
end Go.Proofs.YthmeifdgkodjlaaGreatDoor

/- link.Check. Condition: the length. -/
namespace Go.Proofs.YthmeifdgkodjlaaGreatDoor
open Go.RowKit

theorem grown_only2 {P : Program} {f : FuncId} {args : Array Value} {w : World} {v : Value} (h : ∀ w', Only [] w w' → Calls P f args w' fun e w'' => e = .returned v ∧ Only [] w' w'') :
    ∀ w', (∃ x, w' = plus w x) → Calls P f args w' fun e w'' => e = .returned v ∧ ∃ x, w'' = plus w x :=
  grown_calls fun w' hw' => (h w' (only_of_plus hw')).mono fun _ _ ⟨he, ho⟩ => ⟨he, ho.nil_below⟩
theorem wpQuiet_enter_w {P : Program} {ops : Array Oper} {C : World → Prop} {Q : Act → Prop} {a : Act} {o : Oper} {rest : List Oper} (hg : Region.wanted o (yielded ops a.tmps) = true) (f : FuncId) (args : Array Value)
    (hrun : ∀ w, (execOp a.eval o).run P w = .ok (.enter f args) w) (v : Value) (hcall : ∀ w', C w' → Calls P f args w' fun e w'' => e = .returned v ∧ C w'')
    (h : wpQuiet P ops C Q rest (a.put o.dst v)) : wpQuiet P ops C Q (o :: rest) a := by
  refine wpQuiet_step fun K hK => ?_
  rw [hg]
  simp only [if_true]
  refine ⟨v, fun w' hw' => ?_, hK _ h⟩
  unfold Oper.quietAt
  rw [hrun w']
  exact ⟨rfl, hcall w' hw'⟩
def eq2 (a b c d : Int) : Bool := a == c && b == d
/-- two arrays of two ints are compared -/
@[go_sem] theorem a2_equal (a1 a2 b1 b2 : Int) (w : World) : (Op.equalIn 10000 49 (.agg #[.int .i64 a1, .int .i64 a2]) (.agg #[.int .i64 b1, .int .i64 b2])).run Tryz.prog w = .ok (eq2 a1 a2 b1 b2) w := by
  cases hi : Tryz.prog.info? 3 with
  | none => exact absurd (hi.symm.trans rfl) (by have h : (Tryz.prog.info? 3).isSome = true := by kernel_rfl
                                                 rw [hi] at h; cases h)
  | some i =>
    rw [show (10000 : Nat) = 9999 + 1 from rfl, run_equalIn_array w 9999 _ _ Tryz.underlying49 hi]
    have hc : Tryz.prog.cellsOf 3 = 1 := by kernel_rfl
    rw [hc]
    unfold eq2
    simp [Op.eqItems, go_sem, List.range_succ]
    by_cases h1 : a1 = b1 <;> by_cases h2 : a2 = b2 <;> simp [h1, h2]
def chC (s : Ch) : List Value := [.int .i64 s.a, .int .i64 s.d, .int .i64 s.y]
theorem chC_len (s : Ch) : (chC s).length = 3 := rfl
theorem chC_one (s : Ch) : ∀ u ∈ chC s, u.oneCell' = true := by simp [chC, Value.oneCell']
theorem VRow.ch {w wr : World} {cap k : Nat} {p : Option Addr} {l : List Ch} (hv : VRow chC 3 w p l.length cap l) (ho : Only [] w wr) (hk : k < l.length) :
    ∃ bk off, p = some ⟨bk, off, none⟩ ∧ wr.cell? ⟨bk, off + k * 3, none⟩ = some (.int .i64 (l.getD k ch0).a) ∧ wr.cell? ⟨bk, off + k * 3 + 1, none⟩ = some (.int .i64 (l.getD k ch0).d) ∧ wr.cell? ⟨bk, off + k * 3 + 2, none⟩ = some (.int .i64 (l.getD k ch0).y) ∧ bk < wr.heap.size := by
  obtain ⟨bk, off, hp, hb, hc⟩ := hv.at_ ho (getD_some ch0 hk)
  exact ⟨bk, off, hp, hc 0 _ rfl, hc 1 _ rfl, hc 2 _ rfl, hb⟩
theorem clp_b {n : Int} : (clp n == n) = inR n 0 10000000000 := by rw [Bool.eq_iff_iff, beq_iff_eq]; exact clp_eq
theorem eq2_clp (a b : Int) : eq2 (clp a) (clp b) a b = (inR a 0 10000000000 && inR b 0 10000000000) := by unfold eq2; rw [clp_b, clp_b]
def LcI (w1 : World) (l : List Ch) (vi : Value) (wr : World) : Prop :=
  ∃ k : Nat, k ≤ l.length ∧ vi = .int .i64 k ∧ (l.take k).all chR = true ∧ Only [] w1 wr
def LcJ (w1 : World) (l : List Ch) (vi : Value) (wr : World) : Prop :=
  ∃ k : Nat, 1 ≤ k ∧ vi = .int .i64 k ∧ fe (chO l) (l.length - 1) 1 = fe (chO l) (l.length - k) k ∧ Only [] w1 wr
/-- the value of a link in package link -/
def lkV (l : Lk) (p : Option Addr) (n cap : Nat) : Value := .agg #[.int .i64 l.d0, .int .i64 l.d1, .int .i64 l.v0, .int .i64 l.v1, .int .i64 l.lo, .int .u64 l.sd, .slice p n cap]
set_option maxRecDepth 100000 in
set_option maxHeartbeats 4000000 in
theorem pLink {w : World} {p : Option Addr} {n cap : Nat} (l : Lk) (hv : VRow chC 3 w p n cap l.ch) (hn : n ≤ 100000) :
    Calls Tryz.prog 47 #[lkV l p n cap] w fun e w' => e = .returned (.int .i64 (linkE l)) ∧ Only [] w w' := by
  have hl := hv.len
  subst hl
  have HV := Lib.hid hv; clear hv
  unfold lkV
  go_enter Tryz.func47, Tryz.ntmps47
  go_upto_region 1 with (fail)
  refine alloc_abs (G := fun w0 => Code.wp _ _ _ _ w0) ?_
  intro w1 hb1 ho1 hs1
  have B1 := Lib.hid hb1; have O1 := Lib.hid ho1
  clear hb1 ho1 hs1
  have g0 := cell_got B1.out 0; have g1 := cell_got B1.out 1; have g2 := cell_got B1.out 2; have g3 := cell_got B1.out 3; have g4 := cell_got B1.out 4; have g6 := cell_got B1.out 6
  have l0 := got_lt B1.out
  have hd := eq2_clp l.d0 l.d1; have hvv := eq2_clp l.v0 l.v1
  by_cases h1 : (inR l.d0 0 10000000000 && inR l.d1 0 10000000000) = true
  · have q1 : eq2 (clp l.d0) (clp l.d1) l.d0 l.d1 = true := hd.trans h1
    clear hd
    by_cases h2 : (inR l.v0 0 10000000000 && inR l.v1 0 10000000000) = true
    · have q2 : eq2 (clp l.v0) (clp l.v1) l.v0 l.v1 = true := hvv.trans h2
      clear hvv
      by_cases h3 : inR l.lo 0 1000 = true
      · obtain ⟨p0, p1⟩ := inR_t.1 h3
        have e1 : decide (l.lo < 0) = false := by simp; omega
        have e2 : decide (l.lo > 1000) = false := by simp; omega
        have e3 : decide (1000 < l.lo) = false := by simp; omega
        have HR : Hid (linkE l = if l.ch.all chR = true then (if 16 < l.ch.length then 6 else fe (chO l.ch) (l.ch.length - 1) 1) else 3) := Lib.hid (by unfold linkE; rw [if_pos (by unfold lkR; rw [h1, h2, h3]; rfl)])
        clear h1 h2 h3
        refine wp_region_grown [0, 1, 2, 3, 4, 5, 6, 7, 8, 9, 10, 11, 12, 13, 14, 15, 16, 17, 18, 19, 20, 21, 22, 23] [] (by kernel_rfl) (by kernel_rfl) ?_
        simp only [pick, List.map_cons, List.map_nil, List.getD_cons_succ, List.getD_cons_zero]
        iterate 2 (refine wpQuiet_step (fun K hK => ?_); go_simp; refine hK _ ?_; clear hK K)
        refine wpQuiet_enter_w (by kernel_rfl) 83 #[.agg #[.int .i64 l.d0, .int .i64 l.d1]] (fun _ => by kernel_rfl) (.agg #[.int .i64 (clp l.d0), .int .i64 (clp l.d1)]) (grown_only2 fun w' ho' => pLimited _ _ w') ?_
        iterate 3 (refine wpQuiet_step (fun K hK => ?_); go_simp; refine hK _ ?_; clear hK K)
        repeat (go_big_quiet_step (fail))
        refine wpQuiet_enter_w (by kernel_rfl) 83 #[.agg #[.int .i64 l.v0, .int .i64 l.v1]] (fun _ => by kernel_rfl) (.agg #[.int .i64 (clp l.v0), .int .i64 (clp l.v1)]) (grown_only2 fun w' ho' => pLimited _ _ w') ?_
        iterate 3 (refine wpQuiet_step (fun K hK => ?_); go_simp; refine hK _ ?_; clear hK K)
        repeat (go_big_quiet_step (fail))
        refine wpQuiet_nil ?_
        intro w2 hw2
        have O2 := Lib.hid (O1.out.nil_trans (only_of_plus hw2)); have B2 := Lib.hid ((only_of_plus hw2).got B1.out (by simp))
        clear hw2 g0 g1 g2 g3 g4 g6 l0
        clear e1 e2 e3 p0 p1 q1 q2
        have g6 := cell_got B2.out 6; have l0 := got_lt B2.out
        go_wp2
        go_loopw [33] (fun vi wr => LcI w2 l.ch vi wr) (fun vi _ => l.ch.length - (intOf vi).toNat)
        case atStart => exact ⟨0, Nat.zero_le _, rfl, rfl, Only.refl _ _⟩
        case round =>
          clear g6 l0
          obtain ⟨k, hk, rfl, hall, ho⟩ := hrel
          have HA := Lib.hid hall; have OO := Lib.hid ho; have OA := Lib.hid (O2.out.nil_trans ho); have B3 := Lib.hid (ho.got B2.out (by simp))
          clear hall ho
          by_cases hlt : k < l.ch.length
          · obtain ⟨bk, off, hp, c0, c1, c2, lb⟩ := HV.out.ch OA.out hlt
            subst hp
            have hgk := getD_some ch0 hlt
            have hmem := List.mem_of_getElem? hgk
            have htk : (l.ch.take (k + 1)).all chR = chR (l.ch.getD k ch0) := by rw [List.take_add_one, hgk]; simp [List.all_append, HA.out]
            have HNO : Hid (chR (l.ch.getD k ch0) = false → linkE l = 3) := Lib.hid (fun h => by rw [HR.out, if_neg (fun hq => by rw [List.all_eq_true] at hq; rw [hq _ hmem] at h; cases h)])
            generalize l.ch.getD k ch0 = c at c0 c1 c2 htk HNO hgk hmem
            have HTK := Lib.hid htk
            clear hgk hmem htk
            go_upto_region 6 with (fail)
            refine alloc_abs (G := fun w0 => Code.wp _ _ _ _ w0) ?_
            intro w4 hb4 ho4 hs4
            have E4 := Lib.hid hb4; have O4 := Lib.hid (OO.out.nil_trans ho4); have OB := Lib.hid (OA.out.nil_trans ho4)
            clear hb4 ho4 hs4 c0 c1 c2 lb
            have c0 := cell_got E4.out 0; have c1 := cell_got E4.out 1; have c2 := cell_got E4.out 2; have le := got_lt E4.out
            go_wp2_with fail
            refine (pTime c.a w4).mono ?_
            rintro e w5 ⟨rfl, rfl⟩
            by_cases ha : inR c.a 0 1125899906842624 = true
            · rw [ha]
              go_wp2_with fail
              refine (pDir c.d w4).mono ?_
              rintro e w5 ⟨rfl, rfl⟩
              by_cases hd : inR c.d 0 1 = true
              · rw [hd]
                by_cases hy : inR c.y 0 10000000000 = true
                · obtain ⟨p0, p1⟩ := inR_t.1 hy
                  have e1 : decide (c.y < 0) = false := by simp; omega
                  have e2 : decide (c.y > 10000000000) = false := by simp; omega
                  have e3 : decide (10000000000 < c.y) = false := by simp; omega
                  have HX := Lib.hid (HTK.out.trans (show chR c = true by unfold chR; rw [ha, hd, hy]; rfl))
                  clear ha hd hy
                  go_wp2
                  go_roundw
                  case rel => exact ⟨k + 1, by omega, by go_num, HX.out, O4.out⟩
                  case measure => first | (simp [intOf]; done) | (simp [intOf]; omega)
                · have HX := Lib.hid (HNO.out (show chR c = false by unfold chR; rw [Bool.not_eq_true] at hy; rw [ha, hd, hy]; rfl))
                  rcases inR_no hy with hq | ⟨hq, hr⟩
                  · have e1 : decide (c.y < 0) = true := by simp; omega
                    clear ha hd hy
                    go_wp2
                    go_ret
                    exact ⟨by rw [HX.out]; rfl, OB.out⟩
                  · have e1 : decide (c.y < 0) = false := by simp; omega
                    have e2 : decide (c.y > 10000000000) = true := by simp; omega
                    have e3 : decide (10000000000 < c.y) = true := by simp; omega
                    clear ha hd hy
                    go_wp2
                    go_ret
                    exact ⟨by rw [HX.out]; rfl, OB.out⟩
              · rw [Bool.not_eq_true] at hd
                rw [hd]
                have HX := Lib.hid (HNO.out (show chR c = false by unfold chR; rw [ha, hd]; rfl))
                clear ha hd
                go_wp2
                go_ret
                exact ⟨by rw [HX.out]; rfl, OB.out⟩
            · rw [Bool.not_eq_true] at ha
              rw [ha]
              have HX := Lib.hid (HNO.out (show chR c = false by unfold chR; rw [ha]; rfl))
              clear ha
              go_wp2
              go_ret
              exact ⟨by rw [HX.out]; rfl, OB.out⟩
          · obtain rfl : k = l.ch.length := by omega
            have hal := HA.out
            rw [List.take_of_length_le (Nat.le_refl _)] at hal
            have hr2 := HR.out
            rw [if_pos hal] at hr2
            have g6 := cell_got B3.out 6; have l0 := got_lt B3.out
            by_cases h16 : 16 < l.ch.length
            · have d2 : decide ((l.ch.length : Int) > 16) = true := by simp; omega
              have d3 : decide (16 < (l.ch.length : Int)) = true := by simp; omega
              have HX : Hid (linkE l = 6) := Lib.hid (by rw [hr2, if_pos h16])
              clear hr2 hal
              go_wp2
              go_ret
              exact ⟨by rw [HX.out]; rfl, OA.out⟩
            · have d2 : decide ((l.ch.length : Int) > 16) = false := by simp; omega
              have d3 : decide (16 < (l.ch.length : Int)) = false := by simp; omega
              have HX : Hid (linkE l = fe (chO l.ch) (l.ch.length - 1) 1) := Lib.hid (by rw [hr2, if_neg h16])
              clear hr2 hal
              obtain ⟨wo, hwo⟩ : ∃ wo : World, wo = wr := ⟨_, rfl⟩
              subst hwo
              go_wp2
              go_loopw [5] (fun vi wr => LcJ wo l.ch vi wr) (fun vi _ => l.ch.length - (intOf vi).toNat)
              case atStart => exact ⟨1, Nat.le_refl _, rfl, rfl, Only.refl _ _⟩
              case round =>
                clear g6 l0 d2 d3
                obtain ⟨k, hk, rfl, hfe, ho⟩ := hrel
                have HF := Lib.hid hfe; have OO' := Lib.hid ho; have OA' := Lib.hid (OA.out.nil_trans ho); have B4 := Lib.hid (ho.got B3.out (by simp))
                clear hfe ho
                have g6 := cell_got B4.out 6; have l0 := got_lt B4.out
                by_cases hlt : k < l.ch.length
                · obtain ⟨bk, off, hp, c0, c1, c2, lb⟩ := HV.out.ch OA'.out hlt
                  obtain ⟨bk', off', hp', p0, p1, p2, lb'⟩ := HV.out.ch OA'.out (show k - 1 < l.ch.length by omega)
                  subst hp
                  cases hp'
                  clear p1 p2 lb' c1 c2
                  have hE : chO l.ch k = if (l.ch.getD k ch0).a < (l.ch.getD (k - 1) ch0).a then 12 else 0 := rfl
                  generalize l.ch.getD k ch0 = s at c0 hE
                  generalize l.ch.getD (k - 1) ch0 = t at p0 hE
                  have hi1 : (1 : Int) ≤ (k : Int) := by omega
                  have hi2 : (k : Int) - 1 < (l.ch.length : Int) := by omega
                  have hi3 : IntKind.i64.wrap ((k : Int) - 1) = (k : Int) - 1 := IntWalk.i64_in _ (by omega)
                  have hi4 : ((k : Int) - 1).toNat = k - 1 := by omega
                  by_cases hc : s.a < t.a
                  · have z1 : decide (s.a < t.a) = true := by simp [hc]
                    rw [if_pos hc] at hE
                    have HY : Hid (linkE l = 12) := Lib.hid (by rw [HX.out, HF.out, fe_no hlt (by rw [hE]; decide), hE])
                    clear hE hc
                    go_wp2_with fail
                    go_quiet (fail)
                    go_wp2
                    go_ret
                    exact ⟨by rw [HY.out]; rfl, OA'.out.nil_trans (only_dr2 _ _)⟩
                  · have z1 : decide (s.a < t.a) = false := by simpa using hc
                    rw [if_neg hc] at hE
                    have HY := Lib.hid (HF.out.trans (fe_yes hlt hE))
                    clear hE hc
                    go_wp2_with fail
                    go_quiet (fail)
                    clear hi3 hi4
                    go_wp2
                    go_roundw
                    case rel => exact ⟨k + 1, by omega, by go_num, HY.out, OO'.out.nil_trans (only_dr2 _ _)⟩
                    case measure => first | (simp [intOf]; done) | (simp [intOf]; omega)
                · have HY : Hid (linkE l = 0) := Lib.hid (by rw [HX.out, HF.out, fe_end (by omega)])
                  have n1 : decide ((k : Int) < (l.ch.length : Int)) = false := by simp; omega
                  have n2 : decide (k < l.ch.length) = false := by simp; omega
                  go_wp2
                  go_ret
                  exact ⟨by rw [HY.out]; rfl, OA'.out⟩
      · have e0 := h3
        rw [Bool.not_eq_true] at e0
        rcases inR_no h3 with hq | ⟨hq, hr⟩
        · have e1 : decide (l.lo < 0) = true := by simp; omega
          have HR : Hid (linkE l = 3) := Lib.hid (by unfold linkE; rw [if_neg (by unfold lkR; rw [e0]; simp)])
          refine wp_region_grown [0, 1, 2, 3, 4, 5, 6, 7, 8, 9, 10, 11, 12, 13, 14, 15, 16, 17, 18, 19, 20, 21, 22, 23] [] (by kernel_rfl) (by kernel_rfl) ?_
          simp only [pick, List.map_cons, List.map_nil, List.getD_cons_succ, List.getD_cons_zero]
          iterate 2 (refine wpQuiet_step (fun K hK => ?_); go_simp; refine hK _ ?_; clear hK K)
          refine wpQuiet_enter_w (by kernel_rfl) 83 #[.agg #[.int .i64 l.d0, .int .i64 l.d1]] (fun _ => by kernel_rfl) (.agg #[.int .i64 (clp l.d0), .int .i64 (clp l.d1)]) (grown_only2 fun w' ho' => pLimited _ _ w') ?_
          iterate 3 (refine wpQuiet_step (fun K hK => ?_); go_simp; refine hK _ ?_; clear hK K)
          repeat (go_big_quiet_step (fail))
          refine wpQuiet_enter_w (by kernel_rfl) 83 #[.agg #[.int .i64 l.v0, .int .i64 l.v1]] (fun _ => by kernel_rfl) (.agg #[.int .i64 (clp l.v0), .int .i64 (clp l.v1)]) (grown_only2 fun w' ho' => pLimited _ _ w') ?_
          iterate 3 (refine wpQuiet_step (fun K hK => ?_); go_simp; refine hK _ ?_; clear hK K)
          repeat (go_big_quiet_step (fail))
          refine wpQuiet_nil ?_
          intro w2 hw2
          have O2 := Lib.hid (O1.out.nil_trans (only_of_plus hw2)); have B2 := Lib.hid ((only_of_plus hw2).got B1.out (by simp))
          clear hw2 g0 g1 g2 g3 g4 g6 l0
          go_wp2
          go_ret
          exact ⟨by rw [HR.out]; rfl, O2.out⟩
        · have e1 : decide (l.lo < 0) = false := by simp; omega
          have e2 : decide (l.lo > 1000) = true := by simp; omega
          have e3 : decide (1000 < l.lo) = true := by simp; omega
          have HR : Hid (linkE l = 3) := Lib.hid (by unfold linkE; rw [if_neg (by unfold lkR; rw [e0]; simp)])
          refine wp_region_grown [0, 1, 2, 3, 4, 5, 6, 7, 8, 9, 10, 11, 12, 13, 14, 15, 16, 17, 18, 19, 20, 21, 22, 23] [] (by kernel_rfl) (by kernel_rfl) ?_
          simp only [pick, List.map_cons, List.map_nil, List.getD_cons_succ, List.getD_cons_zero]
          iterate 2 (refine wpQuiet_step (fun K hK => ?_); go_simp; refine hK _ ?_; clear hK K)
          refine wpQuiet_enter_w (by kernel_rfl) 83 #[.agg #[.int .i64 l.d0, .int .i64 l.d1]] (fun _ => by kernel_rfl) (.agg #[.int .i64 (clp l.d0), .int .i64 (clp l.d1)]) (grown_only2 fun w' ho' => pLimited _ _ w') ?_
          iterate 3 (refine wpQuiet_step (fun K hK => ?_); go_simp; refine hK _ ?_; clear hK K)
          repeat (go_big_quiet_step (fail))
          refine wpQuiet_enter_w (by kernel_rfl) 83 #[.agg #[.int .i64 l.v0, .int .i64 l.v1]] (fun _ => by kernel_rfl) (.agg #[.int .i64 (clp l.v0), .int .i64 (clp l.v1)]) (grown_only2 fun w' ho' => pLimited _ _ w') ?_
          iterate 3 (refine wpQuiet_step (fun K hK => ?_); go_simp; refine hK _ ?_; clear hK K)
          repeat (go_big_quiet_step (fail))
          refine wpQuiet_nil ?_
          intro w2 hw2
          have O2 := Lib.hid (O1.out.nil_trans (only_of_plus hw2)); have B2 := Lib.hid ((only_of_plus hw2).got B1.out (by simp))
          clear hw2 g0 g1 g2 g3 g4 g6 l0
          go_wp2
          go_ret
          exact ⟨by rw [HR.out]; rfl, O2.out⟩
    · rw [Bool.not_eq_true] at h2
      have q2 : eq2 (clp l.v0) (clp l.v1) l.v0 l.v1 = false := hvv.trans h2
      clear hvv
      have HR : Hid (linkE l = 3) := Lib.hid (by unfold linkE; rw [if_neg (by unfold lkR; rw [h2]; simp)])
      refine wp_region_grown [0, 1, 2, 3, 4, 5, 6, 7, 8, 9, 10, 11, 12, 13, 14, 15, 16, 17, 18, 19, 20, 21, 22, 23] [] (by kernel_rfl) (by kernel_rfl) ?_
      simp only [pick, List.map_cons, List.map_nil, List.getD_cons_succ, List.getD_cons_zero]
      iterate 2 (refine wpQuiet_step (fun K hK => ?_); go_simp; refine hK _ ?_; clear hK K)
      refine wpQuiet_enter_w (by kernel_rfl) 83 #[.agg #[.int .i64 l.d0, .int .i64 l.d1]] (fun _ => by kernel_rfl) (.agg #[.int .i64 (clp l.d0), .int .i64 (clp l.d1)]) (grown_only2 fun w' ho' => pLimited _ _ w') ?_
      iterate 3 (refine wpQuiet_step (fun K hK => ?_); go_simp; refine hK _ ?_; clear hK K)
      repeat (go_big_quiet_step (fail))
      refine wpQuiet_enter_w (by kernel_rfl) 83 #[.agg #[.int .i64 l.v0, .int .i64 l.v1]] (fun _ => by kernel_rfl) (.agg #[.int .i64 (clp l.v0), .int .i64 (clp l.v1)]) (grown_only2 fun w' ho' => pLimited _ _ w') ?_
      iterate 3 (refine wpQuiet_step (fun K hK => ?_); go_simp; refine hK _ ?_; clear hK K)
      repeat (go_big_quiet_step (fail))
      refine wpQuiet_nil ?_
      intro w2 hw2
      have O2 := Lib.hid (O1.out.nil_trans (only_of_plus hw2)); have B2 := Lib.hid ((only_of_plus hw2).got B1.out (by simp))
      clear hw2 g0 g1 g2 g3 g4 g6 l0
      go_wp2
      go_ret
      exact ⟨by rw [HR.out]; rfl, O2.out⟩
  · rw [Bool.not_eq_true] at h1
    have q1 : eq2 (clp l.d0) (clp l.d1) l.d0 l.d1 = false := hd.trans h1
    clear hd hvv
    have HR : Hid (linkE l = 3) := Lib.hid (by unfold linkE; rw [if_neg (by unfold lkR; rw [h1]; simp)])
    refine wp_region_grown [0, 1, 2, 3, 4, 5, 6, 7, 8, 9, 10, 11, 12, 13, 14, 15, 16, 17, 18, 19, 20, 21, 22, 23] [] (by kernel_rfl) (by kernel_rfl) ?_
    simp only [pick, List.map_cons, List.map_nil, List.getD_cons_succ, List.getD_cons_zero]
    iterate 2 (refine wpQuiet_step (fun K hK => ?_); go_simp; refine hK _ ?_; clear hK K)
    refine wpQuiet_enter_w (by kernel_rfl) 83 #[.agg #[.int .i64 l.d0, .int .i64 l.d1]] (fun _ => by kernel_rfl) (.agg #[.int .i64 (clp l.d0), .int .i64 (clp l.d1)]) (grown_only2 fun w' ho' => pLimited _ _ w') ?_
    iterate 3 (refine wpQuiet_step (fun K hK => ?_); go_simp; refine hK _ ?_; clear hK K)
    repeat (go_big_quiet_step (fail))
    refine wpQuiet_nil ?_
    intro w2 hw2
    have O2 := Lib.hid (O1.out.nil_trans (only_of_plus hw2)); have B2 := Lib.hid ((only_of_plus hw2).got B1.out (by simp))
    clear hw2 g0 g1 g2 g3 g4 g6 l0
    go_wp2
    go_ret
    exact ⟨by rw [HR.out]; rfl, O2.out⟩
end Go.Proofs.YthmeifdgkodjlaaGreatDoor

/- fault.ranges and fault.Check. Condition: the length. -/
namespace Go.Proofs.YthmeifdgkodjlaaGreatDoor
open Go.RowKit

theorem wpList_insert_F {K V : Type} [DecidableEq K] {kE : K → Value} {vE : V → Value} {P : Program} {w : World} {ops : Array Oper} {rest : List Oper} {o : Oper} {a : Act} {Q : Exit → Act → World → Prop} (hg : o.guard = none) (m x v : Operand) (t : TypeId) (hop : o.op = Op.insert t m x v)
    (KT ET : TypeId) (O : KeyOK P KT kE) (ht : P.underlying t = some (.map KT ET)) (b : Nat) (f : K → Option V) (hm : a.eval m = .map (some b)) (h : MapF kE vE w b f) (k : K) (hx : a.eval x = kE k) (u : V) (hv : a.eval v = vE u)
    (hK : ∀ w', MapF kE vE w' b (fun k' => if k' = k then some u else f k') → Only [b] w w' → w'.heap.size = w.heap.size → wpList P ops Q rest (a.put o.dst undef) w') : wpList P ops Q (o :: rest) a w := by
  refine wpList_plain hg fun K' hK' => ?_
  obtain ⟨w', hrun, h1, h2, h3⟩ := run_update_F O ht h k u
  unfold Oper.wp
  simp only [execOp, hop, hm, hx, hv, Sem.run_bind, hrun, Result.andThen_ok, Sem.run_pure, Oper.upon_skip]
  exact hK' _ _ (hK w' h1 h2 h3)
def rgV (r : Int × Int) : Value := .agg #[.int .i64 r.1, .int .i64 r.2]
def rgF (k : Int) : Option (Int × Int) :=
  if k = 9 then some (0, 1125899906842624) else if k = 8 then some (0, 0) else if k = 7 then some (0, 0) else if k = 6 then some (0, 3) else if k = 5 then some (1, 15)
  else if k = 4 then some (0, 0) else if k = 3 then some (-1125899906842624, 1125899906842624) else if k = 2 then some (-1125899906842624, 1125899906842624) else if k = 1 then some (0, 0) else none
set_option maxRecDepth 100000 in
set_option maxHeartbeats 4000000 in
theorem pRanges (w : World) : Calls Tryz.prog 48 #[] w fun e w' => e = .returned (.map (some w.heap.size)) ∧ MapF (fun n : Int => Value.int .i64 n) rgV w' w.heap.size rgF ∧ Only [] w w' := by
  have hmm := @run_makeMap Tryz.prog
  go_enter Tryz.func48, Tryz.ntmps48
  go_upto_region 1 with (fail)
  refine wp_region_lit ?_
  refine wpList_plain rfl fun K hK => ?_
  go_simp
  refine hK _ _ ?_
  clear hK K hmm
  refine alloc_abs (G := fun w0 => wpList _ _ _ _ _ w0) ?_
  intro w0 hb0 ho0 hs0
  have M0 := Lib.hid (mapF_new (kE := fun n : Int => Value.int .i64 n) (vE := rgV) hb0); have O0 := Lib.hid ho0
  clear hb0 ho0 hs0
  refine wpList_plain rfl fun K hK => ?_
  go_simp
  refine hK _ _ ?_
  clear hK K
  refine wpList_insert_F (kE := fun n : Int => Value.int .i64 n) (vE := rgV) rfl _ _ _ 103 rfl 3 106 (key_int Tryz.underlying3) Tryz.underlying103 w.heap.size _ rfl M0.out 1 rfl ((0), (0)) rfl ?_
  intro w1 hm1 ho1 hs1
  have M1 := Lib.hid hm1; have O1 := Lib.hid (O0.out.trans ho1 (fun x hx => .inr (by simp at hx; omega)))
  clear hm1 ho1 hs1 M0 O0
  refine wpList_plain rfl fun K hK => ?_
  go_simp
  refine hK _ _ ?_
  clear hK K
  refine wpList_insert_F (kE := fun n : Int => Value.int .i64 n) (vE := rgV) rfl _ _ _ 103 rfl 3 106 (key_int Tryz.underlying3) Tryz.underlying103 w.heap.size _ rfl M1.out 2 rfl ((-1125899906842624), (1125899906842624)) rfl ?_
  intro w2 hm2 ho2 hs2
  have M2 := Lib.hid hm2; have O2 := Lib.hid (O1.out.trans ho2 (fun x hx => .inr (by simp at hx; omega)))
  clear hm2 ho2 hs2 M1 O1
  refine wpList_plain rfl fun K hK => ?_
  go_simp
  refine hK _ _ ?_
  clear hK K
  refine wpList_insert_F (kE := fun n : Int => Value.int .i64 n) (vE := rgV) rfl _ _ _ 103 rfl 3 106 (key_int Tryz.underlying3) Tryz.underlying103 w.heap.size _ rfl M2.out 3 rfl ((-1125899906842624), (1125899906842624)) rfl ?_
  intro w3 hm3 ho3 hs3
  have M3 := Lib.hid hm3; have O3 := Lib.hid (O2.out.trans ho3 (fun x hx => .inr (by simp at hx; omega)))
  clear hm3 ho3 hs3 M2 O2
  refine wpList_plain rfl fun K hK => ?_
  go_simp
  refine hK _ _ ?_
  clear hK K
  refine wpList_insert_F (kE := fun n : Int => Value.int .i64 n) (vE := rgV) rfl _ _ _ 103 rfl 3 106 (key_int Tryz.underlying3) Tryz.underlying103 w.heap.size _ rfl M3.out 4 rfl ((0), (0)) rfl ?_
  intro w4 hm4 ho4 hs4
  have M4 := Lib.hid hm4; have O4 := Lib.hid (O3.out.trans ho4 (fun x hx => .inr (by simp at hx; omega)))
  clear hm4 ho4 hs4 M3 O3
  refine wpList_plain rfl fun K hK => ?_
  go_simp
  refine hK _ _ ?_
  clear hK K
  refine wpList_insert_F (kE := fun n : Int => Value.int .i64 n) (vE := rgV) rfl _ _ _ 103 rfl 3 106 (key_int Tryz.underlying3) Tryz.underlying103 w.heap.size _ rfl M4.out 5 rfl ((1), (15)) rfl ?_
  intro w5 hm5 ho5 hs5
  have M5 := Lib.hid hm5; have O5 := Lib.hid (O4.out.trans ho5 (fun x hx => .inr (by simp at hx; omega)))
  clear hm5 ho5 hs5 M4 O4
  refine wpList_plain rfl fun K hK => ?_
  go_simp
  refine hK _ _ ?_
  clear hK K
  refine wpList_insert_F (kE := fun n : Int => Value.int .i64 n) (vE := rgV) rfl _ _ _ 103 rfl 3 106 (key_int Tryz.underlying3) Tryz.underlying103 w.heap.size _ rfl M5.out 6 rfl ((0), (3)) rfl ?_
  intro w6 hm6 ho6 hs6
  have M6 := Lib.hid hm6; have O6 := Lib.hid (O5.out.trans ho6 (fun x hx => .inr (by simp at hx; omega)))
  clear hm6 ho6 hs6 M5 O5
  refine wpList_plain rfl fun K hK => ?_
  go_simp
  refine hK _ _ ?_
  clear hK K
  refine wpList_insert_F (kE := fun n : Int => Value.int .i64 n) (vE := rgV) rfl _ _ _ 103 rfl 3 106 (key_int Tryz.underlying3) Tryz.underlying103 w.heap.size _ rfl M6.out 7 rfl ((0), (0)) rfl ?_
  intro w7 hm7 ho7 hs7
  have M7 := Lib.hid hm7; have O7 := Lib.hid (O6.out.trans ho7 (fun x hx => .inr (by simp at hx; omega)))
  clear hm7 ho7 hs7 M6 O6
  refine wpList_plain rfl fun K hK => ?_
  go_simp
  refine hK _ _ ?_
  clear hK K
  refine wpList_insert_F (kE := fun n : Int => Value.int .i64 n) (vE := rgV) rfl _ _ _ 103 rfl 3 106 (key_int Tryz.underlying3) Tryz.underlying103 w.heap.size _ rfl M7.out 8 rfl ((0), (0)) rfl ?_
  intro w8 hm8 ho8 hs8
  have M8 := Lib.hid hm8; have O8 := Lib.hid (O7.out.trans ho8 (fun x hx => .inr (by simp at hx; omega)))
  clear hm8 ho8 hs8 M7 O7
  refine wpList_plain rfl fun K hK => ?_
  go_simp
  refine hK _ _ ?_
  clear hK K
  refine wpList_insert_F (kE := fun n : Int => Value.int .i64 n) (vE := rgV) rfl _ _ _ 103 rfl 3 106 (key_int Tryz.underlying3) Tryz.underlying103 w.heap.size _ rfl M8.out 9 rfl ((0), (1125899906842624)) rfl ?_
  intro w9 hm9 ho9 hs9
  have M9 := Lib.hid hm9; have O9 := Lib.hid (O8.out.trans ho9 (fun x hx => .inr (by simp at hx; omega)))
  clear hm9 ho9 hs9 M8 O8
  go_wp2
  go_ret
  exact ⟨rfl, M9.out, O9.out⟩
end Go.Proofs.YthmeifdgkodjlaaGreatDoor

/- fault.Check. Condition: the length. -/
namespace Go.Proofs.YthmeifdgkodjlaaGreatDoor
open Go.RowKit

def ftC (s : Ft) : List Value := [.int .i64 s.n, .int .i64 s.f, .int .i64 s.t, .int .i64 s.k, .int .i64 s.v]
theorem ftC_len (s : Ft) : (ftC s).length = 5 := rfl
theorem ftC_one (s : Ft) : ∀ u ∈ ftC s, u.oneCell' = true := by simp [ftC, Value.oneCell']
theorem VRow.ft {w wr : World} {cap k : Nat} {p : Option Addr} {l : List Ft} (hv : VRow ftC 5 w p l.length cap l) (ho : Only [] w wr) (hk : k < l.length) :
    ∃ bk off, p = some ⟨bk, off, none⟩ ∧ wr.cell? ⟨bk, off + k * 5, none⟩ = some (.int .i64 (l.getD k ft0).n) ∧ wr.cell? ⟨bk, off + k * 5 + 1, none⟩ = some (.int .i64 (l.getD k ft0).f) ∧ wr.cell? ⟨bk, off + k * 5 + 2, none⟩ = some (.int .i64 (l.getD k ft0).t) ∧ wr.cell? ⟨bk, off + k * 5 + 3, none⟩ = some (.int .i64 (l.getD k ft0).k) ∧ wr.cell? ⟨bk, off + k * 5 + 4, none⟩ = some (.int .i64 (l.getD k ft0).v) ∧ bk < wr.heap.size := by
  obtain ⟨bk, off, hp, hb, hc⟩ := hv.at_ ho (getD_some ft0 hk)
  exact ⟨bk, off, hp, hc 0 _ rfl, hc 1 _ rfl, hc 2 _ rfl, hc 3 _ rfl, hc 4 _ rfl, hb⟩
theorem rg_some {k : Int} (h : inR k 1 9 = true) (v : Int) : ∃ r, rgF k = some r ∧ fits k v = inR v r.1 r.2 := by
  have hb := inR_t.1 h
  have hc : k = 1 ∨ k = 2 ∨ k = 3 ∨ k = 4 ∨ k = 5 ∨ k = 6 ∨ k = 7 ∨ k = 8 ∨ k = 9 := by omega
  have hz : decide (v = 0) = inR v 0 0 := by rw [Bool.eq_iff_iff, inR_t]; simp; omega
  rcases hc with rfl | rfl | rfl | rfl | rfl | rfl | rfl | rfl | rfl
  · exact ⟨_, rfl, hz⟩
  · exact ⟨_, rfl, rfl⟩
  · exact ⟨_, rfl, rfl⟩
  · exact ⟨_, rfl, hz⟩
  · exact ⟨_, rfl, rfl⟩
  · exact ⟨_, rfl, rfl⟩
  · exact ⟨_, rfl, hz⟩
  · exact ⟨_, rfl, hz⟩
  · exact ⟨_, rfl, rfl⟩
theorem rg_none {k : Int} (h : ¬ inR k 1 9 = true) : rgF k = none := by
  have hb : ¬ (1 ≤ k ∧ k ≤ 9) := fun q => h (inR_t.2 q)
  unfold rgF
  repeat rw [if_neg (by omega)]
def FcI (w : World) (b : Nat) (l : List Ft) (vi : Value) (wr : World) : Prop :=
  ∃ k : Nat, k ≤ l.length ∧ vi = .int .i64 k ∧ fe (fun i => ftE (l.getD i ft0)) l.length 0 = fe (fun i => ftE (l.getD i ft0)) (l.length - k) k ∧ MapF (fun n : Int => Value.int .i64 n) rgV wr b rgF ∧ Only [] w wr
set_option maxRecDepth 100000 in
set_option maxHeartbeats 4000000 in
theorem pFault {w : World} {p : Option Addr} {n cap : Nat} {l : List Ft} (hv : VRow ftC 5 w p n cap l) (hn : n ≤ 100000) :
    Calls Tryz.prog 23 #[.slice p n cap] w fun e w' => e = .returned (.int .i64 (fcE l)) ∧ Only [] w w' := by
  have hl := hv.len
  subst hl
  have HV := Lib.hid hv; clear hv
  go_enter Tryz.func23, Tryz.ntmps23
  by_cases h32 : 32 < l.length
  · have d2 : decide ((l.length : Int) > 32) = true := by simp; omega
    have d3 : decide (32 < (l.length : Int)) = true := by simp; omega
    have HX : Hid (fcE l = 6) := Lib.hid (by unfold fcE; rw [if_pos h32])
    go_wp2
    go_ret
    exact ⟨by rw [HX.out]; rfl, Only.refl _ _⟩
  · have d2 : decide ((l.length : Int) > 32) = false := by simp; omega
    have d3 : decide (32 < (l.length : Int)) = false := by simp; omega
    have HX : Hid (fcE l = fe (fun i => ftE (l.getD i ft0)) l.length 0) := Lib.hid (by unfold fcE; rw [if_neg h32])
    go_wp2_with fail
    refine (pRanges w).mono ?_
    rintro e w1 ⟨rfl, hm1, ho1⟩
    have M1 := Lib.hid hm1; have O1 := Lib.hid ho1
    clear hm1 ho1
    go_wp2
    go_loopw [14] (fun vi wr => FcI w w.heap.size l vi wr) (fun vi _ => l.length - (intOf vi).toNat)
    case atStart => exact ⟨0, Nat.zero_le _, rfl, rfl, M1.out, O1.out⟩
    case round =>
      clear d2 d3
      obtain ⟨k, hk, rfl, hfe, hm, ho⟩ := hrel
      have HF := Lib.hid hfe; have MM := Lib.hid hm; have OO := Lib.hid ho
      clear hfe hm ho
      by_cases hlt : k < l.length
      · obtain ⟨bk, off, hp, c0, c1, c2, c3, c4, lb⟩ := HV.out.ft OO.out hlt
        subst hp
        have HNO : Hid (∀ r, ftE (l.getD k ft0) = r → r ≠ 0 → fcE l = r) := Lib.hid (fun r h h' => by rw [HX.out, HF.out, fe_no hlt (by rw [h]; exact h'), h])
        have HYE : Hid (ftE (l.getD k ft0) = 0 → fe (fun i => ftE (l.getD i ft0)) l.length 0 = fe (fun i => ftE (l.getD i ft0)) (l.length - (k + 1)) (k + 1)) := Lib.hid (fun h => by rw [HF.out, fe_yes hlt h])
        generalize l.getD k ft0 = s at c0 c1 c2 c3 c4 HNO HYE
        have hz := Tryz.zeroValue106
        have HZ := Lib.hid hz
        clear hz
        go_wp2_with (at_lookup; refine stop_here ?_)
        refine alloc_abs (G := fun w0 => Stop (wpList _ _ _ _ _ w0)) ?_
        intro w2 hb2 ho2 hs2
        have E2 := Lib.hid hb2; have O2 := Lib.hid (OO.out.nil_trans ho2); have M2 := Lib.hid (MM.out.kept ho2 (by simp))
        clear hb2 ho2 hs2 c0 c1 c2 c3 c4 lb
        refine stop_go ?_
        refine wpList_lookup_F (kE := fun n : Int => Value.int .i64 n) (vE := rgV) rfl _ _ 103 true rfl 3 106 (key_int Tryz.underlying3) Tryz.underlying103 (.agg #[.int .i64 0, .int .i64 0]) (HZ.out _) w.heap.size rgF rfl M2.out s.k rfl ?_
        have hsome : ∃ r1 r2 : Int, ((rgF s.k).map rgV).getD (.agg #[.int .i64 0, .int .i64 0]) = .agg #[.int .i64 r1, .int .i64 r2] ∧ (rgF s.k).isSome = inR s.k 1 9 ∧ (inR s.k 1 9 = true → fits s.k s.v = inR s.v r1 r2) := by
          by_cases h : inR s.k 1 9 = true
          · obtain ⟨r, h1, h2⟩ := rg_some h s.v
            exact ⟨r.1, r.2, by rw [h1]; rfl, by rw [h1, h]; rfl, fun _ => h2⟩
          · refine ⟨0, 0, by rw [rg_none h]; rfl, by rw [rg_none h]; rw [Bool.not_eq_true] at h; rw [h]; rfl, fun q => absurd q h⟩
        obtain ⟨r1, r2, hr, hs, hf⟩ := hsome
        rw [hr, hs]
        simp only [if_true]
        have HFI := Lib.hid hf
        clear hr hs hf
        go_upto_region 8 with (fail)
        refine alloc_abs (G := fun w0 => Code.wp _ _ _ _ w0) ?_
        intro w3 hb3 ho3 hs3
        have E3 := Lib.hid (ho3.got E2.out (by simp)); have O3 := Lib.hid (O2.out.nil_trans ho3); have M3 := Lib.hid (M2.out.kept ho3 (by simp)); have I3 := Lib.hid hb3
        clear hb3 ho3 hs3 E2 O2 M2
        have c0 := cell_got E3.out 0; have c1 := cell_got E3.out 1; have c2 := cell_got E3.out 2; have c4 := cell_got E3.out 4; have le := got_lt E3.out
        have i0 := cell_got I3.out 0; have i1 := cell_got I3.out 1; have li := got_lt I3.out
        have hE : ftE s = if inR s.n 0 23 = true ∧ inR s.f 0 1125899906842624 = true ∧ inR s.t 0 1125899906842624 = true then (if s.t < s.f then 12 else if inR s.k 1 9 = true then (if fits s.k s.v = true then 0 else 3) else 8) else 3 := rfl
        by_cases hn : inR s.n 0 23 = true
        · obtain ⟨hn0, hn1⟩ := inR_t.1 hn
          have hnx : decide (s.n < 0) = false := by simp; omega
          have hny : decide (s.n ≥ 24) = false := by simp; omega
          have hnz : decide (24 ≤ s.n) = false := by simp; omega
          by_cases hf : inR s.f 0 1125899906842624 = true
          · obtain ⟨hf0, hf1⟩ := inR_t.1 hf
            have hfx : decide (s.f < 0) = false := by simp; omega
            have hfy : decide (s.f > 1125899906842624) = false := by simp; omega
            have hfz : decide (1125899906842624 < s.f) = false := by simp; omega
            by_cases ht : inR s.t 0 1125899906842624 = true
            · obtain ⟨ht0, ht1⟩ := inR_t.1 ht
              have htx : decide (s.t < 0) = false := by simp; omega
              have hty : decide (s.t > 1125899906842624) = false := by simp; omega
              have htz : decide (1125899906842624 < s.t) = false := by simp; omega
              by_cases ho : s.t < s.f
              · have ox : decide (s.f > s.t) = true := by simp; omega
                have oy : decide (s.t < s.f) = true := by simp; omega
                have HQ : Hid (fcE l = 12) := Lib.hid (HNO.out _ (by rw [hE, if_pos ⟨hn, hf, ht⟩, if_pos ho]) (by decide))
                clear hE hn hf ht ho
                go_wp2
                go_ret
                exact ⟨by rw [HQ.out]; rfl, O3.out⟩
              · have ox : decide (s.f > s.t) = false := by simp; omega
                have oy : decide (s.t < s.f) = false := by simp; omega
                by_cases hk9 : inR s.k 1 9 = true
                · rw [hk9]
                  by_cases hv : inR s.v r1 r2 = true
                  · obtain ⟨v0, v1⟩ := inR_t.1 hv
                    have vx : decide (s.v < r1) = false := by simp; omega
                    have vy : decide (s.v > r2) = false := by simp; omega
                    have vz : decide (r2 < s.v) = false := by simp; omega
                    have HQ := Lib.hid (HYE.out (by rw [hE, if_pos ⟨hn, hf, ht⟩, if_neg ho, if_pos hk9, if_pos (by rw [HFI.out hk9, hv])]))
                    clear hE hn hf ht ho hk9 hv
                    go_wp2
                    go_roundw
                    case rel => exact ⟨k + 1, by omega, by go_num, HQ.out, M3.out, O3.out⟩
                    case measure => first | (simp [intOf]; done) | (simp [intOf]; omega)
                  · have HQ : Hid (fcE l = 3) := Lib.hid (HNO.out _ (by rw [hE, if_pos ⟨hn, hf, ht⟩, if_neg ho, if_pos hk9, if_neg (by rw [HFI.out hk9]; exact hv)]) (by decide))
                    rcases inR_no hv with hq | ⟨hq, hr⟩
                    · have vx : decide (s.v < r1) = true := by simp; omega
                      clear hE hn hf ht ho hk9 hv
                      go_wp2
                      go_ret
                      exact ⟨by rw [HQ.out]; rfl, O3.out⟩
                    · have vx : decide (s.v < r1) = false := by simp; omega
                      have vy : decide (s.v > r2) = true := by simp; omega
                      have vz : decide (r2 < s.v) = true := by simp; omega
                      clear hE hn hf ht ho hk9 hv
                      go_wp2
                      go_ret
                      exact ⟨by rw [HQ.out]; rfl, O3.out⟩
                · have HQ : Hid (fcE l = 8) := Lib.hid (HNO.out _ (by rw [hE, if_pos ⟨hn, hf, ht⟩, if_neg ho, if_neg hk9]) (by decide))
                  rw [Bool.not_eq_true] at hk9
                  rw [hk9]
                  clear hE hn hf ht ho hk9
                  go_wp2
                  go_ret
                  exact ⟨by rw [HQ.out]; rfl, O3.out⟩
            · have HQ : Hid (fcE l = 3) := Lib.hid (HNO.out _ (by rw [hE, if_neg (fun q => ht q.2.2)]) (by decide))
              rcases inR_no ht with hq | ⟨hq, hr⟩
              · have htx : decide (s.t < 0) = true := by simp; omega
                clear hE
                go_wp2
                go_ret
                exact ⟨by rw [HQ.out]; rfl, O3.out⟩
              · have htx : decide (s.t < 0) = false := by simp; omega
                have hty : decide (s.t > 1125899906842624) = true := by simp; omega
                have htz : decide (1125899906842624 < s.t) = true := by simp; omega
                clear hE
                go_wp2
                go_ret
                exact ⟨by rw [HQ.out]; rfl, O3.out⟩
          · have HQ : Hid (fcE l = 3) := Lib.hid (HNO.out _ (by rw [hE, if_neg (fun q => hf q.2.1)]) (by decide))
            rcases inR_no hf with hq | ⟨hq, hr⟩
            · have hfx : decide (s.f < 0) = true := by simp; omega
              clear hE
              go_wp2
              go_ret
              exact ⟨by rw [HQ.out]; rfl, O3.out⟩
            · have hfx : decide (s.f < 0) = false := by simp; omega
              have hfy : decide (s.f > 1125899906842624) = true := by simp; omega
              have hfz : decide (1125899906842624 < s.f) = true := by simp; omega
              clear hE
              go_wp2
              go_ret
              exact ⟨by rw [HQ.out]; rfl, O3.out⟩
        · have HQ : Hid (fcE l = 3) := Lib.hid (HNO.out _ (by rw [hE, if_neg (fun q => hn q.1)]) (by decide))
          rcases inR_no hn with hq | ⟨hq, hr⟩
          · have hnx : decide (s.n < 0) = true := by simp; omega
            clear hE
            go_wp2
            go_ret
            exact ⟨by rw [HQ.out]; rfl, O3.out⟩
          · have hnx : decide (s.n < 0) = false := by simp; omega
            have hny : decide (s.n ≥ 24) = true := by simp; omega
            have hnz : decide (24 ≤ s.n) = true := by simp; omega
            clear hE
            go_wp2
            go_ret
            exact ⟨by rw [HQ.out]; rfl, O3.out⟩
      · have HY : Hid (fcE l = 0) := Lib.hid (by rw [HX.out, HF.out, fe_end (by omega)])
        obtain rfl : k = l.length := by omega
        go_wp2
        go_ret
        exact ⟨by rw [HY.out]; rfl, OO.out⟩
end Go.Proofs.YthmeifdgkodjlaaGreatDoor

/- scenario.checkNode. Condition: the lengths. -/
namespace Go.Proofs.YthmeifdgkodjlaaGreatDoor
open Go.RowKit

def itC (s : Int) : List Value := [.int .i64 s]
theorem itC_len (s : Int) : (itC s).length = 1 := rfl
theorem itC_one (s : Int) : ∀ u ∈ itC s, u.oneCell' = true := by simp [itC, Value.oneCell']
theorem VRow.it {w wr : World} {cap k : Nat} {p : Option Addr} {l : List Int} (hv : VRow itC 1 w p l.length cap l) (ho : Only [] w wr) (hk : k < l.length) :
    ∃ bk off, p = some ⟨bk, off, none⟩ ∧ wr.cell? ⟨bk, off + k, none⟩ = some (.int .i64 (l.getD k 0)) ∧ bk < wr.heap.size := by
  obtain ⟨bk, off, hp, hb, hc⟩ := hv.at_ ho (getD_some 0 hk)
  exact ⟨bk, off, hp, by have := hc 0 _ rfl; rwa [Nat.mul_one, Nat.add_zero] at this, hb⟩
/-- the value of a node -/
def ndV (n : Nd) (ps : Option Addr) (cs : Nat) (pv : Option Addr) (cv : Nat) : Value :=
  .agg #[.int .i64 n.ph, .slice ps n.sg.length cs, .int .i64 n.tol, .bool n.rf, .int .i64 n.er, .int .i64 n.st, .slice pv n.sv.length cv]
def snF (l : List Int) (k : Int) : Option Bool := if k ∈ l then some true else none
def SvI (w : World) (b : Nat) (l : List Int) (i nodes : Int) (vi : Value) (wr : World) : Prop :=
  ∃ k : Nat, k ≤ l.length ∧ vi = .int .i64 k ∧ fe (svE l i nodes) l.length 0 = fe (svE l i nodes) (l.length - k) k ∧ MapF (fun n : Int => Value.int .i64 n) Value.bool wr b (snF (l.take k)) ∧ Only [] w wr
def ndE4 (st : Int) (sv : List Int) (i nodes : Int) : Int := if fe (svE sv i nodes) sv.length 0 = 0 then (if inR st 0 1125899906842624 = true then 0 else 3) else fe (svE sv i nodes) sv.length 0
def ndE3 (rf : Bool) (st : Int) (sv : List Int) (i nodes : Int) : Int := if rf = true ∧ 0 < sv.length then 7 else if 12 < sv.length then 6 else ndE4 st sv i nodes
def ndE2 (er : Int) (rf : Bool) (st : Int) (sv : List Int) (i nodes : Int) : Int := if inR er 0 1125899906842624 = true ∧ (er = 0 ∨ rf = true) then ndE3 rf st sv i nodes else 3
def ndE1 (ph : Int) (sg : List Sg) (tol er : Int) (rf : Bool) (st : Int) (sv : List Int) (i nodes : Int) : Int := if tol < oscB ph sg then 15 else ndE2 er rf st sv i nodes
set_option maxRecDepth 100000 in
set_option maxHeartbeats 8000000 in
theorem pNode {w : World} {ps pv : Option Addr} {cs cv : Nat} (n : Nd) (i nodes : Int) (hv : VRow sgC 2 w ps n.sg.length cs n.sg) (hw : VRow itC 1 w pv n.sv.length cv n.sv) (hn : n.sg.length ≤ 100000) (hm : n.sv.length ≤ 100000) :
    Calls Tryz.prog 21 #[ndV n ps cs pv cv, .int .i64 i, .int .i64 nodes] w fun e w' => e = .returned (.int .i64 (ndE n i nodes)) ∧ Only [] w w' := by
  obtain ⟨ph, sg, tol, rf, er, st, sv⟩ := n
  have HV := Lib.hid hv; have HW := Lib.hid hw; clear hv hw
  have HNE := Lib.hid (show ndE ⟨ph, sg, tol, rf, er, st, sv⟩ i nodes = (if oscE ph sg = 0 then (if inR tol 0 500000 = true then ndE1 ph sg tol er rf st sv i nodes else 3) else oscE ph sg) from rfl)
  generalize ndE ⟨ph, sg, tol, rf, er, st, sv⟩ i nodes = res at HNE ⊢
  unfold ndV
  dsimp only at hn hm HV HW ⊢
  have HMM := Lib.hid (@run_makeMap Tryz.prog)
  go_enter Tryz.func21, Tryz.ntmps21
  go_upto_region 1 with (fail)
  refine alloc_abs (G := fun w0 => Code.wp _ _ _ _ w0) ?_
  intro w1 hb1 ho1 hs1
  have B1 := Lib.hid hb1; have O1 := Lib.hid ho1
  clear hb1 ho1 hs1
  have g0 := cell_got B1.out 0; have g1 := cell_got B1.out 1; have l0 := got_lt B1.out
  go_wp2_with fail
  refine (pOsc ph (HV.out.kept O1.out) hn).mono ?_
  rintro e w2 ⟨rfl, ho2⟩
  have B2 := Lib.hid (ho2.got B1.out (by simp)); have O2 := Lib.hid (O1.out.nil_trans ho2)
  clear ho2 g0 g1 l0 B1 O1
  have g0 := cell_got B2.out 0; have g1 := cell_got B2.out 1; have g2 := cell_got B2.out 2; have g3 := cell_got B2.out 3; have g4 := cell_got B2.out 4; have g5 := cell_got B2.out 5; have g6 := cell_got B2.out 6; have l0 := got_lt B2.out
  by_cases hosc : oscE ph sg = 0
  · by_cases htol : inR tol 0 500000 = true
    · obtain ⟨htol0, htol1⟩ := inR_t.1 htol
      have htolx : decide (tol < 0) = false := by simp; omega
      have htoly : decide (tol > 500000) = false := by simp; omega
      have htolz : decide (500000 < tol) = false := by simp; omega
      have HN1 : Hid (res = ndE1 ph sg tol er rf st sv i nodes) := Lib.hid (by rw [HNE.out, if_pos hosc, if_pos htol])
      rw [hosc]
      clear htol hosc htol0 htol1
      by_cases hbd : tol < oscB ph sg
      · have bx : decide (tol < oscB ph sg) = true := by simp [hbd]
        have HQ : Hid (res = 15) := Lib.hid (by rw [HN1.out]; unfold ndE1; rw [if_pos hbd])
        clear hbd
        go_wp2_with fail
        refine wp_region_grown [0, 1, 2, 3, 4, 5, 6] [] (by kernel_rfl) (by kernel_rfl) ?_
        simp only [pick, List.map_cons, List.map_nil, List.getD_cons_succ, List.getD_cons_zero]
        iterate 4 (refine wpQuiet_step (fun K hK => ?_); go_simp; refine hK _ ?_; clear hK K)
        refine wpQuiet_enter_w (by kernel_rfl) 46 #[.agg #[.int .i64 ph, .slice ps sg.length cs]] (fun _ => by kernel_rfl) (.int .i64 (oscB ph sg)) (grown_only2 fun w' ho' => pBound ph (HV.out.kept (O2.out.nil_trans ho')) hn) ?_
        iterate 1 (refine wpQuiet_step (fun K hK => ?_); go_simp; refine hK _ ?_; clear hK K)
        repeat (go_big_quiet_step (fail))
        refine wpQuiet_nil ?_
        intro w3 hw3
        have O3 := Lib.hid (O2.out.nil_trans (only_of_plus hw3)); have B3 := Lib.hid ((only_of_plus hw3).got B2.out (by simp))
        clear hw3 g0 g1 g2 g3 g4 g5 g6 l0 O2 B2
        go_wp2
        go_ret
        exact ⟨by rw [HQ.out]; rfl, O3.out⟩
      · have bx : decide (tol < oscB ph sg) = false := by simpa using hbd
        have HN2 : Hid (res = ndE2 er rf st sv i nodes) := Lib.hid (by rw [HN1.out]; unfold ndE1; rw [if_neg hbd])
        clear hbd
        go_wp2_with fail
        refine wp_region_grown [0, 1, 2, 3, 4, 5, 6] [] (by kernel_rfl) (by kernel_rfl) ?_
        simp only [pick, List.map_cons, List.map_nil, List.getD_cons_succ, List.getD_cons_zero]
        iterate 4 (refine wpQuiet_step (fun K hK => ?_); go_simp; refine hK _ ?_; clear hK K)
        refine wpQuiet_enter_w (by kernel_rfl) 46 #[.agg #[.int .i64 ph, .slice ps sg.length cs]] (fun _ => by kernel_rfl) (.int .i64 (oscB ph sg)) (grown_only2 fun w' ho' => pBound ph (HV.out.kept (O2.out.nil_trans ho')) hn) ?_
        iterate 1 (refine wpQuiet_step (fun K hK => ?_); go_simp; refine hK _ ?_; clear hK K)
        repeat (go_big_quiet_step (fail))
        refine wpQuiet_nil ?_
        intro w3 hw3
        have O3 := Lib.hid (O2.out.nil_trans (only_of_plus hw3)); have B3 := Lib.hid ((only_of_plus hw3).got B2.out (by simp))
        clear hw3 g0 g1 g2 g3 g4 g5 g6 l0 O2 B2
        clear bx htolx htoly htolz
        have g3 := cell_got B3.out 3; have g4 := cell_got B3.out 4; have g5 := cell_got B3.out 5; have g6 := cell_got B3.out 6; have l0 := got_lt B3.out
        by_cases her : inR er 0 1125899906842624 = true
        · obtain ⟨her0, her1⟩ := inR_t.1 her
          have herx : decide (er < 0) = false := by simp; omega
          have hery : decide (er > 1125899906842624) = false := by simp; omega
          have herz : decide (1125899906842624 < er) = false := by simp; omega
          cases rf with
          | true =>
            by_cases hz : er = 0
            · have ez : (er != 0) = false := by simp [hz]
              have ew : (er == 0) = true := by simp [hz]
              have HN3 : Hid (res = ndE3 true st sv i nodes) := Lib.hid (by rw [HN2.out]; unfold ndE2; rw [if_pos ⟨her, .inr rfl⟩])
              clear her hz her0 her1
              by_cases h0 : 0 < sv.length
              · have h0x : decide ((sv.length : Int) > 0) = true := decide_eq_true (by omega)
                have h0y : decide (0 < (sv.length : Int)) = true := decide_eq_true (by omega)
                have h0z : decide (0 < sv.length) = true := decide_eq_true (by omega)
                have HQ : Hid (res = 7) := Lib.hid (by rw [HN3.out]; unfold ndE3; rw [if_pos ⟨rfl, h0⟩])
                clear h0
                go_wp2
                go_ret
                exact ⟨by rw [HQ.out]; rfl, O3.out⟩
              · have h0x : decide ((sv.length : Int) > 0) = false := decide_eq_false (by omega)
                have h0y : decide (0 < (sv.length : Int)) = false := decide_eq_false (by omega)
                have h0z : decide (0 < sv.length) = false := decide_eq_false (by omega)
                have HN4 : Hid (res = if 12 < sv.length then 6 else ndE4 st sv i nodes) := Lib.hid (by rw [HN3.out]; unfold ndE3; rw [if_neg (fun q => h0 q.2)])
                clear h0
                by_cases h12 : 12 < sv.length
                · have h12x : decide ((sv.length : Int) > 12) = true := decide_eq_true (by omega)
                  have h12y : decide (12 < (sv.length : Int)) = true := decide_eq_true (by omega)
                  have h12z : decide (12 < sv.length) = true := decide_eq_true (by omega)
                  have HQ : Hid (res = 6) := Lib.hid (by rw [HN4.out, if_pos h12])
                  clear h12
                  go_wp2
                  go_ret
                  exact ⟨by rw [HQ.out]; rfl, O3.out⟩
                · have h12x : decide ((sv.length : Int) > 12) = false := decide_eq_false (by omega)
                  have h12y : decide (12 < (sv.length : Int)) = false := decide_eq_false (by omega)
                  have h12z : decide (12 < sv.length) = false := decide_eq_false (by omega)
                  have HRF : Hid (res = ndE4 st sv i nodes) := Lib.hid (by rw [HN4.out, if_neg h12])
                  clear h12
                  have hmm := HMM.out
                  clear HMM
                  go_wp2
                  clear hmm
                  go_loopw [68] (fun vi wr => SvI w3 w3.heap.size sv i nodes vi wr) (fun vi _ => sv.length - (intOf vi).toNat)
                  case atStart => exact ⟨0, Nat.zero_le _, rfl, rfl, by rw [List.take_zero]; exact mapF_new (alloc_new _ _), (Only.refl _ _).alloc _⟩
                  case round =>
                    clear g3 g4 g5 g6 l0
                    obtain ⟨k, hk, rfl, hfe, hmp, ho⟩ := hrel
                    have HF := Lib.hid hfe; have MM := Lib.hid hmp; have OO := Lib.hid ho; have OA := Lib.hid (O3.out.nil_trans ho); have B4 := Lib.hid (ho.got B3.out (by simp))
                    clear hfe hmp ho
                    by_cases hlt : k < sv.length
                    · obtain ⟨bk, off, hp, c0, lb⟩ := HW.out.it OA.out hlt
                      subst hp
                      have HNO : Hid (∀ r, svE sv i nodes k = r → r ≠ 0 → res = r) := Lib.hid (fun r h h' => by
                        have := HF.out.trans (fe_no hlt (by rw [h]; exact h'))
                        rw [h] at this
                        rw [HRF.out]; unfold ndE4; rw [this, if_neg h'])
                      have HYE : Hid (svE sv i nodes k = 0 → fe (svE sv i nodes) sv.length 0 = fe (svE sv i nodes) (sv.length - (k + 1)) (k + 1)) := Lib.hid (fun h => by rw [HF.out, fe_yes hlt h])
                      have hE : svE sv i nodes k = if inR (sv.getD k 0) 0 (nodes - 1) = true then (if sv.getD k 0 = i then 18 else if sv.getD k 0 ∈ sv.take k then 10 else 0) else 3 := rfl
                      have HTK : Hid ((snF (sv.take (k + 1))) = fun k' => if k' = sv.getD k 0 then some true else snF (sv.take k) k') := Lib.hid (by
                        funext k'
                        have hgk := getD_some 0 hlt
                        unfold snF
                        rw [List.take_add_one, hgk]
                        by_cases hq : k' = sv.getD k 0
                        · rw [if_pos hq, if_pos (by simp [hq])]
                        · rw [if_neg hq]
                          by_cases hr : k' ∈ sv.take k
                          · rw [if_pos hr, if_pos (by simp [hr])]
                          · rw [if_neg hr, if_neg (by simp only [Option.toList_some, List.mem_append, List.mem_singleton]; exact fun q => q.elim hr hq)])
                      have HZ : Hid (∀ w, (zeroValue 4).run Tryz.prog w = .ok (.bool false) w) := Lib.hid Tryz.zeroValue4
                      generalize sv.getD k 0 = s at c0 hE HTK
                      by_cases hs : inR s 0 (nodes - 1) = true
                      · obtain ⟨hs0, hs1⟩ := inR_t.1 hs
                        have hsx : decide (s < 0) = false := by simp; omega
                        have hsy : decide (s ≥ nodes) = false := by simp; omega
                        have hsz : decide (nodes ≤ s) = false := by simp; omega
                        by_cases hi : s = i
                        · have ix : (s == i) = true := by simp [hi]
                          have HQ : Hid (res = 18) := Lib.hid (HNO.out _ (by rw [hE, if_pos hs, if_pos hi]) (by decide))
                          clear hE hs hi
                          go_wp2
                          go_ret
                          exact ⟨by rw [HQ.out]; rfl, OA.out⟩
                        · have ix : (s == i) = false := by simp [hi]
                          by_cases hin : s ∈ sv.take k
                          · have HQ : Hid (res = 10) := Lib.hid (HNO.out _ (by rw [hE, if_pos hs, if_neg hi, if_pos hin]) (by decide))
                            have hsn : snF (sv.take k) s = some true := by unfold snF; rw [if_pos hin]
                            go_wp2_with (at_lookup; refine stop_here ?_)
                            refine stop_go ?_
                            refine wpList_lookup_F (kE := fun n : Int => Value.int .i64 n) (vE := Value.bool) rfl _ _ 101 false rfl 3 4 (key_int Tryz.underlying3) Tryz.underlying101 (.bool false) (HZ.out _) w3.heap.size _ rfl MM.out s rfl ?_
                            rw [hsn]
                            simp only [Option.map_some, Option.getD_some, Bool.false_eq_true, if_false]
                            clear hE hs hi hin hsn
                            go_wp2
                            go_ret
                            exact ⟨by rw [HQ.out]; rfl, OA.out⟩
                          · have HQ := Lib.hid (HYE.out (by rw [hE, if_pos hs, if_neg hi, if_neg hin]))
                            have hsn : snF (sv.take k) s = none := by unfold snF; rw [if_neg hin]
                            go_wp2_with (at_lookup; refine stop_here ?_)
                            refine stop_go ?_
                            refine wpList_lookup_F (kE := fun n : Int => Value.int .i64 n) (vE := Value.bool) rfl _ _ 101 false rfl 3 4 (key_int Tryz.underlying3) Tryz.underlying101 (.bool false) (HZ.out _) w3.heap.size _ rfl MM.out s rfl ?_
                            rw [hsn]
                            simp only [Option.map_none, Option.getD_none, Bool.false_eq_true, if_false]
                            clear hE hs hi hin hsn
                            go_wp2_with (at_mapUpdate; refine stop_here ?_)
                            refine stop_go ?_
                            refine wpList_update_F (kE := fun n : Int => Value.int .i64 n) (vE := Value.bool) rfl _ _ _ 101 rfl 3 4 (key_int Tryz.underlying3) Tryz.underlying101 w3.heap.size _ rfl MM.out s rfl true rfl ?_
                            intro w5 hm5 ho5 hs5
                            have M5 := Lib.hid hm5; have O5 := Lib.hid (OO.out.trans ho5 (fun x hx => .inr (by simp at hx; omega)))
                            clear hm5 ho5 hs5 MM OO
                            go_wp2
                            go_roundw
                            case rel => exact ⟨k + 1, by omega, by go_num, HQ.out, by rw [HTK.out]; exact M5.out, O5.out⟩
                            case measure => first | (simp [intOf]; done) | (simp [intOf]; omega)
                      · have HQ : Hid (res = 3) := Lib.hid (HNO.out _ (by rw [hE, if_neg hs]) (by decide))
                        clear hE
                        rcases inR_no hs with hq | ⟨hq, hr⟩
                        · have hsx : decide (s < 0) = true := by simp; omega
                          go_wp2
                          go_ret
                          exact ⟨by rw [HQ.out]; rfl, OA.out⟩
                        · have hsx : decide (s < 0) = false := by simp; omega
                          have hsy : decide (s ≥ nodes) = true := by simp; omega
                          have hsz : decide (nodes ≤ s) = true := by simp; omega
                          go_wp2
                          go_ret
                          exact ⟨by rw [HQ.out]; rfl, OA.out⟩
                    · have hf0 : fe (svE sv i nodes) sv.length 0 = 0 := by rw [HF.out, fe_end (by omega)]
                      have HRG : Hid (res = if inR st 0 1125899906842624 = true then 0 else 3) := Lib.hid (by rw [HRF.out]; unfold ndE4; rw [if_pos hf0])
                      clear hf0
                      obtain rfl : k = sv.length := by omega
                      have g5 := cell_got B4.out 5; have l0 := got_lt B4.out
                      by_cases ht : inR st 0 1125899906842624 = true
                      · obtain ⟨ht0, ht1⟩ := inR_t.1 ht
                        have htx : decide (st < 0) = false := by simp; omega
                        have hty : decide (st > 1125899906842624) = false := by simp; omega
                        have htz : decide (1125899906842624 < st) = false := by simp; omega
                        have HQ : Hid (res = 0) := Lib.hid (by rw [HRG.out, if_pos ht])
                        clear ht
                        go_wp2
                        go_ret
                        exact ⟨by rw [HQ.out]; rfl, OA.out⟩
                      · have HQ : Hid (res = 3) := Lib.hid (by rw [HRG.out, if_neg ht])
                        rcases inR_no ht with hq | ⟨hq, hr⟩
                        · have htx : decide (st < 0) = true := by simp; omega
                          clear ht
                          go_wp2
                          go_ret
                          exact ⟨by rw [HQ.out]; rfl, OA.out⟩
                        · have htx : decide (st < 0) = false := by simp; omega
                          have hty : decide (st > 1125899906842624) = true := by simp; omega
                          have htz : decide (1125899906842624 < st) = true := by simp; omega
                          clear ht
                          go_wp2
                          go_ret
                          exact ⟨by rw [HQ.out]; rfl, OA.out⟩
            · have ez : (er != 0) = true := by simp [hz]
              have ew : (er == 0) = false := by simp [hz]
              have HN3 : Hid (res = ndE3 true st sv i nodes) := Lib.hid (by rw [HN2.out]; unfold ndE2; rw [if_pos ⟨her, .inr rfl⟩])
              clear her hz her0 her1
              by_cases h0 : 0 < sv.length
              · have h0x : decide ((sv.length : Int) > 0) = true := decide_eq_true (by omega)
                have h0y : decide (0 < (sv.length : Int)) = true := decide_eq_true (by omega)
                have h0z : decide (0 < sv.length) = true := decide_eq_true (by omega)
                have HQ : Hid (res = 7) := Lib.hid (by rw [HN3.out]; unfold ndE3; rw [if_pos ⟨rfl, h0⟩])
                clear h0
                go_wp2
                go_ret
                exact ⟨by rw [HQ.out]; rfl, O3.out⟩
              · have h0x : decide ((sv.length : Int) > 0) = false := decide_eq_false (by omega)
                have h0y : decide (0 < (sv.length : Int)) = false := decide_eq_false (by omega)
                have h0z : decide (0 < sv.length) = false := decide_eq_false (by omega)
                have HN4 : Hid (res = if 12 < sv.length then 6 else ndE4 st sv i nodes) := Lib.hid (by rw [HN3.out]; unfold ndE3; rw [if_neg (fun q => h0 q.2)])
                clear h0
                by_cases h12 : 12 < sv.length
                · have h12x : decide ((sv.length : Int) > 12) = true := decide_eq_true (by omega)
                  have h12y : decide (12 < (sv.length : Int)) = true := decide_eq_true (by omega)
                  have h12z : decide (12 < sv.length) = true := decide_eq_true (by omega)
                  have HQ : Hid (res = 6) := Lib.hid (by rw [HN4.out, if_pos h12])
                  clear h12
                  go_wp2
                  go_ret
                  exact ⟨by rw [HQ.out]; rfl, O3.out⟩
                · have h12x : decide ((sv.length : Int) > 12) = false := decide_eq_false (by omega)
                  have h12y : decide (12 < (sv.length : Int)) = false := decide_eq_false (by omega)
                  have h12z : decide (12 < sv.length) = false := decide_eq_false (by omega)
                  have HRF : Hid (res = ndE4 st sv i nodes) := Lib.hid (by rw [HN4.out, if_neg h12])
                  clear h12
                  have hmm := HMM.out
                  clear HMM
                  go_wp2
                  clear hmm
                  go_loopw [68] (fun vi wr => SvI w3 w3.heap.size sv i nodes vi wr) (fun vi _ => sv.length - (intOf vi).toNat)
                  case atStart => exact ⟨0, Nat.zero_le _, rfl, rfl, by rw [List.take_zero]; exact mapF_new (alloc_new _ _), (Only.refl _ _).alloc _⟩
                  case round =>
                    clear g3 g4 g5 g6 l0
                    obtain ⟨k, hk, rfl, hfe, hmp, ho⟩ := hrel
                    have HF := Lib.hid hfe; have MM := Lib.hid hmp; have OO := Lib.hid ho; have OA := Lib.hid (O3.out.nil_trans ho); have B4 := Lib.hid (ho.got B3.out (by simp))
                    clear hfe hmp ho
                    by_cases hlt : k < sv.length
                    · obtain ⟨bk, off, hp, c0, lb⟩ := HW.out.it OA.out hlt
                      subst hp
                      have HNO : Hid (∀ r, svE sv i nodes k = r → r ≠ 0 → res = r) := Lib.hid (fun r h h' => by
                        have := HF.out.trans (fe_no hlt (by rw [h]; exact h'))
                        rw [h] at this
                        rw [HRF.out]; unfold ndE4; rw [this, if_neg h'])
                      have HYE : Hid (svE sv i nodes k = 0 → fe (svE sv i nodes) sv.length 0 = fe (svE sv i nodes) (sv.length - (k + 1)) (k + 1)) := Lib.hid (fun h => by rw [HF.out, fe_yes hlt h])
                      have hE : svE sv i nodes k = if inR (sv.getD k 0) 0 (nodes - 1) = true then (if sv.getD k 0 = i then 18 else if sv.getD k 0 ∈ sv.take k then 10 else 0) else 3 := rfl
                      have HTK : Hid ((snF (sv.take (k + 1))) = fun k' => if k' = sv.getD k 0 then some true else snF (sv.take k) k') := Lib.hid (by
                        funext k'
                        have hgk := getD_some 0 hlt
                        unfold snF
                        rw [List.take_add_one, hgk]
                        by_cases hq : k' = sv.getD k 0
                        · rw [if_pos hq, if_pos (by simp [hq])]
                        · rw [if_neg hq]
                          by_cases hr : k' ∈ sv.take k
                          · rw [if_pos hr, if_pos (by simp [hr])]
                          · rw [if_neg hr, if_neg (by simp only [Option.toList_some, List.mem_append, List.mem_singleton]; exact fun q => q.elim hr hq)])
                      have HZ : Hid (∀ w, (zeroValue 4).run Tryz.prog w = .ok (.bool false) w) := Lib.hid Tryz.zeroValue4
                      generalize sv.getD k 0 = s at c0 hE HTK
                      by_cases hs : inR s 0 (nodes - 1) = true
                      · obtain ⟨hs0, hs1⟩ := inR_t.1 hs
                        have hsx : decide (s < 0) = false := by simp; omega
                        have hsy : decide (s ≥ nodes) = false := by simp; omega
                        have hsz : decide (nodes ≤ s) = false := by simp; omega
                        by_cases hi : s = i
                        · have ix : (s == i) = true := by simp [hi]
                          have HQ : Hid (res = 18) := Lib.hid (HNO.out _ (by rw [hE, if_pos hs, if_pos hi]) (by decide))
                          clear hE hs hi
                          go_wp2
                          go_ret
                          exact ⟨by rw [HQ.out]; rfl, OA.out⟩
                        · have ix : (s == i) = false := by simp [hi]
                          by_cases hin : s ∈ sv.take k
                          · have HQ : Hid (res = 10) := Lib.hid (HNO.out _ (by rw [hE, if_pos hs, if_neg hi, if_pos hin]) (by decide))
                            have hsn : snF (sv.take k) s = some true := by unfold snF; rw [if_pos hin]
                            go_wp2_with (at_lookup; refine stop_here ?_)
                            refine stop_go ?_
                            refine wpList_lookup_F (kE := fun n : Int => Value.int .i64 n) (vE := Value.bool) rfl _ _ 101 false rfl 3 4 (key_int Tryz.underlying3) Tryz.underlying101 (.bool false) (HZ.out _) w3.heap.size _ rfl MM.out s rfl ?_
                            rw [hsn]
                            simp only [Option.map_some, Option.getD_some, Bool.false_eq_true, if_false]
                            clear hE hs hi hin hsn
                            go_wp2
                            go_ret
                            exact ⟨by rw [HQ.out]; rfl, OA.out⟩
                          · have HQ := Lib.hid (HYE.out (by rw [hE, if_pos hs, if_neg hi, if_neg hin]))
                            have hsn : snF (sv.take k) s = none := by unfold snF; rw [if_neg hin]
                            go_wp2_with (at_lookup; refine stop_here ?_)
                            refine stop_go ?_
                            refine wpList_lookup_F (kE := fun n : Int => Value.int .i64 n) (vE := Value.bool) rfl _ _ 101 false rfl 3 4 (key_int Tryz.underlying3) Tryz.underlying101 (.bool false) (HZ.out _) w3.heap.size _ rfl MM.out s rfl ?_
                            rw [hsn]
                            simp only [Option.map_none, Option.getD_none, Bool.false_eq_true, if_false]
                            clear hE hs hi hin hsn
                            go_wp2_with (at_mapUpdate; refine stop_here ?_)
                            refine stop_go ?_
                            refine wpList_update_F (kE := fun n : Int => Value.int .i64 n) (vE := Value.bool) rfl _ _ _ 101 rfl 3 4 (key_int Tryz.underlying3) Tryz.underlying101 w3.heap.size _ rfl MM.out s rfl true rfl ?_
                            intro w5 hm5 ho5 hs5
                            have M5 := Lib.hid hm5; have O5 := Lib.hid (OO.out.trans ho5 (fun x hx => .inr (by simp at hx; omega)))
                            clear hm5 ho5 hs5 MM OO
                            go_wp2
                            go_roundw
                            case rel => exact ⟨k + 1, by omega, by go_num, HQ.out, by rw [HTK.out]; exact M5.out, O5.out⟩
                            case measure => first | (simp [intOf]; done) | (simp [intOf]; omega)
                      · have HQ : Hid (res = 3) := Lib.hid (HNO.out _ (by rw [hE, if_neg hs]) (by decide))
                        clear hE
                        rcases inR_no hs with hq | ⟨hq, hr⟩
                        · have hsx : decide (s < 0) = true := by simp; omega
                          go_wp2
                          go_ret
                          exact ⟨by rw [HQ.out]; rfl, OA.out⟩
                        · have hsx : decide (s < 0) = false := by simp; omega
                          have hsy : decide (s ≥ nodes) = true := by simp; omega
                          have hsz : decide (nodes ≤ s) = true := by simp; omega
                          go_wp2
                          go_ret
                          exact ⟨by rw [HQ.out]; rfl, OA.out⟩
                    · have hf0 : fe (svE sv i nodes) sv.length 0 = 0 := by rw [HF.out, fe_end (by omega)]
                      have HRG : Hid (res = if inR st 0 1125899906842624 = true then 0 else 3) := Lib.hid (by rw [HRF.out]; unfold ndE4; rw [if_pos hf0])
                      clear hf0
                      obtain rfl : k = sv.length := by omega
                      have g5 := cell_got B4.out 5; have l0 := got_lt B4.out
                      by_cases ht : inR st 0 1125899906842624 = true
                      · obtain ⟨ht0, ht1⟩ := inR_t.1 ht
                        have htx : decide (st < 0) = false := by simp; omega
                        have hty : decide (st > 1125899906842624) = false := by simp; omega
                        have htz : decide (1125899906842624 < st) = false := by simp; omega
                        have HQ : Hid (res = 0) := Lib.hid (by rw [HRG.out, if_pos ht])
                        clear ht
                        go_wp2
                        go_ret
                        exact ⟨by rw [HQ.out]; rfl, OA.out⟩
                      · have HQ : Hid (res = 3) := Lib.hid (by rw [HRG.out, if_neg ht])
                        rcases inR_no ht with hq | ⟨hq, hr⟩
                        · have htx : decide (st < 0) = true := by simp; omega
                          clear ht
                          go_wp2
                          go_ret
                          exact ⟨by rw [HQ.out]; rfl, OA.out⟩
                        · have htx : decide (st < 0) = false := by simp; omega
                          have hty : decide (st > 1125899906842624) = true := by simp; omega
                          have htz : decide (1125899906842624 < st) = true := by simp; omega
                          clear ht
                          go_wp2
                          go_ret
                          exact ⟨by rw [HQ.out]; rfl, OA.out⟩
          | false =>
            by_cases hz : er = 0
            · have ez : (er != 0) = false := by simp [hz]
              have ew : (er == 0) = true := by simp [hz]
              have HN3 : Hid (res = ndE3 false st sv i nodes) := Lib.hid (by rw [HN2.out]; unfold ndE2; rw [if_pos ⟨her, .inl hz⟩])
              clear her hz her0 her1
              have HN4 : Hid (res = if 12 < sv.length then 6 else ndE4 st sv i nodes) := Lib.hid (by rw [HN3.out]; unfold ndE3; rw [if_neg (fun q => by cases q.1)])
              by_cases h12 : 12 < sv.length
              · have h12x : decide ((sv.length : Int) > 12) = true := decide_eq_true (by omega)
                have h12y : decide (12 < (sv.length : Int)) = true := decide_eq_true (by omega)
                have h12z : decide (12 < sv.length) = true := decide_eq_true (by omega)
                have HQ : Hid (res = 6) := Lib.hid (by rw [HN4.out, if_pos h12])
                clear h12
                go_wp2
                go_ret
                exact ⟨by rw [HQ.out]; rfl, O3.out⟩
              · have h12x : decide ((sv.length : Int) > 12) = false := decide_eq_false (by omega)
                have h12y : decide (12 < (sv.length : Int)) = false := decide_eq_false (by omega)
                have h12z : decide (12 < sv.length) = false := decide_eq_false (by omega)
                have HRF : Hid (res = ndE4 st sv i nodes) := Lib.hid (by rw [HN4.out, if_neg h12])
                clear h12
                have hmm := HMM.out
                clear HMM
                go_wp2
                clear hmm
                go_loopw [68] (fun vi wr => SvI w3 w3.heap.size sv i nodes vi wr) (fun vi _ => sv.length - (intOf vi).toNat)
                case atStart => exact ⟨0, Nat.zero_le _, rfl, rfl, by rw [List.take_zero]; exact mapF_new (alloc_new _ _), (Only.refl _ _).alloc _⟩
                case round =>
                  clear g3 g4 g5 g6 l0
                  obtain ⟨k, hk, rfl, hfe, hmp, ho⟩ := hrel
                  have HF := Lib.hid hfe; have MM := Lib.hid hmp; have OO := Lib.hid ho; have OA := Lib.hid (O3.out.nil_trans ho); have B4 := Lib.hid (ho.got B3.out (by simp))
                  clear hfe hmp ho
                  by_cases hlt : k < sv.length
                  · obtain ⟨bk, off, hp, c0, lb⟩ := HW.out.it OA.out hlt
                    subst hp
                    have HNO : Hid (∀ r, svE sv i nodes k = r → r ≠ 0 → res = r) := Lib.hid (fun r h h' => by
                      have := HF.out.trans (fe_no hlt (by rw [h]; exact h'))
                      rw [h] at this
                      rw [HRF.out]; unfold ndE4; rw [this, if_neg h'])
                    have HYE : Hid (svE sv i nodes k = 0 → fe (svE sv i nodes) sv.length 0 = fe (svE sv i nodes) (sv.length - (k + 1)) (k + 1)) := Lib.hid (fun h => by rw [HF.out, fe_yes hlt h])
                    have hE : svE sv i nodes k = if inR (sv.getD k 0) 0 (nodes - 1) = true then (if sv.getD k 0 = i then 18 else if sv.getD k 0 ∈ sv.take k then 10 else 0) else 3 := rfl
                    have HTK : Hid ((snF (sv.take (k + 1))) = fun k' => if k' = sv.getD k 0 then some true else snF (sv.take k) k') := Lib.hid (by
                      funext k'
                      have hgk := getD_some 0 hlt
                      unfold snF
                      rw [List.take_add_one, hgk]
                      by_cases hq : k' = sv.getD k 0
                      · rw [if_pos hq, if_pos (by simp [hq])]
                      · rw [if_neg hq]
                        by_cases hr : k' ∈ sv.take k
                        · rw [if_pos hr, if_pos (by simp [hr])]
                        · rw [if_neg hr, if_neg (by simp only [Option.toList_some, List.mem_append, List.mem_singleton]; exact fun q => q.elim hr hq)])
                    have HZ : Hid (∀ w, (zeroValue 4).run Tryz.prog w = .ok (.bool false) w) := Lib.hid Tryz.zeroValue4
                    generalize sv.getD k 0 = s at c0 hE HTK
                    by_cases hs : inR s 0 (nodes - 1) = true
                    · obtain ⟨hs0, hs1⟩ := inR_t.1 hs
                      have hsx : decide (s < 0) = false := by simp; omega
                      have hsy : decide (s ≥ nodes) = false := by simp; omega
                      have hsz : decide (nodes ≤ s) = false := by simp; omega
                      by_cases hi : s = i
                      · have ix : (s == i) = true := by simp [hi]
                        have HQ : Hid (res = 18) := Lib.hid (HNO.out _ (by rw [hE, if_pos hs, if_pos hi]) (by decide))
                        clear hE hs hi
                        go_wp2
                        go_ret
                        exact ⟨by rw [HQ.out]; rfl, OA.out⟩
                      · have ix : (s == i) = false := by simp [hi]
                        by_cases hin : s ∈ sv.take k
                        · have HQ : Hid (res = 10) := Lib.hid (HNO.out _ (by rw [hE, if_pos hs, if_neg hi, if_pos hin]) (by decide))
                          have hsn : snF (sv.take k) s = some true := by unfold snF; rw [if_pos hin]
                          go_wp2_with (at_lookup; refine stop_here ?_)
                          refine stop_go ?_
                          refine wpList_lookup_F (kE := fun n : Int => Value.int .i64 n) (vE := Value.bool) rfl _ _ 101 false rfl 3 4 (key_int Tryz.underlying3) Tryz.underlying101 (.bool false) (HZ.out _) w3.heap.size _ rfl MM.out s rfl ?_
                          rw [hsn]
                          simp only [Option.map_some, Option.getD_some, Bool.false_eq_true, if_false]
                          clear hE hs hi hin hsn
                          go_wp2
                          go_ret
                          exact ⟨by rw [HQ.out]; rfl, OA.out⟩
                        · have HQ := Lib.hid (HYE.out (by rw [hE, if_pos hs, if_neg hi, if_neg hin]))
                          have hsn : snF (sv.take k) s = none := by unfold snF; rw [if_neg hin]
                          go_wp2_with (at_lookup; refine stop_here ?_)
                          refine stop_go ?_
                          refine wpList_lookup_F (kE := fun n : Int => Value.int .i64 n) (vE := Value.bool) rfl _ _ 101 false rfl 3 4 (key_int Tryz.underlying3) Tryz.underlying101 (.bool false) (HZ.out _) w3.heap.size _ rfl MM.out s rfl ?_
                          rw [hsn]
                          simp only [Option.map_none, Option.getD_none, Bool.false_eq_true, if_false]
                          clear hE hs hi hin hsn
                          go_wp2_with (at_mapUpdate; refine stop_here ?_)
                          refine stop_go ?_
                          refine wpList_update_F (kE := fun n : Int => Value.int .i64 n) (vE := Value.bool) rfl _ _ _ 101 rfl 3 4 (key_int Tryz.underlying3) Tryz.underlying101 w3.heap.size _ rfl MM.out s rfl true rfl ?_
                          intro w5 hm5 ho5 hs5
                          have M5 := Lib.hid hm5; have O5 := Lib.hid (OO.out.trans ho5 (fun x hx => .inr (by simp at hx; omega)))
                          clear hm5 ho5 hs5 MM OO
                          go_wp2
                          go_roundw
                          case rel => exact ⟨k + 1, by omega, by go_num, HQ.out, by rw [HTK.out]; exact M5.out, O5.out⟩
                          case measure => first | (simp [intOf]; done) | (simp [intOf]; omega)
                    · have HQ : Hid (res = 3) := Lib.hid (HNO.out _ (by rw [hE, if_neg hs]) (by decide))
                      clear hE
                      rcases inR_no hs with hq | ⟨hq, hr⟩
                      · have hsx : decide (s < 0) = true := by simp; omega
                        go_wp2
                        go_ret
                        exact ⟨by rw [HQ.out]; rfl, OA.out⟩
                      · have hsx : decide (s < 0) = false := by simp; omega
                        have hsy : decide (s ≥ nodes) = true := by simp; omega
                        have hsz : decide (nodes ≤ s) = true := by simp; omega
                        go_wp2
                        go_ret
                        exact ⟨by rw [HQ.out]; rfl, OA.out⟩
                  · have hf0 : fe (svE sv i nodes) sv.length 0 = 0 := by rw [HF.out, fe_end (by omega)]
                    have HRG : Hid (res = if inR st 0 1125899906842624 = true then 0 else 3) := Lib.hid (by rw [HRF.out]; unfold ndE4; rw [if_pos hf0])
                    clear hf0
                    obtain rfl : k = sv.length := by omega
                    have g5 := cell_got B4.out 5; have l0 := got_lt B4.out
                    by_cases ht : inR st 0 1125899906842624 = true
                    · obtain ⟨ht0, ht1⟩ := inR_t.1 ht
                      have htx : decide (st < 0) = false := by simp; omega
                      have hty : decide (st > 1125899906842624) = false := by simp; omega
                      have htz : decide (1125899906842624 < st) = false := by simp; omega
                      have HQ : Hid (res = 0) := Lib.hid (by rw [HRG.out, if_pos ht])
                      clear ht
                      go_wp2
                      go_ret
                      exact ⟨by rw [HQ.out]; rfl, OA.out⟩
                    · have HQ : Hid (res = 3) := Lib.hid (by rw [HRG.out, if_neg ht])
                      rcases inR_no ht with hq | ⟨hq, hr⟩
                      · have htx : decide (st < 0) = true := by simp; omega
                        clear ht
                        go_wp2
                        go_ret
                        exact ⟨by rw [HQ.out]; rfl, OA.out⟩
                      · have htx : decide (st < 0) = false := by simp; omega
                        have hty : decide (st > 1125899906842624) = true := by simp; omega
                        have htz : decide (1125899906842624 < st) = true := by simp; omega
                        clear ht
                        go_wp2
                        go_ret
                        exact ⟨by rw [HQ.out]; rfl, OA.out⟩
            · have ez : (er != 0) = true := by simp [hz]
              have ew : (er == 0) = false := by simp [hz]
              have HQ : Hid (res = 3) := Lib.hid (by rw [HN2.out]; unfold ndE2; rw [if_neg (fun q => q.2.elim hz (fun h => by cases h))])
              clear hz her her0 her1
              go_wp2
              go_ret
              exact ⟨by rw [HQ.out]; rfl, O3.out⟩
        · have HQ : Hid (res = 3) := Lib.hid (by rw [HN2.out]; unfold ndE2; rw [if_neg (fun q => her q.1)])
          rcases inR_no her with hq | ⟨hq, hr⟩
          · have herx : decide (er < 0) = true := by simp; omega
            clear her
            go_wp2
            go_ret
            exact ⟨by rw [HQ.out]; rfl, O3.out⟩
          · have herx : decide (er < 0) = false := by simp; omega
            have hery : decide (er > 1125899906842624) = true := by simp; omega
            have herz : decide (1125899906842624 < er) = true := by simp; omega
            clear her
            go_wp2
            go_ret
            exact ⟨by rw [HQ.out]; rfl, O3.out⟩
    · have HQ : Hid (res = 3) := Lib.hid (by rw [HNE.out, if_pos hosc, if_neg htol])
      rw [hosc]
      rcases inR_no htol with hq | ⟨hq, hr⟩
      · have htolx : decide (tol < 0) = true := by simp; omega
        clear htol hosc
        go_wp2
        go_ret
        exact ⟨by rw [HQ.out]; rfl, O2.out⟩
      · have htolx : decide (tol < 0) = false := by simp; omega
        have htoly : decide (tol > 500000) = true := by simp; omega
        have htolz : decide (500000 < tol) = true := by simp; omega
        clear htol hosc
        go_wp2
        go_ret
        exact ⟨by rw [HQ.out]; rfl, O2.out⟩
  · have ox : (oscE ph sg != 0) = true := by simp [hosc]
    have oy : (oscE ph sg == 0) = false := by simp [hosc]
    have HQ : Hid (res = oscE ph sg) := Lib.hid (by rw [HNE.out, if_neg hosc])
    clear hosc
    go_wp2
    go_ret
    exact ⟨by rw [HQ.out]; rfl, O2.out⟩
end Go.Proofs.YthmeifdgkodjlaaGreatDoor

/- scenario.checkLink and scenario.Link; the records of nodes and links in memory. Condition: the lengths. -/
namespace Go.Proofs.YthmeifdgkodjlaaGreatDoor
open Go.RowKit

/-- a link in memory: its changes lie at `p` -/
structure LkW where
  l : Lk
  p : Option Addr
  c : Nat
structure NdW where
  n : Nd
  ps : Option Addr
  cs : Nat
  pv : Option Addr
  cv : Nat
def lkC (x : LkW) : List Value := [.int .i64 x.l.A, .int .i64 x.l.B, .int .i64 x.l.d0, .int .i64 x.l.d1, .int .i64 x.l.v0, .int .i64 x.l.v1, .int .i64 x.l.lo, .int .u64 x.l.sd, .slice x.p x.l.ch.length x.c]
def slV (x : LkW) : Value := .agg #[.int .i64 x.l.A, .int .i64 x.l.B, .int .i64 x.l.d0, .int .i64 x.l.d1, .int .i64 x.l.v0, .int .i64 x.l.v1, .int .i64 x.l.lo, .int .u64 x.l.sd, .slice x.p x.l.ch.length x.c]
def ndC (x : NdW) : List Value := [.int .i64 x.n.ph, .slice x.ps x.n.sg.length x.cs, .int .i64 x.n.tol, .bool x.n.rf, .int .i64 x.n.er, .int .i64 x.n.st, .slice x.pv x.n.sv.length x.cv]
theorem lkC_len (x : LkW) : (lkC x).length = 9 := rfl
theorem ndC_len (x : NdW) : (ndC x).length = 7 := rfl
theorem lkC_one (x : LkW) : ∀ u ∈ lkC x, u.oneCell' = true := by simp [lkC, Value.oneCell']
theorem ndC_one (x : NdW) : ∀ u ∈ ndC x, u.oneCell' = true := by simp [ndC, Value.oneCell']
/-- what a link's record points to -/
structure LkW.Ok (w : World) (x : LkW) : Prop where
  row : VRow chC 3 w x.p x.l.ch.length x.c x.l.ch
  len : x.l.ch.length ≤ 100000
structure NdW.Ok (w : World) (x : NdW) : Prop where
  seg : VRow sgC 2 w x.ps x.n.sg.length x.cs x.n.sg
  srv : VRow itC 1 w x.pv x.n.sv.length x.cv x.n.sv
  len : x.n.sg.length ≤ 100000
  ren : x.n.sv.length ≤ 100000
theorem LkW.Ok.kept {w w' : World} {x : LkW} (h : x.Ok w) (ho : Only [] w w') : x.Ok w' := ⟨h.row.kept ho, h.len⟩
theorem NdW.Ok.kept {w w' : World} {x : NdW} (h : x.Ok w) (ho : Only [] w w') : x.Ok w' := ⟨h.seg.kept ho, h.srv.kept ho, h.len, h.ren⟩
def lw0 : LkW := ⟨lk0, none, 0⟩
def nw0 : NdW := ⟨nd0, none, 0, none, 0⟩
theorem VRow.lk {w wr : World} {cap k : Nat} {p : Option Addr} {l : List LkW} (hv : VRow lkC 9 w p l.length cap l) (ho : Only [] w wr) (hk : k < l.length) :
    ∃ bk off, p = some ⟨bk, off, none⟩ ∧ bk < wr.heap.size ∧ wr.cell? ⟨bk, off + k * 9, none⟩ = some (.int .i64 (l.getD k lw0).l.A) ∧ wr.cell? ⟨bk, off + k * 9 + 1, none⟩ = some (.int .i64 (l.getD k lw0).l.B)
      ∧ wr.cell? ⟨bk, off + k * 9 + 2, none⟩ = some (.int .i64 (l.getD k lw0).l.d0) ∧ wr.cell? ⟨bk, off + k * 9 + 3, none⟩ = some (.int .i64 (l.getD k lw0).l.d1) ∧ wr.cell? ⟨bk, off + k * 9 + 4, none⟩ = some (.int .i64 (l.getD k lw0).l.v0)
      ∧ wr.cell? ⟨bk, off + k * 9 + 5, none⟩ = some (.int .i64 (l.getD k lw0).l.v1) ∧ wr.cell? ⟨bk, off + k * 9 + 6, none⟩ = some (.int .i64 (l.getD k lw0).l.lo) ∧ wr.cell? ⟨bk, off + k * 9 + 7, none⟩ = some (.int .u64 (l.getD k lw0).l.sd)
      ∧ wr.cell? ⟨bk, off + k * 9 + 8, none⟩ = some (.slice (l.getD k lw0).p (l.getD k lw0).l.ch.length (l.getD k lw0).c) := by
  obtain ⟨bk, off, hp, hb, hc⟩ := hv.at_ ho (getD_some lw0 hk)
  exact ⟨bk, off, hp, hb, hc 0 _ rfl, hc 1 _ rfl, hc 2 _ rfl, hc 3 _ rfl, hc 4 _ rfl, hc 5 _ rfl, hc 6 _ rfl, hc 7 _ rfl, hc 8 _ rfl⟩
theorem VRow.nd {w wr : World} {cap k : Nat} {p : Option Addr} {l : List NdW} (hv : VRow ndC 7 w p l.length cap l) (ho : Only [] w wr) (hk : k < l.length) :
    ∃ bk off, p = some ⟨bk, off, none⟩ ∧ bk < wr.heap.size ∧ wr.cell? ⟨bk, off + k * 7, none⟩ = some (.int .i64 (l.getD k nw0).n.ph) ∧ wr.cell? ⟨bk, off + k * 7 + 1, none⟩ = some (.slice (l.getD k nw0).ps (l.getD k nw0).n.sg.length (l.getD k nw0).cs)
      ∧ wr.cell? ⟨bk, off + k * 7 + 2, none⟩ = some (.int .i64 (l.getD k nw0).n.tol) ∧ wr.cell? ⟨bk, off + k * 7 + 3, none⟩ = some (.bool (l.getD k nw0).n.rf) ∧ wr.cell? ⟨bk, off + k * 7 + 4, none⟩ = some (.int .i64 (l.getD k nw0).n.er)
      ∧ wr.cell? ⟨bk, off + k * 7 + 5, none⟩ = some (.int .i64 (l.getD k nw0).n.st) ∧ wr.cell? ⟨bk, off + k * 7 + 6, none⟩ = some (.slice (l.getD k nw0).pv (l.getD k nw0).n.sv.length (l.getD k nw0).cv) := by
  obtain ⟨bk, off, hp, hb, hc⟩ := hv.at_ ho (getD_some nw0 hk)
  exact ⟨bk, off, hp, hb, hc 0 _ rfl, hc 1 _ rfl, hc 2 _ rfl, hc 3 _ rfl, hc 4 _ rfl, hc 5 _ rfl, hc 6 _ rfl⟩
/-- the error of a link, given the links before it -/
def clE (x : Lk) (bef : List Lk) (nodes : Int) : Int :=
  if inR x.A 0 (nodes - 1) = true ∧ inR x.B 0 (nodes - 1) = true then (if x.B ≤ x.A then 12 else if twin bef x = true then 10 else linkE x) else 3
theorem leE_cl (l : List Lk) (nodes : Int) (i : Nat) : leE l nodes i = clE (l.getD i lk0) (l.take i) nodes := rfl
def ClI (w : World) (x : Lk) (ls : List LkW) (vi : Value) (wr : World) : Prop :=
  ∃ k : Nat, k ≤ ls.length ∧ vi = .int .i64 k ∧ twin ((ls.map LkW.l).take k) x = false ∧ Only [] w wr
set_option maxRecDepth 100000 in
set_option maxHeartbeats 4000000 in
theorem pCLink {w : World} {p : Option Addr} {n cap : Nat} {ls : List LkW} (x : LkW) (nodes : Int) (hx : x.Ok w) (hv : VRow lkC 9 w p n cap ls) (hn : n ≤ 100000) :
    Calls Tryz.prog 22 #[slV x, .slice p n cap, .int .i64 nodes] w fun e w' => e = .returned (.int .i64 (clE x.l (ls.map LkW.l) nodes)) ∧ Only [] w w' := by
  have hl := hv.len
  subst hl
  obtain ⟨⟨A, B, d0, d1, v0, v1, lo, sd, ch⟩, pc, cc⟩ := x
  have HV := Lib.hid hv; have HX := Lib.hid hx; clear hv hx
  have HE := Lib.hid (show clE ⟨A, B, d0, d1, v0, v1, lo, sd, ch⟩ (ls.map LkW.l) nodes = if inR A 0 (nodes - 1) = true ∧ inR B 0 (nodes - 1) = true then (if B ≤ A then 12 else if twin (ls.map LkW.l) ⟨A, B, d0, d1, v0, v1, lo, sd, ch⟩ = true then 10 else linkE ⟨A, B, d0, d1, v0, v1, lo, sd, ch⟩) else 3 from rfl)
  have HP := Lib.hid (fun (w' : World) (ho : Only [] w w') => pLink (n := ch.length) ⟨A, B, d0, d1, v0, v1, lo, sd, ch⟩ (HX.out.row.kept ho) HX.out.len)
  unfold slV
  dsimp only at HP ⊢
  unfold lkV at HP
  dsimp only at HP
  generalize clE ⟨A, B, d0, d1, v0, v1, lo, sd, ch⟩ (ls.map LkW.l) nodes = res at HE ⊢
  clear HX
  go_enter Tryz.func22, Tryz.ntmps22
  go_upto_region 1 with (fail)
  refine alloc_abs (G := fun w0 => Code.wp _ _ _ _ w0) ?_
  intro w1 hb1 ho1 hs1
  have B1 := Lib.hid hb1; have O1 := Lib.hid ho1
  clear hb1 ho1 hs1
  have g0 := cell_got B1.out 0; have g1 := cell_got B1.out 1; have l0 := got_lt B1.out
  by_cases hA : inR A 0 (nodes - 1) = true
  · obtain ⟨hA0, hA1⟩ := inR_t.1 hA
    have hAx : decide (A < 0) = false := by simp; omega
    have hAy : decide (A ≥ nodes) = false := by simp; omega
    have hAz : decide (nodes ≤ A) = false := by simp; omega
    by_cases hB : inR B 0 (nodes - 1) = true
    · obtain ⟨hB0, hB1⟩ := inR_t.1 hB
      have hBx : decide (B < 0) = false := by simp; omega
      have hBy : decide (B ≥ nodes) = false := by simp; omega
      have hBz : decide (nodes ≤ B) = false := by simp; omega
      by_cases ho : B ≤ A
      · have ox : decide (A ≥ B) = true := decide_eq_true ho
        have oy : decide (B ≤ A) = true := decide_eq_true ho
        have HQ : Hid (res = 12) := Lib.hid (by rw [HE.out, if_pos ⟨hA, hB⟩, if_pos ho])
        clear ho hA hB
        go_wp2
        go_ret
        exact ⟨by rw [HQ.out]; rfl, O1.out⟩
      · have ox : decide (A ≥ B) = false := decide_eq_false ho
        have oy : decide (B ≤ A) = false := decide_eq_false ho
        have HR : Hid (res = if twin (ls.map LkW.l) ⟨A, B, d0, d1, v0, v1, lo, sd, ch⟩ = true then 10 else linkE ⟨A, B, d0, d1, v0, v1, lo, sd, ch⟩) := Lib.hid (by rw [HE.out, if_pos ⟨hA, hB⟩, if_neg ho])
        clear ho hA hB
        go_wp2
        clear hAx hAy hAz hBx hBy hBz ox oy hA0 hA1 hB0 hB1
        go_loopw [36] (fun vi wr => ClI w1 ⟨A, B, d0, d1, v0, v1, lo, sd, ch⟩ ls vi wr) (fun vi _ => ls.length - (intOf vi).toNat)
        case atStart => exact ⟨0, Nat.zero_le _, rfl, rfl, Only.refl _ _⟩
        case round =>
          clear g0 g1 l0
          obtain ⟨k, hk, rfl, htw, ho⟩ := hrel
          have HT := Lib.hid htw; have OO := Lib.hid ho; have OA := Lib.hid (O1.out.nil_trans ho); have B2 := Lib.hid (ho.got B1.out (by simp))
          clear htw ho
          by_cases hlt : k < ls.length
          · obtain ⟨bk, off, hp, lb, c0, c1, c2, c3, c4, c5, c6, c7, c8⟩ := HV.out.lk OA.out hlt
            subst hp
            have hgk := getD_some lw0 hlt
            have htk : twin ((ls.map LkW.l).take (k + 1)) ⟨A, B, d0, d1, v0, v1, lo, sd, ch⟩ = (decide ((ls.getD k lw0).l.A = A) && decide ((ls.getD k lw0).l.B = B)) := by
              rw [List.take_add_one, List.getElem?_map, hgk]
              have := HT.out
              unfold twin at this ⊢
              simp only [Option.map_some, Option.toList_some, List.any_append, this, Bool.false_or, List.any_cons, List.any_nil, Bool.or_false]
            have HTF : Hid (twin ((ls.map LkW.l).take (k + 1)) ⟨A, B, d0, d1, v0, v1, lo, sd, ch⟩ = true → res = 10) := Lib.hid (fun h => by
              rw [HR.out, if_pos]
              unfold twin at h ⊢
              rw [List.any_eq_true] at h ⊢
              obtain ⟨y, hy, hq⟩ := h
              exact ⟨y, List.mem_of_mem_take hy, hq⟩)
            generalize ls.getD k lw0 = c at c0 c1 c2 c3 c4 c5 c6 c7 c8 htk
            have HTK := Lib.hid htk
            clear hgk htk
            go_upto_region 9 with (fail)
            refine alloc_abs (G := fun w0 => Code.wp _ _ _ _ w0) ?_
            intro w4 hb4 ho4 hs4
            have E4 := Lib.hid hb4; have O4 := Lib.hid (OO.out.nil_trans ho4); have OB := Lib.hid (OA.out.nil_trans ho4); have B4 := Lib.hid (ho4.got B2.out (by simp))
            clear hb4 ho4 hs4 c0 c1 c2 c3 c4 c5 c6 c7 c8 lb
            have c0 := cell_got E4.out 0; have c1 := cell_got E4.out 1; have le := got_lt E4.out
            have g0 := cell_got B4.out 0; have g1 := cell_got B4.out 1; have l0 := got_lt B4.out
            by_cases ha : c.l.A = A
            · have ax : (c.l.A == A) = true := by simp [ha]
              by_cases hb : c.l.B = B
              · have bx : (c.l.B == B) = true := by simp [hb]
                have HQ : Hid (res = 10) := Lib.hid (HTF.out (by rw [HTK.out, ha, hb]; simp))
                clear ha hb
                go_wp2
                go_ret
                exact ⟨by rw [HQ.out]; rfl, OB.out⟩
              · have bx : (c.l.B == B) = false := by simp [hb]
                have HQ := Lib.hid (HTK.out.trans (by rw [decide_eq_false hb, Bool.and_false]))
                clear ha hb
                go_wp2
                go_roundw
                case rel => exact ⟨k + 1, by omega, by go_num, HQ.out, O4.out⟩
                case measure => first | (simp [intOf]; done) | (simp [intOf]; omega)
            · have ax : (c.l.A == A) = false := by simp [ha]
              have HQ := Lib.hid (HTK.out.trans (by rw [decide_eq_false ha, Bool.false_and]))
              clear ha
              go_wp2
              go_roundw
              case rel => exact ⟨k + 1, by omega, by go_num, HQ.out, O4.out⟩
              case measure => first | (simp [intOf]; done) | (simp [intOf]; omega)
          · obtain rfl : k = ls.length := by omega
            have HQ : Hid (res = linkE ⟨A, B, d0, d1, v0, v1, lo, sd, ch⟩) := Lib.hid (by
              have := HT.out
              rw [List.take_of_length_le (by simp)] at this
              rw [HR.out, if_neg (by rw [this]; simp)])
            have g2 := cell_got B2.out 2; have g3 := cell_got B2.out 3; have g4 := cell_got B2.out 4; have g5 := cell_got B2.out 5; have g6 := cell_got B2.out 6; have g7 := cell_got B2.out 7; have g8 := cell_got B2.out 8; have l0 := got_lt B2.out
            go_wp2_with fail
            refine (HP.out wr OA.out).mono ?_
            rintro e w5 ⟨rfl, ho5⟩
            go_wp2
            go_ret
            exact ⟨by rw [HQ.out]; rfl, OA.out.nil_trans ho5⟩
    · have HQ : Hid (res = 3) := Lib.hid (by rw [HE.out, if_neg (fun q => hB q.2)])
      rcases inR_no hB with hq | ⟨hq, hr⟩
      · have hBx : decide (B < 0) = true := by simp; omega
        clear hA hB
        go_wp2
        go_ret
        exact ⟨by rw [HQ.out]; rfl, O1.out⟩
      · have hBx : decide (B < 0) = false := by simp; omega
        have hBy : decide (B ≥ nodes) = true := by simp; omega
        have hBz : decide (nodes ≤ B) = true := by simp; omega
        clear hA hB
        go_wp2
        go_ret
        exact ⟨by rw [HQ.out]; rfl, O1.out⟩
  · have HQ : Hid (res = 3) := Lib.hid (by rw [HE.out, if_neg (fun q => hA q.1)])
    rcases inR_no hA with hq | ⟨hq, hr⟩
    · have hAx : decide (A < 0) = true := by simp; omega
      clear hA
      go_wp2
      go_ret
      exact ⟨by rw [HQ.out]; rfl, O1.out⟩
    · have hAx : decide (A < 0) = false := by simp; omega
      have hAy : decide (A ≥ nodes) = true := by simp; omega
      have hAz : decide (nodes ≤ A) = true := by simp; omega
      clear hA
      go_wp2
      go_ret
      exact ⟨by rw [HQ.out]; rfl, O1.out⟩
end Go.Proofs.YthmeifdgkodjlaaGreatDoor

/- scenario.Link. Condition: the lengths. -/
namespace Go.Proofs.YthmeifdgkodjlaaGreatDoor
open Go.RowKit

/-- a scene in memory -/
structure ScW where
  nd : List NdW
  lk : List LkW
  ft : List Ft
  un : Int
  sd : Int
  pn : Option Addr
  cn : Nat
  pl : Option Addr
  cl : Nat
  pf : Option Addr
  cf : Nat
def ScW.sc (s : ScW) : Sc := ⟨s.nd.map NdW.n, s.lk.map LkW.l, s.ft, s.un, s.sd⟩
def scV (s : ScW) : Value := .agg #[.slice s.pn s.nd.length s.cn, .slice s.pl s.lk.length s.cl, .slice s.pf s.ft.length s.cf, .int .i64 s.un, .int .u64 s.sd]
structure ScW.Ok (w : World) (s : ScW) : Prop where
  nd : VRow ndC 7 w s.pn s.nd.length s.cn s.nd
  lk : VRow lkC 9 w s.pl s.lk.length s.cl s.lk
  ft : VRow ftC 5 w s.pf s.ft.length s.cf s.ft
  ndo : ∀ x ∈ s.nd, x.Ok w
  lko : ∀ x ∈ s.lk, x.Ok w
  ln : s.nd.length ≤ 100000
  ll : s.lk.length ≤ 100000
  lf : s.ft.length ≤ 100000
theorem ScW.Ok.kept {w w' : World} {s : ScW} (h : s.Ok w) (ho : Only [] w w') : s.Ok w' :=
  ⟨h.nd.kept ho, h.lk.kept ho, h.ft.kept ho, fun x hx => (h.ndo x hx).kept ho, fun x hx => (h.lko x hx).kept ho, h.ln, h.ll, h.lf⟩
/-- what Link returns -/
def lnkV (o : Option (Nat × Bool)) : Value := match o with
  | none => .tuple #[.int .i64 (-1), .int .i64 0]
  | some (i, false) => .tuple #[.int .i64 i, .int .i64 0]
  | some (i, true) => .tuple #[.int .i64 i, .int .i64 1]
theorem lnkF_drop {a b : Int} {l : List Lk} {k : Nat} (hk : k < l.length) : lnkF a b (l.drop k) k = if (l.getD k lk0).A = a ∧ (l.getD k lk0).B = b then some (k, false) else if (l.getD k lk0).A = b ∧ (l.getD k lk0).B = a then some (k, true) else lnkF a b (l.drop (k + 1)) (k + 1) := by
  rw [List.drop_eq_getElem_cons hk, show l.getD k lk0 = l[k] by simp [List.getD_eq_getElem?_getD, hk]]
  rfl
def LnI (w : World) (a b : Int) (ls : List LkW) (vi : Value) (wr : World) : Prop :=
  ∃ k : Nat, k ≤ ls.length ∧ vi = .int .i64 k ∧ lnk (ls.map LkW.l) a b = lnkF a b ((ls.map LkW.l).drop k) k ∧ Only [] w wr
set_option maxRecDepth 100000 in
set_option maxHeartbeats 4000000 in
theorem pLnk {w : World} (s : ScW) (a b : Int) (hs : s.Ok w) :
    Calls Tryz.prog 18 #[scV s, .int .i64 a, .int .i64 b] w fun e w' => e = .returned (lnkV (lnk s.sc.lk a b)) ∧ Only [] w w' := by
  obtain ⟨nd, ls, ft, un, sd, pn, cn, p, cap, pf, cf⟩ := s
  have hn := hs.ll
  have HV := Lib.hid hs.lk; clear hs
  show Calls _ _ _ _ (fun e w' => e = .returned (lnkV (lnk (ls.map LkW.l) a b)) ∧ _)
  unfold scV
  dsimp only at hn HV ⊢
  obtain ⟨res, hres⟩ : ∃ res, res = lnk (ls.map LkW.l) a b := ⟨_, rfl⟩
  rw [← hres]
  have HRS := Lib.hid hres
  clear hres
  go_enter Tryz.func18, Tryz.ntmps18
  go_upto_region 1 with (fail)
  refine alloc_abs (G := fun w0 => Code.wp _ _ _ _ w0) ?_
  intro w1 hb1 ho1 hs1
  have B1 := Lib.hid hb1; have O1 := Lib.hid ho1
  clear hb1 ho1 hs1
  have g1 := cell_got B1.out 1; have l0 := got_lt B1.out
  go_wp2
  go_loopw [13] (fun vi wr => LnI w1 a b ls vi wr) (fun vi _ => ls.length - (intOf vi).toNat)
  case atStart => exact ⟨0, Nat.zero_le _, rfl, rfl, Only.refl _ _⟩
  case round =>
    clear g1 l0
    obtain ⟨k, hk, rfl, hln, ho⟩ := hrel
    have HL := Lib.hid (HRS.out.trans hln); have HL0 := Lib.hid hln; have OO := Lib.hid ho; have OA := Lib.hid (O1.out.nil_trans ho)
    clear hln ho
    by_cases hlt : k < ls.length
    · obtain ⟨bk, off, hp, lb, c0, c1, c2, c3, c4, c5, c6, c7, c8⟩ := HV.out.lk OA.out hlt
      subst hp
      have hdr := lnkF_drop (a := a) (b := b) (l := ls.map LkW.l) (k := k) (by simpa using hlt)
      rw [show (ls.map LkW.l).getD k lk0 = (ls.getD k lw0).l by simp [List.getD_eq_getElem?_getD, hlt]] at hdr
      generalize ls.getD k lw0 = c at c0 c1 c2 c3 c4 c5 c6 c7 c8 hdr
      have HD := Lib.hid hdr
      clear hdr
      go_upto_region 4 with (fail)
      refine alloc_abs (G := fun w0 => Code.wp _ _ _ _ w0) ?_
      intro w4 hb4 ho4 hs4
      have E4 := Lib.hid hb4; have O4 := Lib.hid (OO.out.nil_trans ho4); have OB := Lib.hid (OA.out.nil_trans ho4)
      clear hb4 ho4 hs4 c0 c1 c2 c3 c4 c5 c6 c7 c8 lb
      have c0 := cell_got E4.out 0; have c1 := cell_got E4.out 1; have le := got_lt E4.out
      by_cases h1 : c.l.A = a ∧ c.l.B = b
      · have HQ : Hid (res = some (k, false)) := Lib.hid (by rw [HL.out, HD.out, if_pos h1])
        have ax : (c.l.A == a) = true := by simp [h1.1]
        have bx : (c.l.B == b) = true := by simp [h1.2]
        clear h1
        go_wp2
        refine bodyPost_ret (v := .tuple #[.int .i64 k, .int .i64 0]) (by simp [results, Tryz.results18, go_sem]) rfl ⟨by rw [HQ.out]; rfl, OB.out⟩
      · by_cases h2 : c.l.A = b ∧ c.l.B = a
        · have HQ : Hid (res = some (k, true)) := Lib.hid (by rw [HL.out, HD.out, if_neg h1, if_pos h2])
          have ay : (c.l.A == b) = true := by simp [h2.1]
          have bY : (c.l.B == a) = true := by simp [h2.2]
          by_cases h3 : c.l.A = a
          · have ax : (c.l.A == a) = true := by simp [h3]
            have bx : (c.l.B == b) = false := by rw [beq_eq_false_iff_ne]; exact fun q => h1 ⟨h3, q⟩
            clear h1 h2 h3
            go_wp2
            refine bodyPost_ret (v := .tuple #[.int .i64 k, .int .i64 1]) (by simp [results, Tryz.results18, go_sem]) rfl ⟨by rw [HQ.out]; rfl, OB.out⟩
          · have ax : (c.l.A == a) = false := by simp [h3]
            clear h1 h2 h3
            go_wp2
            refine bodyPost_ret (v := .tuple #[.int .i64 k, .int .i64 1]) (by simp [results, Tryz.results18, go_sem]) rfl ⟨by rw [HQ.out]; rfl, OB.out⟩
        · have HQ := Lib.hid (HL0.out.trans (by rw [HD.out, if_neg h1, if_neg h2]))
          have hAB : ∃ x1 x2 x3 x4 : Bool, (c.l.A == a) = x1 ∧ (c.l.B == b) = x2 ∧ (c.l.A == b) = x3 ∧ (c.l.B == a) = x4 ∧ (x1 && x2) = false ∧ (x3 && x4) = false := by
            refine ⟨_, _, _, _, rfl, rfl, rfl, rfl, ?_, ?_⟩
            · rw [Bool.eq_false_iff]; intro q; rw [Bool.and_eq_true, beq_iff_eq, beq_iff_eq] at q; exact h1 q
            · rw [Bool.eq_false_iff]; intro q; rw [Bool.and_eq_true, beq_iff_eq, beq_iff_eq] at q; exact h2 q
          clear h1 h2
          obtain ⟨x1, x2, x3, x4, e1, e2, e3, e4, q1, q2⟩ := hAB
          cases x1 <;> cases x3
          · clear q1 q2
            go_wp2
            go_roundw
            case rel => exact ⟨k + 1, by omega, by go_num, HQ.out, O4.out⟩
            case measure => first | (simp [intOf]; done) | (simp [intOf]; omega)
          · obtain rfl : x4 = false := by simpa using q2
            clear q1 q2
            go_wp2
            go_roundw
            case rel => exact ⟨k + 1, by omega, by go_num, HQ.out, O4.out⟩
            case measure => first | (simp [intOf]; done) | (simp [intOf]; omega)
          · obtain rfl : x2 = false := by simpa using q1
            clear q1 q2
            go_wp2
            go_roundw
            case rel => exact ⟨k + 1, by omega, by go_num, HQ.out, O4.out⟩
            case measure => first | (simp [intOf]; done) | (simp [intOf]; omega)
          · obtain rfl : x2 = false := by simpa using q1
            obtain rfl : x4 = false := by simpa using q2
            clear q1 q2
            go_wp2
            go_roundw
            case rel => exact ⟨k + 1, by omega, by go_num, HQ.out, O4.out⟩
            case measure => first | (simp [intOf]; done) | (simp [intOf]; omega)
    · obtain rfl : k = ls.length := by omega
      have HQ : Hid (res = none) := Lib.hid (by rw [HL.out, List.drop_of_length_le (by simp)]; rfl)
      go_wp2
      refine bodyPost_ret (v := .tuple #[.int .i64 (-1), .int .i64 0]) (by simp [results, Tryz.results18, go_sem]) rfl ⟨by rw [HQ.out]; rfl, OA.out⟩
end Go.Proofs.YthmeifdgkodjlaaGreatDoor

/- scenario.Check. Condition: the lengths. -/
namespace Go.Proofs.YthmeifdgkodjlaaGreatDoor
open Go.RowKit

def chk5 (m : Nat) (ft : List Ft) (un : Int) : Int := if ft.all (fun f => decide (f.n < m)) = true then (if inR un 1 1125899906842624 = true then 0 else 3) else 3
def chk4 (m : Nat) (ft : List Ft) (un : Int) : Int := if fcE ft = 0 then chk5 m ft un else fcE ft
def chk3 (N : List Nd) (L : List Lk) (m : Nat) (ft : List Ft) (un : Int) : Int := if fe (fun i => jnE L i (N.getD i nd0)) m 0 = 0 then chk4 m ft un else 11
def chk2 (N : List Nd) (L : List Lk) (m q : Nat) (ft : List Ft) (un : Int) : Int := if fe (leE L m) q 0 = 0 then chk3 N L m ft un else fe (leE L m) q 0
def chk1 (N : List Nd) (L : List Lk) (m q : Nat) (ft : List Ft) (un : Int) : Int := if fe (fun i => ndE (N.getD i nd0) i m) m 0 = 0 then chk2 N L m q ft un else fe (fun i => ndE (N.getD i nd0) i m) m 0
theorem chkS_eq (s : ScW) : chkS s.sc = if s.nd.length = 0 then 14 else if 24 < s.nd.length ∨ 64 < s.lk.length then 6 else chk1 (s.nd.map NdW.n) (s.lk.map LkW.l) s.nd.length s.lk.length s.ft s.un := by
  unfold chkS ScW.sc chk1 chk2 chk3 chk4 chk5
  dsimp only
  rw [List.length_map, List.length_map]
theorem nd_at {ns : List NdW} {k : Nat} (hk : k < ns.length) : (ns.map NdW.n).getD k nd0 = (ns.getD k nw0).n := by simp [List.getD_eq_getElem?_getD, hk]
theorem lk_at {ns : List LkW} {k : Nat} (hk : k < ns.length) : (ns.map LkW.l).getD k lk0 = (ns.getD k lw0).l := by simp [List.getD_eq_getElem?_getD, hk]
theorem getD_mem {α : Type} {l : List α} {k : Nat} (z : α) (h : k < l.length) : l.getD k z ∈ l := List.mem_of_getElem? (getD_some z h)
def FeI (w : World) (F : Nat → Int) (n : Nat) (vi : Value) (wr : World) : Prop := ∃ k : Nat, k ≤ n ∧ vi = .int .i64 k ∧ fe F n 0 = fe F (n - k) k ∧ Only [] w wr
def AlI {α : Type} (w : World) (P : α → Bool) (l : List α) (vi : Value) (wr : World) : Prop := ∃ k : Nat, k ≤ l.length ∧ vi = .int .i64 k ∧ (l.take k).all P = true ∧ Only [] w wr
theorem all_take {α : Type} {P : α → Bool} {l : List α} {k : Nat} (z : α) (hk : k < l.length) (h : (l.take k).all P = true) : (l.take (k + 1)).all P = P (l.getD k z) := by
  rw [List.take_add_one, getD_some z hk]; simp [List.all_append, h]
theorem all_no {α : Type} {P : α → Bool} {l : List α} {k : Nat} (z : α) (hk : k < l.length) (h : P (l.getD k z) = false) : ¬ l.all P = true := by
  intro q
  rw [List.all_eq_true] at q
  rw [q _ (getD_mem z hk)] at h
  cases h
set_option maxRecDepth 100000 in
set_option maxHeartbeats 8000000 in
theorem pCheck {w : World} (s : ScW) (hs : s.Ok w) :
    Calls Tryz.prog 10 #[scV s] w fun e w' => e = .returned (.int .i64 (chkS s.sc)) ∧ Only [] w w' := by
  have hE := chkS_eq s
  have hlnk := fun (a b : Int) (w' : World) (ho : Only [] w w') => pLnk s a b (hs.kept ho)
  generalize chkS s.sc = res at hE ⊢
  obtain ⟨ns, ls, ft, un, sd, pn, cn, pl, cl, pf, cf⟩ := s
  have hn := hs.ln; have hl := hs.ll; have hf := hs.lf
  have HN := Lib.hid hs.nd; have HL := Lib.hid hs.lk; have HFT := Lib.hid hs.ft; have HNO := Lib.hid hs.ndo; have HLO := Lib.hid hs.lko
  clear hs
  unfold scV at hlnk ⊢
  dsimp only [ScW.sc] at hlnk hE hn hl hf HN HL HFT HNO HLO ⊢
  have HE := Lib.hid hE; have HLNK := Lib.hid hlnk
  clear hE hlnk
  go_enter Tryz.func10, Tryz.ntmps10
  go_upto_region 1 with (fail)
  refine alloc_abs (G := fun w0 => Code.wp _ _ _ _ w0) ?_
  intro w1 hb1 ho1 hs1
  have B1 := Lib.hid hb1; have O1 := Lib.hid ho1
  clear hb1 ho1 hs1
  have g0 := cell_got B1.out 0; have g1 := cell_got B1.out 1; have g2 := cell_got B1.out 2; have g3 := cell_got B1.out 3; have g4 := cell_got B1.out 4; have l0 := got_lt B1.out
  by_cases h0 : ns.length = 0
  · have z0 : ((ns.length : Int) == 0) = true := by rw [h0]; rfl
    have HQ : Hid (res = 14) := Lib.hid (by rw [HE.out, if_pos h0])
    go_wp2
    go_ret
    exact ⟨by rw [HQ.out]; rfl, O1.out⟩
  · have z0 : ((ns.length : Int) == 0) = false := by rw [beq_eq_false_iff_ne]; omega
    by_cases h24 : 24 < ns.length
    · have z1 : decide ((ns.length : Int) > 24) = true := decide_eq_true (by omega)
      have z2 : decide (24 < (ns.length : Int)) = true := decide_eq_true (by omega)
      have HQ : Hid (res = 6) := Lib.hid (by rw [HE.out, if_neg h0, if_pos (.inl h24)])
      go_wp2
      go_ret
      exact ⟨by rw [HQ.out]; rfl, O1.out⟩
    · have z1 : decide ((ns.length : Int) > 24) = false := decide_eq_false (by omega)
      have z2 : decide (24 < (ns.length : Int)) = false := decide_eq_false (by omega)
      by_cases h64 : 64 < ls.length
      · have z3 : decide ((ls.length : Int) > 64) = true := decide_eq_true (by omega)
        have z4 : decide (64 < (ls.length : Int)) = true := decide_eq_true (by omega)
        have HQ : Hid (res = 6) := Lib.hid (by rw [HE.out, if_neg h0, if_pos (.inr h64)])
        go_wp2
        go_ret
        exact ⟨by rw [HQ.out]; rfl, O1.out⟩
      · have z3 : decide ((ls.length : Int) > 64) = false := decide_eq_false (by omega)
        have z4 : decide (64 < (ls.length : Int)) = false := decide_eq_false (by omega)
        have z5 : True := trivial
        have H1 : Hid (res = chk1 (ns.map NdW.n) (ls.map LkW.l) ns.length ls.length ft un) := Lib.hid (by rw [HE.out, if_neg h0, if_neg (fun q => q.elim h24 h64)])
        clear h0 h24 h64
        go_wp2
        clear z0 z1 z2 z3 z4 z5
        go_loopw [35] (fun vi wr => FeI w1 (fun i => ndE ((ns.map NdW.n).getD i nd0) i ns.length) ns.length vi wr) (fun vi _ => ns.length - (intOf vi).toNat)
        case atStart => exact ⟨0, Nat.zero_le _, rfl, rfl, Only.refl _ _⟩
        case round =>
          clear g0 g1 g2 g3 g4 l0
          obtain ⟨k, hk, rfl, hfe, ho⟩ := hrel
          have HF := Lib.hid hfe; have OO := Lib.hid ho; have OA := Lib.hid (O1.out.nil_trans ho); have BB := Lib.hid (ho.got B1.out (by simp))
          clear hfe ho
          by_cases hlt : k < ns.length
          · obtain ⟨bk, off, hp, lb, c0, c1, c2, c3, c4, c5, c6⟩ := HN.out.nd OA.out hlt
            subst hp
            have HXO := Lib.hid (HNO.out _ (getD_mem nw0 hlt))
            have HNV := Lib.hid (fun (w' : World) (ho : Only [] w w') => pNode (ns.getD k nw0).n k ns.length (HXO.out.seg.kept ho) (HXO.out.srv.kept ho) HXO.out.len HXO.out.ren)
            have HNN : Hid (ndE (ns.getD k nw0).n k ns.length ≠ 0 → res = ndE (ns.getD k nw0).n k ns.length) := Lib.hid (fun h => by
              have h2 := HF.out.trans (fe_no hlt (by rw [nd_at hlt]; exact h))
              try dsimp only at h2
              rw [nd_at hlt] at h2
              rw [H1.out]; unfold chk1; rw [h2, if_neg h])
            have HNY : Hid (ndE (ns.getD k nw0).n k ns.length = 0 → fe (fun i => ndE ((ns.map NdW.n).getD i nd0) i ns.length) ns.length 0 = fe (fun i => ndE ((ns.map NdW.n).getD i nd0) i ns.length) (ns.length - (k + 1)) (k + 1)) := Lib.hid (fun h => HF.out.trans (fe_yes hlt (by rw [nd_at hlt]; exact h)))
            generalize ns.getD k nw0 = x at c0 c1 c2 c3 c4 c5 c6 HXO HNV HNN HNY
            unfold ndV at HNV
            generalize ndE x.n k ns.length = er at HNV HNN HNY
            go_upto_region 9 with (fail)
            refine alloc_abs (G := fun w0 => Code.wp _ _ _ _ w0) ?_
            intro w6 hb6 ho6 hs6
            have E6 := Lib.hid hb6; have O6 := Lib.hid (OO.out.nil_trans ho6); have OB := Lib.hid (OA.out.nil_trans ho6); have B6 := Lib.hid (ho6.got BB.out (by simp))
            clear hb6 ho6 hs6 c0 c1 c2 c3 c4 c5 c6 lb
            have c0 := cell_got E6.out 0; have c1 := cell_got E6.out 1; have c2 := cell_got E6.out 2; have c3 := cell_got E6.out 3; have c4 := cell_got E6.out 4; have c5 := cell_got E6.out 5; have c6 := cell_got E6.out 6; have le := got_lt E6.out
            have g0 := cell_got B6.out 0; have g1 := cell_got B6.out 1; have g2 := cell_got B6.out 2; have g3 := cell_got B6.out 3; have g4 := cell_got B6.out 4; have l0 := got_lt B6.out
            go_wp2_with fail
            refine (HNV.out w6 OB.out).mono ?_
            rintro e w7 ⟨rfl, ho7⟩
            have O7 := Lib.hid (O6.out.nil_trans ho7); have OC := Lib.hid (OB.out.nil_trans ho7)
            clear ho7 c0 c1 c2 c3 c4 c5 c6 le
            clear g0 g1 g2 g3 g4 l0
            by_cases h0 : er = 0
            · have HQ := Lib.hid (HNY.out h0)
              have ex : (er != 0) = false := by simp [h0]
              have ey : (er == 0) = true := by simp [h0]
              clear h0
              go_wp2
              go_roundw
              case rel => exact ⟨k + 1, by omega, by go_num, HQ.out, O7.out⟩
              case measure => first | (simp [intOf]; done) | (simp [intOf]; omega)
            · have HQ := Lib.hid (HNN.out h0)
              have ex : (er != 0) = true := by simp [h0]
              have ey : (er == 0) = false := by simp [h0]
              clear h0
              go_wp2
              go_ret
              exact ⟨by rw [HQ.out]; rfl, OC.out⟩
          · have HX0 : fe (fun i => ndE ((ns.map NdW.n).getD i nd0) i ns.length) ns.length 0 = 0 := by rw [HF.out, fe_end (by omega)]
            obtain rfl : k = ns.length := by omega
            have H2 : Hid (res = chk2 (ns.map NdW.n) (ls.map LkW.l) ns.length ls.length ft un) := Lib.hid (by rw [H1.out]; unfold chk1; rw [if_pos HX0])
            clear HX0
            obtain ⟨w2, hwo⟩ : ∃ wo : World, wo = wr := ⟨_, rfl⟩
            subst hwo
            have B2 := BB; have O2 := OA
            clear BB OA OO HF
            have g0 := cell_got B2.out 0; have g1 := cell_got B2.out 1; have g2 := cell_got B2.out 2; have g3 := cell_got B2.out 3; have g4 := cell_got B2.out 4; have l0 := got_lt B2.out
            go_wp2
            go_loopw [53] (fun vi wr => FeI w2 (leE (ls.map LkW.l) ns.length) ls.length vi wr) (fun vi _ => ls.length - (intOf vi).toNat)
            case atStart => exact ⟨0, Nat.zero_le _, rfl, rfl, Only.refl _ _⟩
            case round =>
              clear g0 g1 g2 g3 g4 l0
              obtain ⟨k, hk, rfl, hfe, ho⟩ := hrel
              have HF := Lib.hid hfe; have OO := Lib.hid ho; have OA := Lib.hid (O2.out.nil_trans ho); have BB := Lib.hid (ho.got B2.out (by simp))
              clear hfe ho
              by_cases hlt : k < ls.length
              · obtain ⟨bk, off, hp, lb, c0, c1, c2, c3, c4, c5, c6, c7, c8⟩ := HL.out.lk OA.out hlt
                have hlc := HL.out.le
                have HXO := Lib.hid (HLO.out _ (getD_mem lw0 hlt))
                have hle : leE (ls.map LkW.l) ns.length k = clE (ls.getD k lw0).l ((ls.take k).map LkW.l) ns.length := by rw [leE_cl, lk_at hlt, List.map_take]
                have HLV := Lib.hid (fun (w' : World) (ho : Only [] w w') => pCLink (ls.getD k lw0) ns.length (HXO.out.kept ho) ((HL.out.take k (Nat.le_of_lt hlt)).kept ho) (by omega))
                rw [← hle] at HLV
                have HLN : Hid (leE (ls.map LkW.l) ns.length k ≠ 0 → res = leE (ls.map LkW.l) ns.length k) := Lib.hid (fun h => by
                  have h2 := HF.out.trans (fe_no hlt h)
                  rw [H2.out]; unfold chk2; rw [h2, if_neg h])
                have HLY : Hid (leE (ls.map LkW.l) ns.length k = 0 → fe (leE (ls.map LkW.l) ns.length) ls.length 0 = fe (leE (ls.map LkW.l) ns.length) (ls.length - (k + 1)) (k + 1)) := Lib.hid (fun h => HF.out.trans (fe_yes hlt h))
                subst hp
                clear hle
                generalize ls.getD k lw0 = x at c0 c1 c2 c3 c4 c5 c6 c7 c8 HXO HLV
                unfold slV at HLV
                generalize leE (ls.map LkW.l) ns.length k = er at HLV HLN HLY
                go_upto_region 16 with (fail)
                refine alloc_abs (G := fun w0 => Code.wp _ _ _ _ w0) ?_
                intro w6 hb6 ho6 hs6
                have E6 := Lib.hid hb6; have O6 := Lib.hid (OO.out.nil_trans ho6); have OB := Lib.hid (OA.out.nil_trans ho6); have B6 := Lib.hid (ho6.got BB.out (by simp))
                clear hb6 ho6 hs6 c0 c1 c2 c3 c4 c5 c6 c7 c8
                have c0 := cell_got E6.out 0; have c1 := cell_got E6.out 1; have c2 := cell_got E6.out 2; have c3 := cell_got E6.out 3; have c4 := cell_got E6.out 4; have c5 := cell_got E6.out 5; have c6 := cell_got E6.out 6; have c7 := cell_got E6.out 7; have c8 := cell_got E6.out 8; have le := got_lt E6.out
                have g0 := cell_got B6.out 0; have g1 := cell_got B6.out 1; have g2 := cell_got B6.out 2; have g3 := cell_got B6.out 3; have g4 := cell_got B6.out 4; have l0 := got_lt B6.out
                have z1 : (k : Int) ≤ (cl : Int) := by omega
                have z2 : k ≤ cl := by omega
                refine wp_region_grown [0, 1, 2, 3, 4, 5, 6, 7] [8, 9] (by kernel_rfl) (by kernel_rfl) ?_
                simp only [pick, List.map_cons, List.map_nil, List.getD_cons_succ, List.getD_cons_zero]
                iterate 8 (refine wpQuiet_step (fun K hK => ?_); go_simp; refine hK _ ?_; clear hK K)
                refine wpQuiet_nil ?_
                intro w7 hw7
                have O7 := Lib.hid (O6.out.nil_trans (only_of_plus hw7)); have OC := Lib.hid (OB.out.nil_trans (only_of_plus hw7))
                clear hw7 c0 c1 c2 c3 c4 c5 c6 c7 c8 le g0 g1 g2 g3 g4 l0 z1 z2
                go_wp2_with fail
                refine (HLV.out w7 OC.out).mono ?_
                rintro e w8 ⟨rfl, ho8⟩
                have O8 := Lib.hid (O7.out.nil_trans ho8); have OD := Lib.hid (OC.out.nil_trans ho8)
                clear ho8
                by_cases h0 : er = 0
                · have HQ := Lib.hid (HLY.out h0)
                  have ex : (er != 0) = false := by simp [h0]
                  have ey : (er == 0) = true := by simp [h0]
                  clear h0
                  go_wp2
                  go_roundw
                  case rel => exact ⟨k + 1, by omega, by go_num, HQ.out, O8.out⟩
                  case measure => first | (simp [intOf]; done) | (simp [intOf]; omega)
                · have HQ := Lib.hid (HLN.out h0)
                  have ex : (er != 0) = true := by simp [h0]
                  have ey : (er == 0) = false := by simp [h0]
                  clear h0
                  go_wp2
                  go_ret
                  exact ⟨by rw [HQ.out]; rfl, OD.out⟩
              · have HX0 : fe (leE (ls.map LkW.l) ns.length) ls.length 0 = 0 := by rw [HF.out, fe_end (by omega)]
                obtain rfl : k = ls.length := by omega
                have H3 : Hid (res = chk3 (ns.map NdW.n) (ls.map LkW.l) ns.length ft un) := Lib.hid (by rw [H2.out]; unfold chk2; rw [if_pos HX0])
                clear HX0
                obtain ⟨w3, hwo⟩ : ∃ wo : World, wo = wr := ⟨_, rfl⟩
                subst hwo
                have B3 := BB; have O3 := OA
                clear BB OA OO HF
                have g0 := cell_got B3.out 0; have g1 := cell_got B3.out 1; have g2 := cell_got B3.out 2; have g3 := cell_got B3.out 3; have g4 := cell_got B3.out 4; have l0 := got_lt B3.out
                go_wp2
                go_loopw [74] (fun vi wr => FeI w3 (fun i => jnE (ls.map LkW.l) i ((ns.map NdW.n).getD i nd0)) ns.length vi wr) (fun vi _ => ns.length - (intOf vi).toNat)
                case atStart => exact ⟨0, Nat.zero_le _, rfl, rfl, Only.refl _ _⟩
                case round =>
                  clear g0 g1 g2 g3 g4 l0
                  obtain ⟨k, hk, rfl, hfe, ho⟩ := hrel
                  have HF := Lib.hid hfe; have OO := Lib.hid ho; have OA := Lib.hid (O3.out.nil_trans ho); have BB := Lib.hid (ho.got B3.out (by simp))
                  clear hfe ho
                  by_cases hlt : k < ns.length
                  · obtain ⟨bk, off, hp, lb, c0, c1, c2, c3, c4, c5, c6⟩ := HN.out.nd OA.out hlt
                    subst hp
                    have HXO := Lib.hid (HNO.out _ (getD_mem nw0 hlt))
                    have HJN : Hid (jnE (ls.map LkW.l) k (ns.getD k nw0).n = 11 → res = 11) := Lib.hid (fun h => by
                      have h2 := HF.out.trans (fe_no hlt (by rw [nd_at hlt, h]; decide))
                      try dsimp only at h2
                      rw [nd_at hlt, h] at h2
                      rw [H3.out]; unfold chk3; rw [h2]; rfl)
                    have HJY : Hid (jnE (ls.map LkW.l) k (ns.getD k nw0).n = 0 → fe (fun i => jnE (ls.map LkW.l) i ((ns.map NdW.n).getD i nd0)) ns.length 0 = fe (fun i => jnE (ls.map LkW.l) i ((ns.map NdW.n).getD i nd0)) (ns.length - (k + 1)) (k + 1)) := Lib.hid (fun h => HF.out.trans (fe_yes hlt (by rw [nd_at hlt, h])))
                    generalize ns.getD k nw0 = x at c0 c1 c2 c3 c4 c5 c6 HXO HJN HJY
                    have hxr := HXO.out.ren
                    go_upto_region 23 with (fail)
                    refine alloc_abs (G := fun w0 => Code.wp _ _ _ _ w0) ?_
                    intro w6 hb6 ho6 hs6
                    have E6 := Lib.hid hb6; have O6 := Lib.hid (OO.out.nil_trans ho6); have OB := Lib.hid (OA.out.nil_trans ho6); have B6 := Lib.hid (ho6.got BB.out (by simp))
                    clear hb6 ho6 hs6 c0 c1 c2 c3 c4 c5 c6 lb
                    have s6 := cell_got E6.out 6; have ls6 := got_lt E6.out
                    have g0 := cell_got B6.out 0; have g1 := cell_got B6.out 1; have g2 := cell_got B6.out 2; have g3 := cell_got B6.out 3; have g4 := cell_got B6.out 4; have l0 := got_lt B6.out
                    go_wp2
                    go_loopw [82] (fun vi wr => AlI w6 (fun v => (lnk (ls.map LkW.l) k v).isSome) x.n.sv vi wr) (fun vi _ => x.n.sv.length - (intOf vi).toNat)
                    case atStart => exact ⟨0, Nat.zero_le _, rfl, rfl, Only.refl _ _⟩
                    case round =>
                      clear s6 ls6 g0 g1 g2 g3 g4 l0
                      obtain ⟨j, hj, rfl, hall, ho⟩ := hrel
                      have HA := Lib.hid hall; have OO' := Lib.hid (O6.out.nil_trans ho); have OA' := Lib.hid (OB.out.nil_trans ho); have BB' := Lib.hid (ho.got B6.out (by simp)); have OI := Lib.hid ho
                      clear hall ho
                      by_cases hlj : j < x.n.sv.length
                      · obtain ⟨bk, off, hp, c0, lb⟩ := (HXO.out.srv).it OA'.out hlj
                        have hp6 := hp
                        have HTK := Lib.hid (all_take (P := fun v => (lnk (ls.map LkW.l) k v).isSome) 0 hlj HA.out)
                        have HBD : Hid ((lnk (ls.map LkW.l) k (x.n.sv.getD j 0)).isSome = false → jnE (ls.map LkW.l) k x.n = 11) := Lib.hid (fun h => by unfold jnE; rw [if_neg (all_no (P := fun v => (lnk (ls.map LkW.l) k v).isSome) 0 hlj h)])
                        generalize x.n.sv.getD j 0 = v at c0 HTK HBD
                        have g0 := cell_got BB'.out 0; have g1 := cell_got BB'.out 1; have g2 := cell_got BB'.out 2; have g3 := cell_got BB'.out 3; have g4 := cell_got BB'.out 4; have l0 := got_lt BB'.out
                        rw [hp]
                        clear hp6
                        go_wp2_with fail
                        refine (HLNK.out k v wr OA'.out).mono ?_
                        rintro e w7 ⟨rfl, ho7⟩
                        have O7 := Lib.hid (OI.out.nil_trans ho7); have OC := Lib.hid (OA'.out.nil_trans ho7)
                        clear ho7
                        clear g0 g1 g2 g3 g4 l0 c0 lb
                        generalize lnk (ls.map LkW.l) k v = o at HTK HBD ⊢
                        rcases o with _ | ⟨i, d⟩
                        · have HQ : Hid (res = 11) := Lib.hid (HJN.out (HBD.out rfl))
                          unfold lnkV
                          dsimp only
                          go_wp2
                          go_ret
                          exact ⟨by rw [HQ.out]; rfl, OC.out⟩
                        · have ix : decide ((i : Int) < 0) = false := decide_eq_false (by omega)
                          have HQ := Lib.hid (HTK.out.trans rfl)
                          cases d with
                          | false =>
                            unfold lnkV
                            dsimp only
                            go_wp2
                            go_roundw
                            case rel => exact ⟨j + 1, by omega, by go_num, HQ.out, O7.out⟩
                            case measure => first | (simp [intOf]; done) | (simp [intOf]; omega)
                          | true =>
                            unfold lnkV
                            dsimp only
                            go_wp2
                            go_roundw
                            case rel => exact ⟨j + 1, by omega, by go_num, HQ.out, O7.out⟩
                            case measure => first | (simp [intOf]; done) | (simp [intOf]; omega)
                      · obtain rfl : j = x.n.sv.length := by omega
                        have hal := HA.out
                        rw [List.take_of_length_le (Nat.le_refl _)] at hal
                        have HQ := Lib.hid (HJY.out (by unfold jnE; rw [if_pos hal]))
                        clear hal
                        go_wp2
                        go_roundw
                        case rel => exact ⟨k + 1, by omega, by go_num, HQ.out, OO'.out⟩
                        case measure => first | (simp [intOf]; done) | (simp [intOf]; omega)
                  · have HX0 : fe (fun i => jnE (ls.map LkW.l) i ((ns.map NdW.n).getD i nd0)) ns.length 0 = 0 := by rw [HF.out, fe_end (by omega)]
                    obtain rfl : k = ns.length := by omega
                    have H4 : Hid (res = chk4 ns.length ft un) := Lib.hid (by rw [H3.out]; unfold chk3; rw [if_pos HX0])
                    clear HX0
                    obtain ⟨w4, hwo⟩ : ∃ wo : World, wo = wr := ⟨_, rfl⟩
                    subst hwo
                    have B4 := BB; have O4 := OA
                    clear BB OA OO HF
                    have g0 := cell_got B4.out 0; have g1 := cell_got B4.out 1; have g2 := cell_got B4.out 2; have g3 := cell_got B4.out 3; have g4 := cell_got B4.out 4; have l0 := got_lt B4.out
                    go_wp2_with fail
                    refine (pFault (HFT.out.kept O4.out) hf).mono ?_
                    rintro e w5 ⟨rfl, ho5⟩
                    have B5 := Lib.hid (ho5.got B4.out (by simp)); have O5 := Lib.hid (O4.out.nil_trans ho5)
                    clear ho5
                    clear g0 g1 g2 g3 g4 l0
                    have g0 := cell_got B5.out 0; have g1 := cell_got B5.out 1; have g2 := cell_got B5.out 2; have g3 := cell_got B5.out 3; have g4 := cell_got B5.out 4; have l0 := got_lt B5.out
                    by_cases hc : fcE ft = 0
                    · have H5 : Hid (res = chk5 ns.length ft un) := Lib.hid (by rw [H4.out]; unfold chk4; rw [if_pos hc])
                      rw [hc]
                      clear hc
                      go_wp2
                      go_loopw [106] (fun vi wr => AlI w5 (fun f : Ft => decide (f.n < (ns.length : Int))) ft vi wr) (fun vi _ => ft.length - (intOf vi).toNat)
                      case atStart => exact ⟨0, Nat.zero_le _, rfl, rfl, Only.refl _ _⟩
                      case round =>
                        clear g0 g1 g2 g3 g4 l0
                        obtain ⟨k, hk, rfl, hfe, ho⟩ := hrel
                        have HF := Lib.hid hfe; have OO := Lib.hid ho; have OA := Lib.hid (O5.out.nil_trans ho); have BB := Lib.hid (ho.got B5.out (by simp))
                        clear hfe ho
                        by_cases hlt : k < ft.length
                        · obtain ⟨bk, off, hp, c0, c1, c2, c3, c4, lb⟩ := HFT.out.ft OA.out hlt
                          subst hp
                          have HTK := Lib.hid (all_take ft0 hlt HF.out)
                          have HBD : Hid (decide ((ft.getD k ft0).n < (ns.length : Int)) = false → res = 3) := Lib.hid (fun h => by rw [H5.out]; unfold chk5; rw [if_neg (all_no (P := fun f : Ft => decide (f.n < (ns.length : Int))) ft0 hlt h)])
                          generalize ft.getD k ft0 = f at c0 c1 c2 c3 c4 HTK HBD
                          go_upto_region 37 with (fail)
                          refine alloc_abs (G := fun w0 => Code.wp _ _ _ _ w0) ?_
                          intro w6 hb6 ho6 hs6
                          have E6 := Lib.hid hb6; have O6 := Lib.hid (OO.out.nil_trans ho6); have OB := Lib.hid (OA.out.nil_trans ho6); have B6 := Lib.hid (ho6.got BB.out (by simp))
                          clear hb6 ho6 hs6 c0 c1 c2 c3 c4 lb
                          have c0 := cell_got E6.out 0; have le := got_lt E6.out; have g0 := cell_got B6.out 0; have l0 := got_lt B6.out
                          by_cases hc : f.n < (ns.length : Int)
                          · have cx : decide (f.n ≥ (ns.length : Int)) = false := decide_eq_false (by omega)
                            have cy : decide ((ns.length : Int) ≤ f.n) = false := decide_eq_false (by omega)
                            have HQ := Lib.hid (HTK.out.trans (decide_eq_true hc))
                            clear hc
                            go_wp2
                            go_roundw
                            case rel => exact ⟨k + 1, by omega, by go_num, HQ.out, O6.out⟩
                            case measure => first | (simp [intOf]; done) | (simp [intOf]; omega)
                          · have cx : decide (f.n ≥ (ns.length : Int)) = true := decide_eq_true (by omega)
                            have cy : decide ((ns.length : Int) ≤ f.n) = true := decide_eq_true (by omega)
                            have HQ := Lib.hid (HBD.out (decide_eq_false hc))
                            clear hc
                            go_wp2
                            go_ret
                            exact ⟨by rw [HQ.out]; rfl, OB.out⟩
                        · obtain rfl : k = ft.length := by omega
                          have hal := HF.out
                          rw [List.take_of_length_le (Nat.le_refl _)] at hal
                          have HU : Hid (res = if inR un 1 1125899906842624 = true then 0 else 3) := Lib.hid (by rw [H5.out]; unfold chk5; rw [if_pos hal])
                          clear hal
                          have g0 := cell_got BB.out 0; have g1 := cell_got BB.out 1; have g2 := cell_got BB.out 2; have g3 := cell_got BB.out 3; have g4 := cell_got BB.out 4; have l0 := got_lt BB.out
                          by_cases hu : inR un 1 1125899906842624 = true
                          · obtain ⟨u0, u1⟩ := inR_t.1 hu
                            have ux : decide (un < 1) = false := decide_eq_false (by omega)
                            have uy : decide (un > 1125899906842624) = false := decide_eq_false (by omega)
                            have uz : decide (1125899906842624 < un) = false := decide_eq_false (by omega)
                            have HQ : Hid (res = 0) := Lib.hid (by rw [HU.out, if_pos hu])
                            clear hu
                            go_wp2
                            go_ret
                            exact ⟨by rw [HQ.out]; rfl, OA.out⟩
                          · have HQ : Hid (res = 3) := Lib.hid (by rw [HU.out, if_neg hu])
                            rcases inR_no hu with hq | ⟨hq, hr⟩
                            · have ux : decide (un < 1) = true := decide_eq_true (by omega)
                              clear hu
                              go_wp2
                              go_ret
                              exact ⟨by rw [HQ.out]; rfl, OA.out⟩
                            · have ux : decide (un < 1) = false := decide_eq_false (by omega)
                              have uy : decide (un > 1125899906842624) = true := decide_eq_true (by omega)
                              have uz : decide (1125899906842624 < un) = true := decide_eq_true (by omega)
                              clear hu
                              go_wp2
                              go_ret
                              exact ⟨by rw [HQ.out]; rfl, OA.out⟩
                    · have HQ : Hid (res = fcE ft) := Lib.hid (by rw [H4.out]; unfold chk4; rw [if_neg hc])
                      have cx : (fcE ft != 0) = true := by simp [hc]
                      have cy : (fcE ft == 0) = false := by simp [hc]
                      clear hc
                      go_wp2
                      go_ret
                      exact ⟨by rw [HQ.out]; rfl, O5.out⟩
end Go.Proofs.YthmeifdgkodjlaaGreatDoor

/- A writer of the call's own: WriteString, WriteByte, String, walked by hand. Condition: the lengths. -/
namespace Go.Proofs.YthmeifdgkodjlaaGreatDoor
open Go.RowKit

/-- of the blocks of `w` only `b` and rows of bytes may have changed -/
structure FrB (b : Nat) (w w' : World) : Prop where
  os : w'.os = w.os
  tape : w'.tape = w.tape
  output : w'.output = w.output
  size : w.heap.size ≤ w'.heap.size
  block : ∀ k o, w.heap[k]? = some o → k ≠ b → (∀ c z, o ≠ .cells c 5 z) → w'.heap[k]? = some o
theorem frB_only {b : Nat} {w w' : World} (h : Only [] w w') : FrB b w w' := ⟨h.os, h.tape, h.output, h.size, fun _ _ hk _ _ => h.got hk (by simp)⟩
theorem frB_refl (b : Nat) (w : World) : FrB b w w := frB_only (Only.refl _ _)
theorem FrB.trans {b : Nat} {u v w : World} (h : FrB b u v) (k : FrB b v w) : FrB b u w :=
  ⟨k.os.trans h.os, k.tape.trans h.tape, k.output.trans h.output, Nat.le_trans h.size k.size, fun i o hi hb hc => k.block i o (h.block i o hi hb hc) hb hc⟩
theorem FrB.got {b k : Nat} {w w' : World} {c : Array Value} {t : TypeId} {z : Nat × Nat} (h : FrB b w w') (hk : w.heap[k]? = some (.cells c t z)) (hb : k ≠ b) (ht : t ≠ 5) : w'.heap[k]? = some (.cells c t z) :=
  h.block k _ hk hb (fun c' z' e => by cases e; exact ht rfl)
theorem FrB.row {α : Type} {enc : α → List Value} {e : TypeId} {s b g cap : Nat} {w w' : World} {l : List α} (h : FrB b w w') (hr : RowAt enc e s w g cap l) (hb : g ≠ b) (he : e ≠ 5) : RowAt enc e s w' g cap l := by
  obtain ⟨cur, hg, r⟩ := hr
  exact ⟨cur, h.got hg hb he, r⟩
theorem frB_setCell {b o : Nat} {w : World} (v : Value) : FrB b w (w.setCell ⟨b, o, none⟩ v) :=
  ⟨rfl, rfl, rfl, by simp [World.setCell], fun k _ hk hb _ => by rw [← hk]; exact Below.heap_setCell _ _ _ _ hb⟩

/-- the writer that the call made in the world `w0` holds these bytes; nothing else that was there has changed -/
def Bld (w0 w : World) (l : List UInt8) : Prop := Lib.IsBuilder 67 5 w0.heap.size w0.heap.size (Lib.byteCells l) w ∧ Only [] w0 w
theorem byteCells_append (a b : List UInt8) : Lib.byteCells (a ++ b) = Lib.byteCells a ++ Lib.byteCells b := by simp [Lib.byteCells]
theorem owns_kept {w w' : World} {B : Nat} {e : TypeId} {s n : Nat} {v : Value} {xs : List Value} (h : w.ownsRow B e s v n xs) (ho : Only [] w w') : w'.ownsRow B e s v n xs := by
  refine ⟨h.1, ?_⟩
  rcases h.2 with h2 | ⟨g, cap, cur, h1, h2, h3, h4⟩
  · exact .inl h2
  · exact .inr ⟨g, cap, cur, h1, h2, ho.got h3 (by simp), h4⟩
theorem builderAt_kept {w w' : World} {T e : TypeId} {B b : Nat} {p : Value} {bs : List Value} (h : Lib.BuilderAt T e B b p bs w) (ho : Only [] w w') : Lib.BuilderAt T e B b p bs w' := by
  obtain ⟨h1, v, h2, h3, h4⟩ := h
  exact ⟨h1, v, ho.got h2 (by simp), owns_kept h3 ho, h4⟩
theorem Bld.kept {w0 w w' : World} {l : List UInt8} (h : Bld w0 w l) (ho : Only [] w w') : Bld w0 w' l := by
  refine ⟨?_, h.2.nil_trans ho⟩
  rcases h.1 with h | h
  · exact .inl (builderAt_kept h ho)
  · exact .inr (builderAt_kept h ho)
theorem only_of_belowB {w0 w w' : World} (ho : Only [] w0 w) (hb : Below w0.heap.size w w') : Only [] w0 w' :=
  ⟨hb.os.trans ho.os, hb.tape.trans ho.tape, hb.output.trans ho.output, Nat.le_trans ho.size hb.size, fun k hk hn => (hb.block k hk).trans (ho.block k hk hn)⟩
theorem bld_new {w0 w : World} (hb : w.heap[w0.heap.size]? = some (.cells #[.pointer none, .slice none 0 0] 67 (0, 0))) (ho : Only [] w0 w) : Bld w0 w [] :=
  ⟨.inl ⟨Nat.le_refl _, .slice none 0 0, hb, ⟨rfl, .inl ⟨rfl, rfl⟩⟩, by simp [Value.ownBlock]⟩, ho⟩
set_option maxHeartbeats 1000000 in
set_option maxRecDepth 100000 in
/-- copyCheck at a builder that has been used: nothing turns -/
theorem bcc_used (b : Nat) (w : World) (h0 : w.cell? ⟨b, 0, none⟩ = some (.pointer (some ⟨b, 0, none⟩))) :
    Calls Tryz.prog 56 #[.pointer (some ⟨b, 0, none⟩)] w fun e w' => e = .returned (.tuple #[]) ∧ w' = w := by
  obtain ⟨j, hj, _⟩ := Option.map_eq_some_iff.1 (show (Tryz.prog.info? 65).map (·.size) = some 2 by kernel_rfl)
  go_enter Tryz.func56, Tryz.ntmps56
  go_wp2
  rw [Lib.run_neq_ptr_same w _ Tryz.underlying62 hj]
  go_wp2
  go_end0
  exact ⟨rfl, rfl⟩
set_option maxHeartbeats 1000000 in
set_option maxRecDepth 100000 in
/-- copyCheck at a fresh builder: it stores its own address -/
theorem bcc_fresh (b : Nat) (w : World) (h0 : w.cell? ⟨b, 0, none⟩ = some (.pointer none)) (hsh : w.shape? b = some (67, 2)) (hfz : w.frozen? ⟨b, 0, none⟩ = false) :
    Calls Tryz.prog 56 #[.pointer (some ⟨b, 0, none⟩)] w fun e w' => e = .returned (.tuple #[]) ∧ w' = w.setCell ⟨b, 0, none⟩ (.pointer (some ⟨b, 0, none⟩)) := by
  obtain ⟨j, hj, hjs⟩ := Option.map_eq_some_iff.1 (show (Tryz.prog.info? 65).map (·.size) = some 2 by kernel_rfl)
  go_enter Tryz.func56, Tryz.ntmps56
  go_wp2
  rw [Lib.run_to_unsafe w ⟨b, 0, none⟩ Tryz.underlying62 Tryz.underlying132 hj (by rw [hjs]; decide) hsh (Nat.zero_lt_succ 1)]
  simp only [Result.andThen]
  rw [Oper.upon_value]
  go_wp2
  rw [run_callFunc_extern Tryz.func89 (by kernel_rfl) (by kernel_rfl) (by kernel_rfl) (e := Extern.AbiNoEscape.same) (by kernel_rfl)]
  rw [Lib.run_noEscape]
  simp only [Result.andThen]
  rw [Oper.upon_value]
  go_wp2
  rw [Lib.run_from_unsafe w ⟨b, 0, none⟩ Tryz.underlying132 Tryz.underlying62 hj hsh (by kernel_rfl)]
  simp only [Result.andThen]
  rw [Oper.upon_value]
  go_wp2
  go_end0
  exact ⟨rfl, rfl⟩
theorem bcc_any {w0 w : World} {l : List UInt8} (h : Bld w0 w l) :
    Calls Tryz.prog 56 #[.pointer (some ⟨w0.heap.size, 0, none⟩)] w fun e w' => e = .returned (.tuple #[]) ∧ Lib.BuilderAt 67 5 w0.heap.size w0.heap.size (.pointer (some ⟨w0.heap.size, 0, none⟩)) (Lib.byteCells l) w' ∧ Only [] w0 w' ∧ FrB w0.heap.size w w' := by
  obtain ⟨h, ho⟩ := h
  rcases h with h | h
  · refine (bcc_fresh w0.heap.size w h.cell0 h.shape h.frozen0).mono ?_
    rintro e w' ⟨rfl, rfl⟩
    exact ⟨rfl, h.used _, ho.setCell (.inr (Nat.le_refl _)) _, frB_setCell _⟩
  · refine (bcc_used w0.heap.size w h.cell0).mono ?_
    rintro e w' ⟨rfl, rfl⟩
    exact ⟨rfl, h, ho, frB_refl _ _⟩
theorem frB_grown {b B n : Nat} {w w' : World} {v : Value} {xs : List Value} (hg : w.grownBy w' v.ownBlock) (hown : w.ownsRow B 5 1 v n xs) : FrB b w w' := by
  refine ⟨hg.os, hg.tape, hg.output, hg.size, fun k o hk _ hc => ?_⟩
  rw [← hk]
  refine hg.block k (got_lt hk) (fun e => ?_)
  rcases hown.2 with ⟨rfl, _⟩ | ⟨g, cap, cur, rfl, _, h3, _⟩
  · simp [Value.ownBlock] at e
  · simp only [Value.ownBlock, Option.some.injEq] at e
    subst e
    rw [hk] at h3
    exact hc _ _ (Option.some.inj h3)
theorem only_grown {n : Nat} {w0 w w' : World} {v : Value} {xs : List Value} (ho : Only [] w0 w) (hg : w.grownBy w' v.ownBlock) (hown : w.ownsRow w0.heap.size 5 1 v n xs) : Only [] w0 w' :=
  ho.grown hg (fun k hk => .inr (hown.lt k hk).1)
set_option maxHeartbeats 2000000 in
set_option maxRecDepth 100000 in
theorem bWriteString {w0 w : World} {l : List UInt8} (h : Bld w0 w l) (s : ByteArray) (hlen : l.length + s.size ≤ 100000000) :
    Calls Tryz.prog 29 #[.pointer (some ⟨w0.heap.size, 0, none⟩), .string s] w fun e w' => e = .returned (.tuple #[.int .i64 s.size, .nilIface]) ∧ Bld w0 w' (l ++ s.data.toList) ∧ FrB w0.heap.size w w' := by
  have HC := Lib.hid (bcc_any h)
  clear h
  cases hi : Tryz.prog.info? 5 with
  | none => exact absurd (show (Tryz.prog.info? 5).isSome = true by kernel_rfl) (by rw [hi]; simp)
  | some i =>
    have hi3 : (Tryz.prog.info? 5).map (fun i => (i.zero, i.size, i.bytes)) = some (some (.int .u8 0), 1, 1) := by kernel_rfl
    rw [hi] at hi3
    simp only [Option.map_some, Option.some.injEq, Prod.mk.injEq] at hi3
    obtain ⟨i1, i2, i3⟩ := hi3
    go_enter Tryz.func29, Tryz.ntmps29
    go_wp2_with fail
    refine HC.out.mono ?_
    rintro e w1 ⟨rfl, h1, ho1, hf1⟩
    obtain ⟨hB, v, hbk, hown, hne⟩ := h1
    have O1 := Lib.hid ho1; have F1 := Lib.hid hf1
    clear ho1 hf1
    have c0 : w1.cell? ⟨w0.heap.size, 0, none⟩ = some (.pointer (some ⟨w0.heap.size, 0, none⟩)) := by rw [cell_got hbk]; rfl
    have c1 : w1.cell? ⟨w0.heap.size, 1, none⟩ = some v := by rw [cell_got hbk]; rfl
    have hsz1 := O1.out.size
    go_wp2_with (at_builtin; refine Lib.wpList_append_own_string _ rfl _ _ 63 9 rfl w0.heap.size 5 i Tryz.underlying63 Tryz.underlying9 hi i1 i2 i3 _ _ _ rfl hown s rfl ?c3 ?c4 ?c5 ?_)
    case c3 => unfold maxLen; rw [Lib.byteCells_length]; omega
    case c4 => rw [Lib.byteCells_length]; omega
    case c5 => omega
    intro v' w2 hown' hgrow _
    have hlt := got_lt hbk
    have hb2 : w2.heap[w0.heap.size]? = some (.cells #[.pointer (some ⟨w0.heap.size, 0, none⟩), v] 67 (0, 0)) := by
      rw [hgrow.block _ hlt (fun e => hne e.symm)]
      exact hbk
    have d0 := cell_got hb2 0; have d1 := cell_got hb2 1
    have f1 := frozen_got hb2 1
    obtain ⟨ao, n', cap, rfl⟩ : ∃ ao n' cap, v' = .slice ao n' cap := by
      rcases hown'.2 with ⟨hv, _⟩ | ⟨g, cap, cur, hv, _⟩
      · exact ⟨_, _, _, hv⟩
      · exact ⟨_, _, _, hv⟩
    have O2 := Lib.hid (only_grown O1.out hgrow hown)
    have F2 := Lib.hid (F1.out.trans (frB_grown hgrow hown))
    have HB := Lib.hid hb2; have HO := Lib.hid hown'
    clear hgrow hown hown' hbk hb2 hi i1 i2 i3 hne c0 c1 hlt
    go_wp2
    go_ret2
    refine ⟨rfl, ⟨.inr ?_, O2.out.setCell (.inr (Nat.le_refl _)) _⟩, F2.out.trans (frB_setCell _)⟩
    rw [byteCells_append]
    exact Lib.BuilderAt.put (T := 67) (e := 5) hB HB.out (bs' := Lib.byteCells l ++ Lib.strCells s) (by simpa [Lib.strCells_length] using HO.out) (by decide)
set_option maxHeartbeats 1000000 in
set_option maxRecDepth 100000 in
theorem bWriteByte {w0 w : World} {l : List UInt8} (h : Bld w0 w l) (c : UInt8) (hlen : l.length ≤ 100000000) :
    Calls Tryz.prog 55 #[.pointer (some ⟨w0.heap.size, 0, none⟩), .int .u8 c.toNat] w fun e w' => e = .returned .nilIface ∧ Bld w0 w' (l ++ [c]) ∧ FrB w0.heap.size w w' := by
  have HC := Lib.hid (bcc_any h)
  clear h
  go_enter Tryz.func55, Tryz.ntmps55
  go_wp2_with fail
  refine HC.out.mono ?_
  rintro e w1 ⟨rfl, h1, ho1, hf1⟩
  obtain ⟨hB, v, hbk, hown, hne⟩ := h1
  have O1 := Lib.hid ho1; have F1 := Lib.hid hf1
  clear ho1 hf1
  have c0 : w1.cell? ⟨w0.heap.size, 0, none⟩ = some (.pointer (some ⟨w0.heap.size, 0, none⟩)) := by rw [cell_got hbk]; rfl
  have c1 : w1.cell? ⟨w0.heap.size, 1, none⟩ = some v := by rw [cell_got hbk]; rfl
  have l1 := got_lt hbk
  rw [Lib.byteCells_length] at hown
  have HO := Lib.hid hown; have HN := Lib.hid hne; have HB := Lib.hid hbk
  clear hown hne hbk HC
  go_wp2_with (at_builtin; refine stop_here ?_)
  refine alloc_abs (G := fun w0 => Stop (wpList _ _ _ _ _ w0)) ?_
  intro w2 hb2 ho2 hs2
  have O2 := Lib.hid (O1.out.nil_trans ho2); have HO2 := Lib.hid (owns_kept HO.out ho2); have HB2 := Lib.hid (ho2.got HB.out (by simp)); have X2 := Lib.hid hb2; have F2 := Lib.hid (F1.out.trans (frB_only ho2))
  clear hb2 ho2 hs2 c0 c1 l1
  refine stop_go ?_
  cases hi : Tryz.prog.info? 5 with
  | none => exact absurd (show (Tryz.prog.info? 5).isSome = true by kernel_rfl) (by rw [hi]; simp)
  | some i =>
    have hi3 : (Tryz.prog.info? 5).map (fun i => (i.zero, i.size, i.bytes)) = some (some (.int .u8 0), 1, 1) := by kernel_rfl
    rw [hi] at hi3
    simp only [Option.map_some, Option.some.injEq, Prod.mk.injEq] at hi3
    obtain ⟨i1, i2, i3⟩ := hi3
    refine wpList_append_own _ rfl _ _ 63 rfl w0.heap.size 5 i (.int .u8 0) 1 1 Tryz.underlying63 hi i1 i2 i3 rfl (by decide) v l.length (Lib.byteCells l) rfl HO2.out ⟨w1.heap.size, 0, none⟩ 1 1 [.int .u8 c.toNat] rfl rfl (fun j u hj => ?_) (by simp [Value.oneCell']) (by simp [maxLen]; omega) (by omega) O2.out.size ?_
    · have hadd : (⟨w1.heap.size, 0, none⟩ : Addr).add j = ⟨w1.heap.size, j, none⟩ := by rw [addr_add]; simp
      rw [hadd, cell_got X2.out]; simpa using hj
    intro v' w3 hown3 hgrow _
    have hB3 : w3.heap[w0.heap.size]? = _ := (hgrow.block _ (got_lt HB2.out) (fun e => HN.out e.symm)).trans HB2.out
    have O3 := Lib.hid (only_grown O2.out hgrow HO2.out)
    have F3 := Lib.hid (F2.out.trans (frB_grown hgrow HO2.out))
    have d0 := cell_got hB3 0; have d1 := cell_got hB3 1
    have f1 := frozen_got hB3 1
    have l3 := got_lt hB3
    obtain ⟨g, cap, rfl⟩ : ∃ g cap, v' = .slice (some ⟨g, 0, none⟩) (l.length + 1) cap := by
      rcases hown3.2 with ⟨_, h0⟩ | ⟨g, cap, cur, hv, _⟩
      · omega
      · exact ⟨g, cap, hv⟩
    have HO3 := Lib.hid hown3; have HB3 := Lib.hid hB3
    clear hown3 hgrow hB3 hi i1 i2 i3
    go_wp2
    go_ret
    refine ⟨rfl, ⟨.inr ?_, O3.out.setCell (.inr (Nat.le_refl _)) _⟩, F3.out.trans (frB_setCell _)⟩
    refine Lib.BuilderAt.put (Nat.le_refl _) HB3.out (bs' := Lib.byteCells (l ++ [c])) ?_ (by decide)
    rw [Lib.byteCells_length, List.length_append, byteCells_append]
    exact HO3.out
set_option maxHeartbeats 1000000 in
set_option maxRecDepth 100000 in
/-- String of a writer that holds bytes -/
theorem bString {w0 w : World} {l : List UInt8} (h : Bld w0 w l) (h0 : l ≠ []) :
    Calls Tryz.prog 35 #[.pointer (some ⟨w0.heap.size, 0, none⟩)] w fun e w' => e = .returned (.string ⟨l.toArray⟩) ∧ Only [] w0 w' := by
  obtain ⟨h, ho⟩ := h
  obtain ⟨p, hB, v, hbk, hown, hne⟩ : ∃ p, Lib.BuilderAt 67 5 w0.heap.size w0.heap.size p (Lib.byteCells l) w := by
    rcases h with h | h
    · exact ⟨_, h⟩
    · exact ⟨_, h⟩
  have hl0 : l.length ≠ 0 := by simpa using h0
  rw [Lib.byteCells_length] at hown
  obtain ⟨g, cap, cur, rfl, hbg, hg, hnc, hcm, hcs, htake⟩ : ∃ g cap cur, v = .slice (some ⟨g, 0, none⟩) l.length cap ∧ w0.heap.size ≤ g ∧ w.heap[g]? = some (.cells cur 5 (0, 0)) ∧ l.length ≤ cap ∧ cap ≤ maxLen ∧ cur.size = cap * 1 ∧ cur.toList.take (l.length * 1) = Lib.byteCells l := by
    rcases hown.2 with ⟨_, hz⟩ | ⟨g, cap, cur, hv, r⟩
    · exact absurd hz hl0
    · exact ⟨g, cap, cur, hv, r⟩
  have c1 : w.drew.cell? ⟨w0.heap.size, 1, none⟩ = some (.slice (some ⟨g, 0, none⟩) l.length cap) := by
    have : w.drew.heap[w0.heap.size]? = some (.cells #[p, .slice (some ⟨g, 0, none⟩) l.length cap] 67 (0, 0)) := hbk
    rw [cell_got this]; rfl
  have hSD : (Builtin.unsafeSliceData_ #[63] 114 #[.slice (some ⟨g, 0, none⟩) l.length cap]).run Tryz.prog w.drew = .ok (.pointer (some ⟨g, 0, none⟩)) w.drew :=
    Lib.run_unsafeSliceData_row _ _ _ _ _ _ (by omega)
  have hUS : (Builtin.unsafeString_ #[114, 3] 9 #[.pointer (some ⟨g, 0, none⟩), .int .i64 l.length]).run Tryz.prog w.drew = .ok (.string ⟨l.toArray⟩) (w.drew.freeze ⟨g, 0, none⟩ l.length) := by
    refine Lib.run_unsafeString_row w.drew 114 3 9 5 Tryz.underlying114 (by kernel_rfl) g cur.size (by have hg' : w.drew.heap[g]? = some (.cells cur 5 (0, 0)) := hg; simp [World.shape?, hg']) l h0 (by omega) (by unfold maxLen at hcm; omega) ?_
    intro j x hx
    have := hown.cells (g := g) rfl j (.int .u8 x.toNat) (by simp [Lib.byteCells, hx])
    exact this
  have HO := Lib.hid ho; have mixed : Tryz.prog.follows .mixedOrders = true := by kernel_rfl
  clear ho hown htake hg hbk h hne
  go_enter Tryz.func35, Tryz.ntmps35
  go_wp2
  go_region_o
  all_goals (go_wp2; go_ret; exact ⟨rfl, only_of_belowB HO.out (Lib.below_freeze (Below.drew (Below.refl w0.heap.size w)) (p := ⟨g, 0, none⟩) hbg _)⟩)
end Go.Proofs.YthmeifdgkodjlaaGreatDoor
