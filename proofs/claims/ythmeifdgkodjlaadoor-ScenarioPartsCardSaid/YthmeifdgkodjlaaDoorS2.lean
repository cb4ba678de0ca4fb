/- The text of a scene, and the scene of a text, in plain Lean. No condition. -/
import Derived.Test.YthmeifdgkodjlaaDoorS1
import Derived.Test.YthmeifdgkodjlaaDoorTv
namespace Go.Proofs.YthmeifdgkodjlaaDoor

def wUntil : List UInt8 := [117, 110, 116, 105, 108]
def wSeed : List UInt8 := [115, 101, 101, 100]
def wNode : List UInt8 := [110, 111, 100, 101]
def wTol : List UInt8 := [116, 111, 108]
def wStart : List UInt8 := [115, 116, 97, 114, 116]
def wRef : List UInt8 := [114, 101, 102]
def wOsc : List UInt8 := [111, 115, 99]
def wSeg : List UInt8 := [115, 101, 103]
def wUse : List UInt8 := [117, 115, 101]
def wLink : List UInt8 := [108, 105, 110, 107]
def wChange : List UInt8 := [99, 104, 97, 110, 103, 101]
def wFault : List UInt8 := [102, 97, 117, 108, 116]
def kinds9 : List (List UInt8) := [[100, 114, 111, 112], [115, 104, 105, 102, 116], [110, 97, 114, 114, 111, 119], [109, 117, 116, 101], [115, 116, 114, 97, 116, 117, 109], [108, 101, 97, 112], [98, 111, 103, 117, 115], [107, 105, 115, 115], [104, 111, 108, 100]]
/-- the number of a natural that is written so -/
def natO (l : List UInt8) : Option Nat := match Lib.decFrom 0 l with
  | some m => if m ≤ 18446744073709551615 ∧ Lib.decDigits m = l then some m else none
  | none => none
/-- the lines of a scene, each as its words -/
def it (n : Int) : List UInt8 := Lib.itoa n
def ndH (n : Nd) (i : Int) : List (List UInt8) := [wNode, it i, wTol, it n.tol, wStart, it n.st] ++ if n.rf then [wRef, it n.er] else []
def sgW (i : Int) (s : Sg) : List (List UInt8) := [wSeg, it i, it s.a, it s.p]
def svW (i : Int) (v : Int) : List (List UInt8) := [wUse, it i, it v]
def ndW (n : Nd) (i : Int) : List (List (List UInt8)) := [ndH n i, [wOsc, it i, it n.ph]] ++ n.sg.map (sgW i) ++ n.sv.map (svW i)
def chW (l : Lk) (c : Ch) : List (List UInt8) := [wChange, it l.A, it l.B, it c.a, it c.d, it c.y]
def lkH (l : Lk) : List (List UInt8) := [wLink, it l.A, it l.B, it l.d0, it l.d1, it l.v0, it l.v1, it l.lo, Lib.decDigits l.sd.toNat]
def lkW (l : Lk) : List (List (List UInt8)) := lkH l :: l.ch.map (chW l)
def ftW (f : Ft) : List (List UInt8) := [wFault, it f.n, it f.f, it f.t, kinds9.getD (f.k - 1).toNat [], it f.v]
def ndsW : List Nd → Int → List (List (List UInt8))
  | [], _ => []
  | n :: r, i => ndW n i ++ ndsW r (i + 1)
def scW (s : Sc) : List (List (List UInt8)) := [[wUntil, it s.un], [wSeed, Lib.decDigits s.sd.toNat]] ++ ndsW s.nd 0 ++ s.lk.flatMap lkW ++ s.ft.map ftW
def lnT (ws : List (List UInt8)) : List UInt8 := joinC 32 ws ++ [10]
def scT (s : Sc) : List UInt8 := (scW s).flatMap lnT
def txtS (s : Sc) : List UInt8 × Int := if chkS s = 0 then (scT s, 0) else ([], 2)

/-! ### reading -/
structure SSt where
  sc : Sc
  at_ : Nat
def sc0 : Sc := ⟨[], [], [], 0, 0⟩
def ss0 : SSt := ⟨sc0, 0⟩
def whole (k : Nat) : Bool := decide (k = 2 ∨ 4 ≤ k)
def numsO : List (List UInt8) → Option (List Int)
  | [] => some []
  | x :: r => match numO x, numsO r with
    | some n, some l => some (n :: l)
    | _, _ => none
/-- the last node with a change -/
def lastN (l : List Nd) (f : Nd → Nd) : List Nd := l.dropLast ++ (l.getLast?.map f).toList
def lastL (l : List Lk) (f : Lk → Lk) : List Lk := l.dropLast ++ (l.getLast?.map f).toList
def rdUntil (x : SSt) : List (List UInt8) → Option SSt
  | [a] => if x.at_ = 0 then (numO a).map fun n => ⟨{ x.sc with un := n }, 1⟩ else none
  | _ => none
def rdSeed (x : SSt) : List (List UInt8) → Option SSt
  | [a] => if x.at_ = 1 then (natO a).map fun (n : Nat) => (⟨{ x.sc with sd := (n : Int) }, 2⟩ : SSt) else none
  | _ => none
def addN (x : SSt) (n : Nd) : SSt := ⟨{ x.sc with nd := x.sc.nd ++ [n] }, 3⟩
def rdNode (x : SSt) : List (List UInt8) → Option SSt
  | [i, w2, t, w4, s] => if (x.at_ = 2 ∨ x.at_ = 4 ∨ x.at_ = 5) ∧ w2 = wTol ∧ w4 = wStart then
      (match numsO [i, t, s] with
       | some [a, b, c] => if a = x.sc.nd.length then some (addN x ⟨0, [], b, false, 0, c, []⟩) else none
       | _ => none) else none
  | [i, w2, t, w4, s, w6, e] => if (x.at_ = 2 ∨ x.at_ = 4 ∨ x.at_ = 5) ∧ w2 = wTol ∧ w4 = wStart then
      (match numsO [i, t, s] with
       | some [a, b, c] => if a = x.sc.nd.length then (match numO e with
           | some d => if w6 = wRef then some (addN x ⟨0, [], b, true, d, c, []⟩) else none
           | none => none) else none
       | _ => none) else none
  | _ => none
def rdPart (x : SSt) (w : List UInt8) (r : List (List UInt8)) : Option SSt := match numsO r with
  | some (k :: ns) => if 0 < x.sc.nd.length ∧ k = (x.sc.nd.length : Int) - 1 then
      (match ns with
       | [a] => if w = wOsc ∧ x.at_ = 3 then some ⟨{ x.sc with nd := lastN x.sc.nd (fun n => { n with ph := a }) }, 4⟩
           else if w = wUse ∧ (x.at_ = 4 ∨ x.at_ = 5) then some ⟨{ x.sc with nd := lastN x.sc.nd (fun n => { n with sv := n.sv ++ [a] }) }, 5⟩ else none
       | [a, p] => if w = wSeg ∧ x.at_ = 4 then some ⟨{ x.sc with nd := lastN x.sc.nd (fun n => { n with sg := n.sg ++ [⟨a, p⟩] }) }, 4⟩ else none
       | _ => none) else none
  | _ => none
def rdLink (x : SSt) : List (List UInt8) → Option SSt
  | [a, b, c, d, e, f, g, h] => if whole x.at_ = true ∧ x.at_ ≠ 7 then
      (match numsO [a, b, c, d, e, f, g] with
       | some [a, b, c, d, e, f, g] => (natO h).map fun (n : Nat) => (⟨{ x.sc with lk := x.sc.lk ++ [⟨a, b, c, d, e, f, g, (n : Int), []⟩] }, 6⟩ : SSt)
       | _ => none) else none
  | _ => none
def rdChange (x : SSt) (r : List (List UInt8)) : Option SSt :=
  if x.at_ = 6 then (match numsO r with
    | some [a, b, t, d, y] => (match x.sc.lk.getLast? with
        | some l => if a = l.A ∧ b = l.B then some ⟨{ x.sc with lk := lastL x.sc.lk (fun l => { l with ch := l.ch ++ [⟨t, d, y⟩] }) }, 6⟩ else none
        | none => none)
    | _ => none) else none
/-- the index of a word -/
def idxW (w : List UInt8) : List (List UInt8) → Nat → Option Nat
  | [], _ => none
  | x :: r, i => if x = w then some i else idxW w r (i + 1)
def rdFault (x : SSt) : List (List UInt8) → Option SSt
  | [a, b, c, w, d] => if whole x.at_ = true then
      (match numsO [a, b, c, d] with
       | some [a, b, c, d] => (idxW w kinds9 1).map fun (k : Nat) => (⟨{ x.sc with ft := x.sc.ft ++ [⟨a, b, c, (k : Int), d⟩] }, 7⟩ : SSt)
       | _ => none) else none
  | _ => none
def rdW (x : SSt) : List (List UInt8) → Option SSt
  | [] => none
  | w :: r => if w = wUntil then rdUntil x r else if w = wSeed then rdSeed x r else if w = wNode then rdNode x r
      else if w = wOsc ∨ w = wSeg ∨ w = wUse then rdPart x w r else if w = wLink then rdLink x r else if w = wChange then rdChange x r
      else if w = wFault then rdFault x r else none
/-- the pieces of a text between line feeds: the state, or the number of the wrong line -/
def rdA : SSt → Nat → List (List UInt8) → Except Nat SSt
  | _, n, [] => .error n
  | x, n, [l] => if l = [] ∧ whole x.at_ = true then .ok x else .error n
  | x, n, l :: r => match rdW x (pcs 32 l) with
    | none => .error n
    | some y => rdA y (n + 1) r
def prsS (s : List UInt8) : Sc × Nat × Int := match rdA ss0 1 (pcs 10 s) with
  | .error n => (sc0, n, 19)
  | .ok x => if chkS x.sc = 0 then (x.sc, 0, 0) else (sc0, 0, chkS x.sc)
end Go.Proofs.YthmeifdgkodjlaaDoor
