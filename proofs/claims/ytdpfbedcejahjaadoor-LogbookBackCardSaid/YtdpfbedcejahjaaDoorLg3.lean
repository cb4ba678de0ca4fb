/- Keys of a map that are letters. No condition. -/
import Derived.Test.YtdpfbedcejahjaaDoorLg2
namespace Go.Proofs.YtdpfbedcejahjaaDoor
open Go.RowKit

/-- a letter: kind, node, peer, number -/
structure Lt where
  k : Int
  n : Int
  p : Int
  m : Int
  deriving DecidableEq
def ltE (l : Lt) : Value := .agg #[.int .i64 l.k, .int .i64 l.n, .int .i64 l.p, .int .i64 l.m]

theorem lt_check (e : Bool) (l : Lt) (w : World) : (Instr.checkKey e 10000 50 (ltE l)).run Tryd.prog w = .ok () w := by kernel_rfl
theorem lt_bits (l : Lt) : Instr.sameBits 10000 (ltE l) (ltE l) = true := by simp [ltE, Instr.sameBits]
theorem lt_equal (a b : Lt) (w : World) : (Op.equal 50 (ltE a) (ltE b)).run Tryd.prog w = .ok (decide (a = b)) w := by
  obtain ⟨a1, a2, a3, a4⟩ := a
  obtain ⟨b1, b2, b3, b4⟩ := b
  have h : (Op.equal 50 (ltE ⟨a1, a2, a3, a4⟩) (ltE ⟨b1, b2, b3, b4⟩)).run Tryd.prog w = .ok (a1 == b1 && a2 == b2 && a3 == b3 && a4 == b4) w := by
    unfold ltE
    rw [show Op.equal 50 (.agg #[.int .i64 a1, .int .i64 a2, .int .i64 a3, .int .i64 a4]) (.agg #[.int .i64 b1, .int .i64 b2, .int .i64 b3, .int .i64 b4]) = Op.equalIn (9999 + 1) 50 (.agg #[.int .i64 a1, .int .i64 a2, .int .i64 a3, .int .i64 a4]) (.agg #[.int .i64 b1, .int .i64 b2, .int .i64 b3, .int .i64 b4]) from rfl,
      run_equalIn_struct w 9999 50 _ _ (by kernel_rfl) (by kernel_rfl)]
    simp [Program.fieldsOf, Tryd.underlying50, Op.eqFields, go_sem]
    by_cases h1 : a1 = b1 <;> by_cases h2 : a2 = b2 <;> by_cases h3 : a3 = b3 <;> by_cases h4 : a4 = b4 <;> simp [h1, h2, h3, h4]
  rw [h]
  refine congrArg (fun x => Result.ok x w) ?_
  rw [Bool.eq_iff_iff]
  simp [and_assoc]
theorem lt_key : KeyOK Tryd.prog 50 ltE := key_wide (by kernel_rfl) lt_check lt_equal lt_bits

/-! ### the order of a log, in plain Lean -/
/-- the letter of an entry -/
def ltOf (e : En) : Lt := ⟨e.k, e.n, e.p, e.m⟩
/-- was the message of `e` sent, or received, before? -/
def tw (past : List En) (e : En) : Bool := decide (trav e) && past.any fun a => decide (trav a) && decide (ltOf a = ltOf e)
/-- the last entry of a node -/
def lastOf (past : List En) (n : Int) : Option En := past.reverse.find? fun a => decide (a.n = n)
/-- does the clock of `e` run backwards? -/
def bk (past : List En) (e : En) : Bool := match lastOf past e.n with
  | some a => decide (a.k ≠ 3) && decide (e.c < a.c)
  | none => false
/-- the error of the first entry that occurs twice or runs backwards -/
def ordE (past : List En) : List En → Int
  | [] => 0
  | e :: r => if tw past e then 10 else if bk past e then 12 else ordE (past ++ [e]) r
/-- the error of the first entry that is not valid by itself -/
def onesE : List En → Int
  | [] => 0
  | e :: r => if eChk e = 0 then onesE r else eChk e
/-- the error of a log -/
def logE (l : List En) : Int := if 512 < l.length then 6 else if onesE l = 0 then ordE [] l else onesE l
end Go.Proofs.YtdpfbedcejahjaaDoor
