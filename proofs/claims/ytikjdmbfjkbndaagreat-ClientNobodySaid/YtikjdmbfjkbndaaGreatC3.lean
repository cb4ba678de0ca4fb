/- Samples, registers, roots, headers: plain. No condition. -/
import Derived.Test.YtikjdmbfjkbndaaGreatC2
namespace Go.Proofs.YtikjdmbfjkbndaaGreat
open Go.RowKit

def wth (n lo hi : Int) : Bool := decide (lo ≤ n) && decide (n ≤ hi)
theorem wth_iff {n lo hi : Int} : wth n lo hi = true ↔ lo ≤ n ∧ n ≤ hi := by simp [wth]
theorem wth_no {n lo hi : Int} : wth n lo hi = false ↔ ¬ (lo ≤ n ∧ n ≤ hi) := by rw [← wth_iff]; simp
/-- a register of polls -/
structure Rch where
  bits : Int
  poll : Int
  mn : Int
  mx : Int
  cnt : Int
deriving DecidableEq, Inhabited
def rcC (r : Rch) : List Value := [.int .i64 r.bits, .int .i64 r.poll, .int .i64 r.mn, .int .i64 r.mx, .int .i64 r.cnt]
def rcV (r : Rch) : Value := .agg #[.int .i64 r.bits, .int .i64 r.poll, .int .i64 r.mn, .int .i64 r.mx, .int .i64 r.cnt]
def rchk (r : Rch) : Int := if wth r.bits 0 255 && (wth r.mn 3 17 && wth r.mx 3 17) then (if r.mx < r.mn then 12 else if wth r.poll r.mn r.mx && wth r.cnt (-30) 30 then 0 else 3) else 3
def rc0 : Rch := ⟨0, 0, 0, 0, 0⟩
def rshift (r : Rch) : Rch := if rchk r = 0 then { r with bits := r.bits * 2 % 256 } else rc0
def rback (r : Rch) : Rch := if rchk r = 0 then { r with poll := min (r.poll + 2) r.mx, cnt := 0 } else rc0
def rreach (r : Rch) : Bool := decide (rchk r = 0) && !decide (r.bits = 0)
def rsmall (off jit : Int) : Bool := decide ((off.natAbs : Int) / 4 < max jit 0)
def radapt (r : Rch) (off jit : Int) : Rch := if rchk r = 0 then (if rsmall off jit = true then (if 30 < r.cnt + r.poll then { r with cnt := 0, poll := min (r.poll + 1) r.mx } else { r with cnt := r.cnt + r.poll }) else (if r.cnt - 2 * r.poll < -30 then { r with cnt := 0, poll := max (r.poll - 1) r.mn } else { r with cnt := r.cnt - 2 * r.poll })) else rc0
theorem rchk_ok {r : Rch} : rchk r = 0 ↔ (0 ≤ r.bits ∧ r.bits ≤ 255) ∧ (3 ≤ r.mn ∧ r.mn ≤ 17) ∧ (3 ≤ r.mx ∧ r.mx ≤ 17) ∧ r.mn ≤ r.mx ∧ (r.mn ≤ r.poll ∧ r.poll ≤ r.mx) ∧ -30 ≤ r.cnt ∧ r.cnt ≤ 30 := by
  unfold rchk
  simp only [Bool.and_eq_true, wth_iff]
  split
  · split
    · constructor
      · intro h; cases h
      · intro h; omega
    · split
      · constructor
        · intro _; omega
        · intro _; rfl
      · constructor
        · intro h; cases h
        · intro h; omega
  · constructor
    · intro h; cases h
    · intro h; omega
/-- a measured offset -/
structure Smp where
  off : Int
  dly : Int
  dsp : Int
  tat : Int
deriving DecidableEq, Inhabited
def smC (s : Smp) : List Value := [.int .i64 s.off, .int .i64 s.dly, .int .i64 s.dsp, .int .i64 s.tat]
def smV (s : Smp) : Value := .agg #[.int .i64 s.off, .int .i64 s.dly, .int .i64 s.dsp, .int .i64 s.tat]
theorem smC_len (s : Smp) : (smC s).length = 4 := rfl
def isT (t : Int) : Bool := wth t (-4503599627370496) 4503599627370496
def isSp (t : Int) : Bool := wth t 0 9007199254740992
def isTl (t : Int) : Bool := wth t 0 500000
def schk (s : Smp) : Int := if isT s.off && (isSp s.dly && (isSp s.dsp && isT s.tat)) then 0 else 3
def sm0 : Smp := ⟨0, 0, 0, 0⟩
theorem schk_ok {s : Smp} : schk s = 0 ↔ (-4503599627370496 ≤ s.off ∧ s.off ≤ 4503599627370496) ∧ (0 ≤ s.dly ∧ s.dly ≤ 9007199254740992) ∧ (0 ≤ s.dsp ∧ s.dsp ≤ 9007199254740992) ∧ -4503599627370496 ≤ s.tat ∧ s.tat ≤ 4503599627370496 := by
  unfold schk isT isSp
  simp only [Bool.and_eq_true, wth_iff]
  split
  · exact ⟨fun _ => by omega, fun _ => rfl⟩
  · exact ⟨fun h => absurd h (by decide), fun h => by omega⟩
theorem schk_or (s : Smp) : schk s = 0 ∨ schk s = 3 := by unfold schk; split <;> simp
def grwS (d tol : Int) : Int := -(-d * tol / 1000000000)
theorem grw_bd {d tol : Int} (h0 : 0 ≤ d) (h1 : d ≤ 9007199254740992) (h2 : 0 ≤ tol) (h3 : tol ≤ 500000) : 0 ≤ grwS d tol ∧ grwS d tol ≤ d := by
  unfold grwS
  have hm := md_bd (a := tol) (b := -d) (c := 1000000000) h2 (by omega) (by omega)
  rw [Int.mul_comm] at hm
  by_cases hd : d = 0
  · subst hd; simp
  · have := hm.2 (by omega); omega
/-- the four instants of an exchange -/
structure Qd where
  t1 : Int
  t2 : Int
  t3 : Int
  t4 : Int
deriving DecidableEq, Inhabited
def sofR (q : Qd) (prec tol : Int) : Smp := ⟨((q.t2 - q.t1) + (q.t3 - q.t4)) / 2, max prec (q.t4 - q.t1 - (q.t3 - q.t2)), prec + grwS (q.t4 - q.t1) tol, q.t4⟩
def sof (q : Qd) (prec tol : Int) : Smp × Int :=
  if isT q.t1 && (isT q.t2 && (isT q.t3 && isT q.t4)) then
    (if wth prec 1 1000000000 && isTl tol then
      (if q.t4 < q.t1 ∨ q.t3 < q.t2 then (sm0, 12) else (if schk (sofR q prec tol) = 0 then (sofR q prec tol, 0) else (sm0, 3)))
    else (sm0, 3))
  else (sm0, 3)
def sdist (s : Smp) : Int := if schk s = 0 then (s.dly + 1) / 2 + s.dsp else 0
def sgrow (s : Smp) (now tol : Int) : Smp × Int :=
  if schk s = 0 then (if isT now && isTl tol then (if now < s.tat then (sm0, 12) else (if schk ⟨s.off, s.dly, s.dsp + grwS (now - s.tat) tol, now⟩ = 0 then (⟨s.off, s.dly, s.dsp + grwS (now - s.tat) tol, now⟩, 0) else (sm0, 3))) else (sm0, 3)) else (sm0, 3)
/-- the distance to the primary servers -/
structure Rot where
  str : Int
  dly : Int
  dsp : Int
  ref : Int
deriving DecidableEq, Inhabited
def roV (r : Rot) : Value := .agg #[.int .i64 r.str, .int .i64 r.dly, .int .i64 r.dsp, .int .u32 r.ref]
def ro0 : Rot := ⟨0, 0, 0, 0⟩
def ochk (r : Rot) : Int := if wth r.str 1 16 && (isSp r.dly && isSp r.dsp) then 0 else 3
/-- a header -/
structure Np where
  leap : Int
  ver : Int
  mode : Int
  strat : Int
  poll : Int
  prec : Int
  rdel : Int
  rdsp : Int
  rid : Int
  ref : Int
  org : Int
  rcv : Int
  xmt : Int
deriving DecidableEq, Inhabited
def npC (p : Np) : List Value := [.int .i64 p.leap, .int .i64 p.ver, .int .i64 p.mode, .int .i64 p.strat, .int .i64 p.poll, .int .i64 p.prec, .int .u32 p.rdel, .int .u32 p.rdsp, .int .u32 p.rid, .int .u64 p.ref, .int .u64 p.org, .int .u64 p.rcv, .int .u64 p.xmt]
def npV (p : Np) : Value := .agg #[.int .i64 p.leap, .int .i64 p.ver, .int .i64 p.mode, .int .i64 p.strat, .int .i64 p.poll, .int .i64 p.prec, .int .u32 p.rdel, .int .u32 p.rdsp, .int .u32 p.rid, .int .u64 p.ref, .int .u64 p.org, .int .u64 p.rcv, .int .u64 p.xmt]
def np0 : Np := ⟨0, 0, 0, 0, 0, 0, 0, 0, 0, 0, 0, 0, 0⟩
/-- the words of a header fit -/
def npOk (p : Np) : Prop := (0 ≤ p.rdel ∧ p.rdel ≤ 4294967295) ∧ (0 ≤ p.rdsp ∧ p.rdsp ≤ 4294967295) ∧ (0 ≤ p.rid ∧ p.rid ≤ 4294967295) ∧ (0 ≤ p.org ∧ p.org ≤ 18446744073709551615) ∧ (0 ≤ p.rcv ∧ p.rcv ≤ 18446744073709551615) ∧ (0 ≤ p.xmt ∧ p.xmt ≤ 18446744073709551615) ∧ (0 ≤ p.ref ∧ p.ref ≤ 18446744073709551615)
def nchk (p : Np) : Int := if wth p.leap 0 3 && (wth p.ver 1 4 && (wth p.mode 0 7 && (wth p.strat 0 255 && (wth p.poll (-128) 127 && wth p.prec (-128) 127)))) then 0 else 3
def nsync (p : Np) : Bool := !decide (p.leap = 3) && wth p.strat 1 15
def lngS (s : Int) : Int := (s * 1000000000 + 65535) / 65536
theorem lng_bd {s : Int} (h0 : 0 ≤ s) (h1 : s ≤ 4294967295) : 0 ≤ lngS s ∧ lngS s ≤ 65536000000000 := by unfold lngS; omega
def joinR (p : Np) (s : Smp) (id : Int) : Rot := ⟨p.strat + 1, lngS p.rdel + s.dly, lngS p.rdsp + s.dsp + max s.off (-s.off), id⟩
def ojoin (p : Np) (s : Smp) (id : Int) : Rot × Int :=
  if nchk p = 0 ∧ schk s = 0 then (if nsync p = true then (if ochk (joinR p s id) = 0 then (joinR p s id, 0) else (ro0, 3)) else (ro0, 15)) else (ro0, 2)
theorem setCell_oth {w : World} {b : Nat} {p : Addr} {o : Obj} (v : Value) (h : w.heap[b]? = some o) (hn : b ≠ p.block) : (w.setCell p v).heap[b]? = some o :=
  (((Only.refl [p.block] w).setCell (.inl (List.mem_singleton.2 rfl)) v).got h (by simpa using hn))
end Go.Proofs.YtikjdmbfjkbndaaGreat
