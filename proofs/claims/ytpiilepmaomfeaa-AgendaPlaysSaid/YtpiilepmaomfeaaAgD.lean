/- Deeds: the argument of three laws of chapter agenda as a list; the function first. No condition. -/
import Derived.Test.YtpiilepmaomfeaaLaw
namespace Go.Proofs.Ytpiilepmaomfeaa
open Go.ChangeShapes Go.WideShapes Go.ChangeAt Go.RowKit Go.Deep

section
variable {H : Type} {enc : TypeId × Value → H} {P : Program} {w : World}
theorem struct3_ints {e : TypeId} {f0 f1 f2 : Field} {k0 k1 k2 : IntKind} {fuel : Nat} {cs : List Value} {x : DataW H × List MemPlace} (he : P.underlying e = some (.struct #[f0, f1, f2])) (hone : oneCellFields P #[f0, f1, f2] = true) (hC : P.cellsOf e = 3)
    (t0 : P.underlying f0.type = some (.int k0)) (t1 : P.underlying f1.type = some (.int k1)) (t2 : P.underlying f2.type = some (.int k2)) (h : DataW.trod enc P w 0 (fun _ => true) true fuel e cs = some x) :
    ∃ a b c, cs = [.int k0 a, .int k1 b, .int k2 c] ∧ (Lit.int k0 a).wf = true ∧ (Lit.int k1 b).wf = true ∧ (Lit.int k2 c).wf = true := by
  obtain ⟨ys, n, _, _, hlen, hyl, hf⟩ := DataW.trod_struct he h
  obtain ⟨o0, c0⟩ := hone_of hone 0 f0 rfl
  obtain ⟨o1, c1⟩ := hone_of hone 1 f1 rfl
  obtain ⟨o2, c2⟩ := hone_of hone 2 f2 rfl
  rw [hC] at hlen
  match cs, hlen, ys, hyl with
  | [v0, v1, v2], _, [y0, y1, y2], _ =>
    have g0 := hf 0 f0 rfl
    have g1 := hf 1 f1 rfl
    have g2 := hf 2 f2 rfl
    rw [o0, c0] at g0
    rw [o1, c1] at g1
    rw [o2, c2] at g2
    simp only [List.drop_zero, List.drop_succ_cons, List.take_succ_cons, List.take_zero] at g0 g1 g2
    obtain ⟨a, e0, _, w0⟩ := DataW.trod_int t0 g0
    obtain ⟨b, e1, _, w1⟩ := DataW.trod_int t1 g1
    obtain ⟨c, e2, _, w2⟩ := DataW.trod_int t2 g2
    simp only [List.cons.injEq, and_true] at e0 e1 e2
    exact ⟨a, b, c, by rw [e0, e1, e2], w0, w1, w2⟩
end

structure Deed where
  k : Int
  a : Int
  b : Int
abbrev deedc (d : Deed) : List Value := [.int .i64 d.k, .int .i64 d.a, .int .i64 d.b]
abbrev VDeeds (w : World) (p : Option Addr) (n cap : Nat) (l : List Deed) : Prop := VRow deedc 3 w p n cap l
def Deed.ok (d : Deed) : Prop := (Lit.int .i64 d.k).wf = true ∧ (Lit.int .i64 d.a).wf = true ∧ (Lit.int .i64 d.b).wf = true

theorem vrow_deeds {H : Type} {enc : TypeId × Value → H} {w : World} {p : Option Addr} {n cap : Nat} {d : DataW H} {ps : List MemPlace}
    (h : DataW.Trod enc Try.prog w 0 (fun _ => true) true 38 (.slice p n cap) d ps) : ∃ l : List Deed, VDeeds w p n cap l ∧ ∀ d ∈ l, d.ok :=
  vrow_of _ 3 (fun _ => rfl) (by decide) _ Try.underlying38 (by kernel_rfl) h fun _ _ _ h => by
    obtain ⟨a, b, c, h1, h2, h3, h4⟩ := struct3_ints Try.underlying43 (by kernel_rfl) (by kernel_rfl) Try.underlying3 Try.underlying3 Try.underlying3 h
    exact ⟨⟨a, b, c⟩, h1, h2, h3, h4⟩

theorem first_any (p : Option Addr) (n cap : Nat) (w : World) (h1 : n ≤ cap) (h2 : cap ≤ maxLen) (_h3 : p = none → cap = 0) :
    Calls Try.prog 17 #[.slice p n cap] w fun e w' => e = .returned (.slice p (min n 300) cap) ∧ w = w' := by
  unfold maxLen at h2
  by_cases hn : n ≤ 300
  · have hni : ¬ (300 : Int) < (n : Int) := by omega
    have hm : min n 300 = n := by omega
    have HM := Lib.hid hm; clear hm
    go_enter Try.func17, Try.ntmps17
    go_wp2
    go_ret
    exact ⟨by first | rfl | (rw [HM.out]; rfl), rfl⟩
  · have hni : (300 : Int) < (n : Int) := by omega
    have hm : min n 300 = 300 := by omega
    have hc : 300 ≤ cap := by omega
    have HM := Lib.hid hm; clear hm hn
    go_enter Try.func17, Try.ntmps17
    go_wp2
    go_ret
    exact ⟨by first | rfl | (rw [HM.out]; rfl), rfl⟩
end Go.Proofs.Ytpiilepmaomfeaa
