/- The functions of ptime beside those of the reference: they return the same. No condition. -/
import Derived.Test.YtmkiojnhjfkepaaDoorPl
import Derived.Lib.SmallJoins
namespace Go.Proofs.YtmkiojnhjfkepaaDoor
open Go.RowKit

/-- both functions return `v`, and change nothing that was there -/
structure Pair (f g : FuncId) (args : Array Value) (v : Value) : Prop where
  one : ∀ w, Calls Tryd.prog f args w fun e w' => e = .returned v ∧ Only [] w w'
  two : ∀ w, Calls Tryd.prog g args w fun e w' => e = .returned v ∧ Only [] w w'

theorem check_pair (s n : Int) : ∃ E : Int, Pair 13 14 #[.agg #[.int .i64 s, .int .i64 n]] (.int .i64 E) := by
  by_cases h : stOk s n
  · exact ⟨0, fun w => Pcheck_yes s n w h, fun w => Rcheck_yes s n w h⟩
  · exact ⟨3, fun w => Pcheck_no s n w h, fun w => Rcheck_no s n w h⟩
theorem of_pair (t : Int) (h1 : t ≤ 9223372036854775807) : ∃ S M E : Int, Pair 11 12 #[.int .i64 t] (.tuple #[.agg #[.int .i64 S, .int .i64 M], .int .i64 E]) := by
  by_cases h : t < 2208988800000000000
  · exact ⟨0, 0, 3, fun w => Pof_no t w h, fun w => Rof_no t w h⟩
  · exact ⟨_, _, 0, fun w => Pof_yes t w h h1, fun w => Rof_yes t w h h1⟩
theorem time_pair (s n : Int) : ∃ T E : Int, Pair 9 10 #[.agg #[.int .i64 s, .int .i64 n]] (.tuple #[.int .i64 T, .int .i64 E]) := by
  by_cases h : stOk s n
  · by_cases hf : tmOf s n ≤ 8000000000000000000
    · exact ⟨tmOf s n, 0, fun w => Ptime_yes s n w h hf, fun w => Rtime_yes s n w h hf⟩
    · exact ⟨0, 3, fun w => Ptime_far s n w h (by omega), fun w => Rtime_far s n w h (by omega)⟩
  · exact ⟨0, 3, fun w => Ptime_bad s n w h, fun w => Rtime_bad s n w h⟩

/-- a call under a guard that is met, in a quiet head -/
theorem wpQuiet_enter_w {P : Program} {ops : Array Oper} {C : World → Prop} {Q : Act → Prop} {a : Act} {o : Oper} {rest : List Oper} (hg : Region.wanted o (yielded ops a.tmps) = true) (f : FuncId) (args : Array Value)
    (hrun : ∀ w, (execOp a.eval o).run P w = .ok (.enter f args) w) (v : Value) (hcall : ∀ w', C w' → Calls P f args w' fun e w'' => e = .returned v ∧ C w'')
    (h : wpQuiet P ops C Q rest (a.put o.dst v)) : wpQuiet P ops C Q (o :: rest) a := by
  refine wpQuiet_step fun K hK => ?_
  rw [hg]
  simp only [if_true]
  refine ⟨v, fun w' hw' => ?_, hK _ h⟩
  unfold Oper.quietAt
  rw [hrun w']
  exact ⟨rfl, hcall w' hw'⟩
/-- a callee that changes nothing, in the class of a grown world -/
theorem grown_only {P : Program} {f : FuncId} {args : Array Value} {w : World} {v : Value} (h : ∀ w', Only [] w w' → Calls P f args w' fun e w'' => e = .returned v ∧ Only [] w' w'') :
    ∀ w', (∃ x, w' = plus w x) → Calls P f args w' fun e w'' => e = .returned v ∧ ∃ x, w'' = plus w x :=
  grown_calls fun w' hw' => (h w' (only_of_plus hw')).mono fun _ _ ⟨he, ho⟩ => ⟨he, ho.nil_below⟩
end Go.Proofs.YtmkiojnhjfkepaaDoor
