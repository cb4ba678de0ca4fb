/- fault.ranges and fault.Check. Condition: the length. -/
import Derived.Test.YthmeifdgkodjlaaDoorS8
import Derived.Test.YthmeifdgkodjlaaDoorMp
namespace Go.Proofs.YthmeifdgkodjlaaDoor
open Go.RowKit

theorem wpList_insert_F {K V : Type} [DecidableEq K] {kE : K → Value} {vE : V → Value} {P : Program} {w : World} {ops : Array Oper} {rest : List Oper} {o : Oper} {a : Act} {Q : Exit → Act → World → Prop} (hg : o.guard = none) (m x v : Operand) (t : TypeId) (hop : o.op = Op.insert t m x v)
    (KT ET : TypeId) (O : KeyOK P KT kE) (ht : P.underlying t = some (.map KT ET)) (b : Nat) (f : K → Option V) (hm : a.eval m = .map (some b)) (h : MapF kE vE w b f) (k : K) (hx : a.eval x = kE k) (u : V) (hv : a.eval v = vE u)
    (hK : ∀ w', MapF kE vE w' b (fun k' => if k' = k then some u else f k') → Only [b] w w' → w'.heap.size = w.heap.size → wpList P ops Q rest (a.put o.dst undef) w') : wpList P ops Q (o :: rest) a w := by
  refine wpList_plain hg fun K' hK' => ?_
  obtain ⟨w', hrun, h1, h2, h3⟩ := run_update_F O ht h k u
  unfold Oper.wp
  simp only [execOp, hop, hm, hx, hv, Sem.run_bind, hrun, Result.andThen_ok, Sem.run_pure, Oper.upon_skip]
  exact hK' _ _ (hK w' h1 h2 h3)
def rgV (r : Int × Int) : Value := .agg #[.int .i64 r.1, .int .i64 r.2]
def rgF (k : Int) : Option (Int × Int) :=
  if k = 9 then some (0, 1125899906842624) else if k = 8 then some (0, 0) else if k = 7 then some (0, 0) else if k = 6 then some (0, 3) else if k = 5 then some (1, 15)
  else if k = 4 then some (0, 0) else if k = 3 then some (-1125899906842624, 1125899906842624) else if k = 2 then some (-1125899906842624, 1125899906842624) else if k = 1 then some (0, 0) else none
set_option maxRecDepth 100000 in
set_option maxHeartbeats 4000000 in
theorem pRanges (w : World) : Calls Tryd.prog 39 #[] w fun e w' => e = .returned (.map (some w.heap.size)) ∧ MapF (fun n : Int => Value.int .i64 n) rgV w' w.heap.size rgF ∧ Only [] w w' := by
  have hmm := @run_makeMap Tryd.prog
  go_enter Tryd.func39, Tryd.ntmps39
  go_upto_region 1 with (fail)
  refine wp_region_lit ?_
  refine wpList_plain rfl fun K hK => ?_
  go_simp
  refine hK _ _ ?_
  clear hK K hmm
  refine alloc_abs (G := fun w0 => wpList _ _ _ _ _ w0) ?_
  intro w0 hb0 ho0 hs0
  have M0 := Lib.hid (mapF_new (kE := fun n : Int => Value.int .i64 n) (vE := rgV) hb0); have O0 := Lib.hid ho0
  clear hb0 ho0 hs0
  refine wpList_plain rfl fun K hK => ?_
  go_simp
  refine hK _ _ ?_
  clear hK K
  refine wpList_insert_F (kE := fun n : Int => Value.int .i64 n) (vE := rgV) rfl _ _ _ 97 rfl 3 100 (key_int Tryd.underlying3) Tryd.underlying97 w.heap.size _ rfl M0.out 1 rfl ((0), (0)) rfl ?_
  intro w1 hm1 ho1 hs1
  have M1 := Lib.hid hm1; have O1 := Lib.hid (O0.out.trans ho1 (fun x hx => .inr (by simp at hx; omega)))
  clear hm1 ho1 hs1 M0 O0
  refine wpList_plain rfl fun K hK => ?_
  go_simp
  refine hK _ _ ?_
  clear hK K
  refine wpList_insert_F (kE := fun n : Int => Value.int .i64 n) (vE := rgV) rfl _ _ _ 97 rfl 3 100 (key_int Tryd.underlying3) Tryd.underlying97 w.heap.size _ rfl M1.out 2 rfl ((-1125899906842624), (1125899906842624)) rfl ?_
  intro w2 hm2 ho2 hs2
  have M2 := Lib.hid hm2; have O2 := Lib.hid (O1.out.trans ho2 (fun x hx => .inr (by simp at hx; omega)))
  clear hm2 ho2 hs2 M1 O1
  refine wpList_plain rfl fun K hK => ?_
  go_simp
  refine hK _ _ ?_
  clear hK K
  refine wpList_insert_F (kE := fun n : Int => Value.int .i64 n) (vE := rgV) rfl _ _ _ 97 rfl 3 100 (key_int Tryd.underlying3) Tryd.underlying97 w.heap.size _ rfl M2.out 3 rfl ((-1125899906842624), (1125899906842624)) rfl ?_
  intro w3 hm3 ho3 hs3
  have M3 := Lib.hid hm3; have O3 := Lib.hid (O2.out.trans ho3 (fun x hx => .inr (by simp at hx; omega)))
  clear hm3 ho3 hs3 M2 O2
  refine wpList_plain rfl fun K hK => ?_
  go_simp
  refine hK _ _ ?_
  clear hK K
  refine wpList_insert_F (kE := fun n : Int => Value.int .i64 n) (vE := rgV) rfl _ _ _ 97 rfl 3 100 (key_int Tryd.underlying3) Tryd.underlying97 w.heap.size _ rfl M3.out 4 rfl ((0), (0)) rfl ?_
  intro w4 hm4 ho4 hs4
  have M4 := Lib.hid hm4; have O4 := Lib.hid (O3.out.trans ho4 (fun x hx => .inr (by simp at hx; omega)))
  clear hm4 ho4 hs4 M3 O3
  refine wpList_plain rfl fun K hK => ?_
  go_simp
  refine hK _ _ ?_
  clear hK K
  refine wpList_insert_F (kE := fun n : Int => Value.int .i64 n) (vE := rgV) rfl _ _ _ 97 rfl 3 100 (key_int Tryd.underlying3) Tryd.underlying97 w.heap.size _ rfl M4.out 5 rfl ((1), (15)) rfl ?_
  intro w5 hm5 ho5 hs5
  have M5 := Lib.hid hm5; have O5 := Lib.hid (O4.out.trans ho5 (fun x hx => .inr (by simp at hx; omega)))
  clear hm5 ho5 hs5 M4 O4
  refine wpList_plain rfl fun K hK => ?_
  go_simp
  refine hK _ _ ?_
  clear hK K
  refine wpList_insert_F (kE := fun n : Int => Value.int .i64 n) (vE := rgV) rfl _ _ _ 97 rfl 3 100 (key_int Tryd.underlying3) Tryd.underlying97 w.heap.size _ rfl M5.out 6 rfl ((0), (3)) rfl ?_
  intro w6 hm6 ho6 hs6
  have M6 := Lib.hid hm6; have O6 := Lib.hid (O5.out.trans ho6 (fun x hx => .inr (by simp at hx; omega)))
  clear hm6 ho6 hs6 M5 O5
  refine wpList_plain rfl fun K hK => ?_
  go_simp
  refine hK _ _ ?_
  clear hK K
  refine wpList_insert_F (kE := fun n : Int => Value.int .i64 n) (vE := rgV) rfl _ _ _ 97 rfl 3 100 (key_int Tryd.underlying3) Tryd.underlying97 w.heap.size _ rfl M6.out 7 rfl ((0), (0)) rfl ?_
  intro w7 hm7 ho7 hs7
  have M7 := Lib.hid hm7; have O7 := Lib.hid (O6.out.trans ho7 (fun x hx => .inr (by simp at hx; omega)))
  clear hm7 ho7 hs7 M6 O6
  refine wpList_plain rfl fun K hK => ?_
  go_simp
  refine hK _ _ ?_
  clear hK K
  refine wpList_insert_F (kE := fun n : Int => Value.int .i64 n) (vE := rgV) rfl _ _ _ 97 rfl 3 100 (key_int Tryd.underlying3) Tryd.underlying97 w.heap.size _ rfl M7.out 8 rfl ((0), (0)) rfl ?_
  intro w8 hm8 ho8 hs8
  have M8 := Lib.hid hm8; have O8 := Lib.hid (O7.out.trans ho8 (fun x hx => .inr (by simp at hx; omega)))
  clear hm8 ho8 hs8 M7 O7
  refine wpList_plain rfl fun K hK => ?_
  go_simp
  refine hK _ _ ?_
  clear hK K
  refine wpList_insert_F (kE := fun n : Int => Value.int .i64 n) (vE := rgV) rfl _ _ _ 97 rfl 3 100 (key_int Tryd.underlying3) Tryd.underlying97 w.heap.size _ rfl M8.out 9 rfl ((0), (1125899906842624)) rfl ?_
  intro w9 hm9 ho9 hs9
  have M9 := Lib.hid hm9; have O9 := Lib.hid (O8.out.trans ho9 (fun x hx => .inr (by simp at hx; omega)))
  clear hm9 ho9 hs9 M8 O8
  go_wp2
  go_ret
  exact ⟨rfl, M9.out, O9.out⟩
end Go.Proofs.YthmeifdgkodjlaaDoor
