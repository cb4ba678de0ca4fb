/- lines of package scenario: the lines of a text, one after another, with their numbers. Condition: the length. -/
import Derived.Test.YthmeifdgkodjlaaDoorSy
import Derived.Test.YthmeifdgkodjlaaDoorShelfU
import Derived.Lib.IndexLaws
import Derived.RangeFuncNested
import Derived.RangeFuncBound
import Derived.RangeFuncCalls
import Derived.RangeFuncLeaves
import Derived.Shelf.Abstract
import Derived.Shelf.RegionOpen
import Derived.WalkKit
import Derived.OwnWalkIn
import Derived.TacticsInMore
import Derived.LoopNIn
import Derived.LoopIn
namespace Go.Proofs.YthmeifdgkodjlaaDoor
open Go.RowKit Go.Shelf
attribute [local go_sem] Oper.semAt_some

theorem ib_at {c : UInt8} : ∀ (a r : List UInt8), c ∉ a → Lib.indexByte (a ++ c :: r) c = a.length
  | [], r, _ => by simp [Lib.indexByte]
  | x :: a, r, h => by
    have hx : (x == c) = false := beq_eq_false_iff_ne.2 fun e => h (by simp [e])
    have ih := ib_at (c := c) a r fun m => h (by simp [m])
    rw [List.cons_append, Lib.indexByte, if_neg (by rw [hx]; simp), ih]
    simp
theorem ib_no {c : UInt8} : ∀ (a : List UInt8), c ∉ a → Lib.indexByte a c = -1
  | [], _ => rfl
  | x :: a, h => by
    have hx : (x == c) = false := beq_eq_false_iff_ne.2 fun e => h (by simp [e])
    have ih := ib_no (c := c) a fun m => h (by simp [m])
    rw [Lib.indexByte, if_neg (by rw [hx]; simp), ih]
    simp
theorem bstr_take (l r : List UInt8) : (bstr (l ++ r)).extract 0 l.length = bstr l := by
  refine bstr_eq ?_
  rw [ByteArray.data_extract, Array.toList_extract]
  simp [bstr]
theorem bstr_drop (l r : List UInt8) (n : Nat) (h : n = (l ++ r).length) : (bstr (l ++ r)).extract l.length n = bstr r := by
  refine bstr_eq ?_
  rw [ByteArray.data_extract, Array.toList_extract, List.extract_eq_take_drop]
  subst h
  simp [bstr]
/-- a line and its number -/
abbrev LnN := Nat × List UInt8
def LnJ (L : List UInt8) (J : List LnN → World → Prop) (v vi : Value) (wr : World) : Prop :=
  ∃ (k : Nat) (R : List UInt8) (pre : List LnN), v = .string (bstr R) ∧ vi = .int .i64 k ∧ J pre wr ∧ pre ++ lnsO k (pcs 10 R) = lnsO 1 (pcs 10 L) ∧ 1 ≤ k ∧ k + R.length ≤ L.length + 1
def strLen : Value → Nat
  | .string s => s.size
  | _ => 0
set_option maxRecDepth 100000 in
set_option maxHeartbeats 2000000 in
theorem lines1_in (n l Bn : Nat) (X : ByteArray) (L : List UInt8) (hL : X.data.toList = L) (hs : X.size ≤ 1000000) (hlp : ∀ p ∈ pcs 10 L, p.length ≤ 99999) (J Jx : List LnN → World → Prop)
    (hY : ∀ pre (x : LnN) W, x.1 ≤ 1000001 → x.2.length ≤ 100000 → J pre W → pre.length < (lnsO 1 (pcs 10 L)).length → YieldAt Fence.wide (n - 1) Tryd.prog l #[.int .i64 x.1, .string (bstr x.2)] W fun e W' =>
      (e = .returned (.bool true) ∧ J (pre ++ [x]) W') ∨ (e = .returned (.bool false) ∧ Jx (pre ++ [x]) W'))
    (W : World) (hBn : W.cell? ⟨Bn, 0, none⟩ = some (.string X)) (h0 : J [] W) :
    CallsIn Fence.wide n Tryd.prog 44 #[.func (.yield l) #[] #[], .pointer (some ⟨Bn, 0, none⟩)] W fun e W' => (∃ v, e = .returned v) ∧
      ((∃ ys, ys = lnsO 1 (pcs 10 L) ∧ J ys W') ∨ (∃ pre, pre <+: lnsO 1 (pcs 10 L) ∧ Jx pre W')) := by
  have hsz : X.size = L.length := by rw [← hL, Array.length_toList]; rfl
  have hX : X = bstr L := bstr_eq hL
  have HLL : L.length ≤ 1000000 := by omega
  have HY := Lib.hid hY; have HP := Lib.hid hlp
  have HX := Lib.hid hX
  clear hY hL hX hsz hs hlp
  refine callsIn_of_wp Tryd.func44 rfl trivial ?_ rfl
  simp only [Tryd.ntmps44, List.size_toArray, List.length_cons, List.length_nil, Nat.reduceAdd, Nat.reduceSub, Array.replicate_succ, Array.replicate_zero, List.push_toArray, List.append_toArray, List.nil_append, List.cons_append]
  gi_wp2
  gi_loopw [3, 4] (fun v vi wr => LnJ L J v vi wr) (fun v _ _ => strLen v)
  case atStart => exact ⟨1, L, [], by rw [HX.out], rfl, h0, rfl, Nat.le_refl _, by omega⟩
  case round =>
    obtain ⟨k, R, pre, rfl, rfl, hJ, hw, hk1, hkR⟩ := hrel
    by_cases hR : R = []
    · subst hR
      rw [lns_nil, List.append_nil] at hw
      have HW := Lib.hid hw
      have tR : (bstr []).toList = [] := by rw [Lib.toList_data]; rfl
      clear hw
      generalize bstr [] = S at tR
      gi_wp2
      go_end0
      exact ⟨⟨_, rfl⟩, .inl ⟨_, HW.out, hJ⟩⟩
    · obtain ⟨a, r, hR2, hne, hst, hcase⟩ := lns_step k R hR
      have hpos : 0 < a.length := by
        rcases a with _ | ⟨q, a⟩
        · exact absurd rfl hne
        · simp
      have hlen : R.length = a.length + r.length := by rw [hR2]; simp
      have hsz : (bstr R).size = a.length + r.length := by rw [bstr_size, hlen]
      have hib : Lib.indexByte R 10 = (a.length : Int) - 1 ∨ (Lib.indexByte R 10 = -1 ∧ r = []) := by
        rcases hcase with ⟨h1, h2, h3⟩ | ⟨q, h1, h2⟩
        · exact .inr ⟨ib_no R h1, h3⟩
        · left
          rw [hR2, h2, List.append_assoc, List.cons_append, List.nil_append, ib_at q r h1]
          simp
      have hmem : a.length ≤ 100000 := by
        obtain ⟨p, hp, hpp⟩ := lnsO_mem (pcs 10 L) 1 (k, a) (by rw [← hw, hst]; simp)
        have := HP.out p hp
        rcases hpp with hpp | hpp <;> simp only at hpp <;> rw [hpp] <;> simp <;> omega
      have hyy := HY.out pre (k, a) wr (by simp; omega) hmem hJ (by rw [← hw, hst]; simp)
      have hw2 : pre ++ [(k, a)] ++ lnsO (k + 1) (pcs 10 r) = lnsO 1 (pcs 10 L) := by rw [← hw, hst]; simp
      have HW := Lib.hid hw2
      have e1 : (bstr R).extract 0 a.length = bstr a := by rw [hR2]; exact bstr_take a r
      have e2 : (bstr R).extract a.length (a.length + r.length) = bstr r := by rw [hR2]; exact bstr_drop a r _ (by simp)
      simp only at hyy
      rw [← e1] at hyy
      obtain ⟨fn, tmps, assign, body, hy, hrd⟩ := hyy
      have HR := Lib.hid hrd
      have HE2 := Lib.hid e2
      have tR : ¬ (bstr R).toList = [] := by rw [Lib.toList_data]; exact hR
      have tRb : ((bstr R).toList == []) = false := beq_eq_false_iff_ne.2 tR
      have tRn : (!(bstr R).toList == []) = true := by rw [tRb]; rfl
      have hcall : Calls Tryd.prog 45 #[.string (bstr R), .int .u8 10] wr fun e w' => e = .returned (.int .i64 (Lib.indexByte R 10)) ∧ wr = w' := (Tryd.strings_IndexByte (bstr R) 10 wr).mono fun e w' ⟨h1, h2⟩ => ⟨h1, h2.symm⟩
      have HC := Lib.hid hcall
      have hal : a.length ≤ 1000000 := by omega
      clear hw hw2 hst hcase hrd e1 e2 hcall hne hR hmem
      generalize hI : Lib.indexByte R 10 = I at HC hib
      clear hI
      have hkr : k + (a.length + r.length) ≤ L.length + 1 := by omega
      clear hkR hlen hR2
      generalize bstr R = S at *
      rcases hib with hib | ⟨hib, hr0⟩
      · have z1 : I + 1 = (a.length : Int) := by omega
        have z0 : ((a.length : Int) == 0) = false := by rw [beq_eq_false_iff_ne]; omega
        subst hib
        have hsub : (a.length : Int) - 1 + 1 = (a.length : Int) := by omega
        have hwr : IntKind.i64.wrap ((a.length : Int) - 1 + 1) = (a.length : Int) := by rw [hsub, IntKind.wrap_i64]; omega
        clear z1
        gi_wp2_with (refine ⟨trivial, ?_⟩; gi_at_call 45; fail)
        refine ⟨trivial, fun h => (by cases h), ?_⟩
        refine (callsIn_wide.2 HC.out).mono ?_
        rintro e w' ⟨rfl, rfl⟩
        gi_wp2
        refine ⟨fun h => (by cases h), HR.out.mono ?_⟩
        rintro e W3 (⟨rfl, hJ3⟩ | ⟨rfl, hJx3⟩)
        · gi_wp2
          go_roundw
          case rel => exact ⟨k + 1, r, pre ++ [(k, a)], by rw [HE2.out], by go_num, hJ3, HW.out, by omega, by omega⟩
          case measure => simp only [strLen, HE2.out, bstr_size, hsz]; omega
        · gi_wp2
          refine bodyPost_ret (results_none rfl _ _ _) rfl ?_
          exact ⟨⟨_, rfl⟩, .inr ⟨pre ++ [(k, a)], ⟨lnsO (k + 1) (pcs 10 r), HW.out⟩, hJx3⟩⟩
      · subst hib; subst hr0
        simp only [List.length_nil, Nat.add_zero] at hsz hkr HE2
        gi_wp2_with (refine ⟨trivial, ?_⟩; gi_at_call 45; fail)
        refine ⟨trivial, fun h => (by cases h), ?_⟩
        refine (callsIn_wide.2 HC.out).mono ?_
        rintro e w' ⟨rfl, rfl⟩
        gi_wp2
        refine ⟨fun h => (by cases h), HR.out.mono ?_⟩
        rintro e W3 (⟨rfl, hJ3⟩ | ⟨rfl, hJx3⟩)
        · gi_wp2
          go_roundw
          case rel => exact ⟨k + 1, [], pre ++ [(k, a)], rfl, by go_num, hJ3, HW.out, by omega, by simp; omega⟩
          case measure => have h0 : ByteArray.empty.size = 0 := rfl; simp only [strLen, hsz]; omega
        · gi_wp2
          refine bodyPost_ret (results_none rfl _ _ _) rfl ?_
          exact ⟨⟨_, rfl⟩, .inr ⟨pre ++ [(k, a)], ⟨lnsO (k + 1) (pcs 10 []), HW.out⟩, hJx3⟩⟩
/-- a line that is not too long -/
abbrev LnK := { x : LnN // x.1 ≤ 1000001 ∧ x.2.length ≤ 100000 }
theorem lines_stops (n Bn : Nat) (X : ByteArray) (L : List UInt8) (hL : X.data.toList = L) (hs : X.size ≤ 1000000) (hlp : ∀ p ∈ pcs 10 L, p.length ≤ 99999) (w : World) (hBn : Bn < w.heap.size) (hc : w.cell? ⟨Bn, 0, none⟩ = some (.string X)) :
    SeqStopsK Fence.wide n Tryd.prog 44 #[.pointer (some ⟨Bn, 0, none⟩)] (fun x : LnK => #[Value.int .i64 x.1.1, Value.string (bstr x.1.2)]) (fun _ _ => True)
      (fun ys => ys.map Subtype.val = lnsO 1 (pcs 10 L)) (fun pre => pre.map Subtype.val <+: lnsO 1 (pcs 10 L)) (lnsO 1 (pcs 10 L)).length w := fun l J Jx W hW _ _ hY h0 => by
  refine (lines1_in n l Bn X L hL hs hlp (fun pre W => ∃ q : List LnK, q.map Subtype.val = pre ∧ J q W) (fun pre W => ∃ q : List LnK, q.map Subtype.val = pre ∧ Jx q W) ?_ W ((hW.cell (p := ⟨Bn, 0, none⟩) hBn).trans hc) ⟨[], rfl, h0⟩).mono ?_
  · rintro pre x W1 hx1 hx2 ⟨q, rfl, hj⟩ hlen
    refine (hY q ⟨x, hx1, hx2⟩ W1 hj (by simpa using hlen)).mono ?_
    rintro e W' (⟨rfl, hj2, _⟩ | ⟨rfl, hj2⟩)
    · exact .inl ⟨rfl, q ++ [⟨x, hx1, hx2⟩], by simp, hj2⟩
    · exact .inr ⟨rfl, q ++ [⟨x, hx1, hx2⟩], by simp, hj2⟩
  · rintro e W' ⟨he, ⟨ys, rfl, q, hq, hj⟩ | ⟨pre, hp, q, rfl, hj⟩⟩
    · exact ⟨he, .inl ⟨q, hq, hj⟩⟩
    · exact ⟨he, .inr ⟨q, hp, hj⟩⟩
set_option maxHeartbeats 1000000 in
theorem lines_in (n : Nat) (X : ByteArray) (w : World) :
    CallsIn Fence.wide n Tryd.prog 29 #[.string X] w fun e w' => e = .returned (.func (.func 44) #[] #[.pointer (some ⟨w.heap.size, 0, none⟩)]) ∧ w' = w.alloc (.cells #[.string X] 9) := by
  refine callsIn_of_wp Tryd.func29 rfl trivial ?_ rfl
  simp only [Tryd.ntmps29, List.size_toArray, List.length_cons, List.length_nil, Nat.reduceAdd, Nat.reduceSub, Array.replicate_succ, Array.replicate_zero, List.push_toArray, List.append_toArray, List.nil_append, List.cons_append]
  gi_wp2
  go_ret
  exact ⟨rfl, rfl⟩
end Go.Proofs.YthmeifdgkodjlaaDoor
