/- The queue of package agenda: each method by one contract for every state. Conditions: as stated. -/
import Derived.Test.YtpiilepmaomfeaaAg9
namespace Go.Proofs.Ytpiilepmaomfeaa
open Go.RowKit

/-- what Push returns: the id and the error -/
def pushId (lim tm pu : Int) (n : Nat) (at_ : Int) : Int := if at_ < 0 then 0 else if at_ < tm then 0 else if lim ≤ n then 0 else pu + 1
def pushErr (lim tm : Int) (n : Nat) (at_ : Int) : Int := if at_ < 0 then 3 else if at_ < tm then 12 else if lim ≤ n then 13 else 0

/-- the events and the number of pushes after Push -/
def PushTo (lim tm pu : Int) (l : List Ev) (at_ item pu' : Int) (l' : List Ev) : Prop :=
  (pushErr lim tm l.length at_ = 0 ∧ pu' = pu + 1 ∧ 0 ≤ at_ ∧ tm ≤ at_ ∧ l.length < lim ∧ l'.length = l.length + 1 ∧ ∀ e, e ∈ l' ↔ e = ⟨at_, pu + 1, item⟩ ∨ e ∈ l) ∨
  (pushErr lim tm l.length at_ ≠ 0 ∧ pu' = pu ∧ l'.length = l.length ∧ ∀ e, e ∈ l' ↔ e ∈ l)

theorem push_gen {w : World} {q : Nat} {F : List Nat} {lim tm pu : Int} {l : List Ev} (h : Que w q F lim tm pu l) (at_ item : Int) (hp0 : 0 ≤ pu) (hp1 : pu ≤ 1000000000) :
    Calls Try.prog 11 #[.pointer (some ⟨q, 0, none⟩), .int .i64 at_, .int .i64 item] w fun e w' =>
      e = .returned (.tuple #[.int .i64 (pushId lim tm pu l.length at_), .int .i64 (pushErr lim tm l.length at_)]) ∧
      ∃ F' l' pu', Que w' q F' lim tm pu' l' ∧ Only F w w' ∧ (∀ k ∈ F', k ∈ F ∨ w.heap.size ≤ k) ∧ PushTo lim tm pu l at_ item pu' l' := by
  unfold pushId pushErr PushTo
  by_cases h1 : at_ < 0
  · refine (push_range q at_ item w h1).mono ?_
    rintro e w' ⟨rfl, rfl⟩
    refine ⟨by rw [if_pos h1, if_pos h1], F, l, pu, h, Only.refl _ _, fun _ h => .inl h, .inr ⟨?_, rfl, rfl, fun _ => Iff.rfl⟩⟩
    unfold pushErr; rw [if_pos h1]; omega
  · by_cases h2 : at_ < tm
    · refine (push_order h at_ item (by omega) h2).mono ?_
      rintro e w' ⟨rfl, rfl⟩
      refine ⟨by rw [if_neg h1, if_pos h2, if_neg h1, if_pos h2], F, l, pu, h, Only.refl _ _, fun _ h => .inl h, .inr ⟨?_, rfl, rfl, fun _ => Iff.rfl⟩⟩
      unfold pushErr; rw [if_neg h1, if_pos h2]; omega
    · by_cases h3 : lim ≤ l.length
      · refine (push_full h at_ item (by omega) (by omega) h3).mono ?_
        rintro e w' ⟨rfl, ho⟩
        refine ⟨by rw [if_neg h1, if_neg h2, if_pos h3, if_neg h1, if_neg h2, if_pos h3], F, l, pu, h.kept ho (by simp), ho.weak (by simp), fun _ h => .inl h, .inr ⟨?_, rfl, rfl, fun _ => Iff.rfl⟩⟩
        unfold pushErr; rw [if_neg h1, if_neg h2, if_pos h3]; omega
      · refine (push_ok h at_ item (by omega) (by omega) (by omega) hp0 hp1).mono ?_
        rintro e w' ⟨rfl, F', l', hq, ho, hF, hl, hm⟩
        refine ⟨by rw [if_neg h1, if_neg h2, if_neg h3, if_neg h1, if_neg h2, if_neg h3], F', l', pu + 1, hq, ho, hF, .inl ⟨?_, rfl, by omega, by omega, by omega, hl, hm⟩⟩
        unfold pushErr; rw [if_neg h1, if_neg h2, if_neg h3]

theorem el_nil : el [] 0 = ⟨0, 0, 0⟩ := rfl

theorem peek_gen {w : World} {q : Nat} {F : List Nat} {a2 a3 a4 : Value} {l : List Ev} (h : QRep w q F a2 a3 a4 l) :
    Calls Try.prog 13 #[.pointer (some ⟨q, 0, none⟩)] w fun e w' => e = .returned (.tuple #[evv (el l 0), .bool (decide (0 < l.length))]) ∧ Only [] w w' := by
  by_cases hl : 0 < l.length
  · refine (peek_some h hl).mono ?_
    rintro e w' ⟨rfl, ho⟩
    exact ⟨by simp [hl], ho⟩
  · have : l = [] := List.eq_nil_of_length_eq_zero (by omega)
    subst this
    exact peek_none h

theorem pop_gen {w : World} {q : Nat} {F : List Nat} {lim tm pu : Int} {l : List Ev} (h : Que w q F lim tm pu l) :
    Calls Try.prog 14 #[.pointer (some ⟨q, 0, none⟩)] w fun e w' => e = .returned (.tuple #[evv (el l 0), .bool (decide (0 < l.length))]) ∧
      ∃ tm' l', Que w' q F lim tm' pu l' ∧ Only F w w' ∧ tm' = (if 0 < l.length then (el l 0).t else tm) ∧ l'.length = l.length - 1 ∧ ∀ e, e ∈ l' ↔ e ∈ l ∧ e.i ≠ (el l 0).i := by
  by_cases hl : 0 < l.length
  · refine (pop_some h hl).mono ?_
    rintro e w' ⟨rfl, l', hq, ho, hl', hm⟩
    exact ⟨by simp [hl], _, l', hq, ho, by rw [if_pos hl], by omega, hm⟩
  · have : l = [] := List.eq_nil_of_length_eq_zero (by omega)
    subst this
    refine (pop_none h.rep).mono ?_
    rintro e w' ⟨rfl, ho⟩
    exact ⟨rfl, tm, [], h.kept ho (by simp), ho.weak (by simp), rfl, rfl, by simp⟩

/-- is there an event with this id? -/
def hasId (l : List Ev) (id : Int) : Bool := l.any (fun e => e.i == id)
theorem hasId_true {l : List Ev} {id : Int} : hasId l id = true ↔ ∃ e ∈ l, e.i = id := by simp [hasId]
theorem hasId_false {l : List Ev} {id : Int} : hasId l id = false ↔ ∀ e ∈ l, e.i ≠ id := by simp [hasId]

theorem cancel_gen {w : World} {q : Nat} {F : List Nat} {lim tm pu : Int} {l : List Ev} (h : Que w q F lim tm pu l) (id : Int) (hw : (Lit.int .i64 id).wf = true) :
    Calls Try.prog 21 #[.pointer (some ⟨q, 0, none⟩), .int .i64 id] w fun e w' => e = .returned (.bool (hasId l id)) ∧
      ∃ l', Que w' q F lim tm pu l' ∧ Only F w w' ∧ l'.length = l.length - (if hasId l id then 1 else 0) ∧ ∀ e, e ∈ l' ↔ e ∈ l ∧ e.i ≠ id := by
  cases hh : hasId l id
  · have hn := hasId_false.1 hh
    refine (cancel_no h.rep id hw hn).mono ?_
    rintro e w' ⟨rfl, rfl⟩
    exact ⟨rfl, l, h, Only.refl _ _, by simp, fun e => ⟨fun he => ⟨he, hn e he⟩, fun he => he.1⟩⟩
  · obtain ⟨x, hx, hxi⟩ := hasId_true.1 hh
    refine (cancel_yes h id hw hx hxi).mono ?_
    rintro e w' ⟨rfl, l', hq, ho, hl, hm⟩
    exact ⟨rfl, l', hq, ho, by simp; omega, hm⟩

/-- two queues with the same events have the same first one -/
theorem same_first {w : World} {q q' : Nat} {F F' : List Nat} {lim tm pu lim' tm' pu' : Int} {l l' : List Ev} (h : Que w q F lim tm pu l) (h' : Que w q' F' lim' tm' pu' l') (hm : ∀ e, e ∈ l ↔ e ∈ l') (hl : l.length = l'.length) : el l 0 = el l' 0 := by
  by_cases h0 : 0 < l.length
  · obtain ⟨a1, a2⟩ : el l 0 ∈ l ∧ ∀ e ∈ l, ge e (el l 0) := by
      refine ⟨List.mem_of_getElem? (el_some h0), fun e he => ?_⟩
      obtain ⟨j, hj⟩ := List.mem_iff_getElem?.1 he
      have := heap_min h.heap j (List.getElem?_eq_some_iff.1 hj).1
      rw [el_of hj] at this
      exact this
    obtain ⟨b1, b2⟩ : el l' 0 ∈ l' ∧ ∀ e ∈ l', ge e (el l' 0) := by
      refine ⟨List.mem_of_getElem? (el_some (by omega)), fun e he => ?_⟩
      obtain ⟨j, hj⟩ := List.mem_iff_getElem?.1 he
      have := heap_min h'.heap j (List.getElem?_eq_some_iff.1 hj).1
      rw [el_of hj] at this
      exact this
    have c1 := a2 _ ((hm _).2 b1)
    have c2 := b2 _ ((hm _).1 a1)
    refine h.rep.wfs.1 _ a1 _ ((hm _).2 b1) ?_
    unfold ge at c1 c2
    omega
  · have e1 : l = [] := List.eq_nil_of_length_eq_zero (by omega)
    have e2 : l' = [] := List.eq_nil_of_length_eq_zero (by omega)
    rw [e1, e2]

theorem hasId_congr {l l' : List Ev} (hm : ∀ e, e ∈ l ↔ e ∈ l') (id : Int) : hasId l id = hasId l' id := by
  rw [Bool.eq_iff_iff, hasId_true, hasId_true]
  exact ⟨fun ⟨e, h, hi⟩ => ⟨e, (hm e).1 h, hi⟩, fun ⟨e, h, hi⟩ => ⟨e, (hm e).2 h, hi⟩⟩
end Go.Proofs.Ytpiilepmaomfeaa
