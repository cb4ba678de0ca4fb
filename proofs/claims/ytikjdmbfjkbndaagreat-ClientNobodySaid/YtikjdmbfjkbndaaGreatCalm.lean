/- Regions that draw their order: operations that read, and give the same in a class of worlds that the others keep, are taken first. No condition. -/
import Derived.Test.YtikjdmbfjkbndaaGreatBase
namespace Go.Proofs.YtikjdmbfjkbndaaGreat
open Go.RowKit

/-- an end that is reached by going on alone -/
def nrm (R : Act → World → Prop) : Exit → Act → World → Prop
  | .normal, a, w => R a w
  | _, _, _ => False

section
variable {P : Program} {ops : Array Oper} {md : Region.Mode} {C : World → Prop} {R : Act → World → Prop}

/-- an operation of the tail has come -/
def late (tl : List Nat) (listed : Array Bool) : Prop := ∃ t ∈ tl, listed.getD t false = true

/-- whatever order is picked; the world is of the class `C` until an operation of the tail `tl` has come -/
def wpAnyC (P : Program) (md : Region.Mode) (ops : Array Oper) (tl : List Nat) (C : World → Prop) (R : Act → World → Prop) : Nat → Array Bool → Act → World → Prop
  | 0, listed, a, w => (late tl listed ∨ C w) ∧ Region.ready md ops listed = [] ∧ R a w
  | f + 1, listed, a, w => (late tl listed ∨ C w) ∧ (Region.ready md ops listed = [] → R a w) ∧
    ∀ i ∈ Region.ready md ops listed, wpOp P ops (nrm R) i (wpAnyC P md ops tl C R f (listed.setIfInBounds i true)) a w

theorem wpAny_of_C {tl : List Nat} : ∀ (f : Nat) (listed : Array Bool) (a : Act) (w : World), wpAnyC P md ops tl C R f listed a w → wpAny P md ops (nrm R) f listed a w
  | 0, _, _, _, h => ⟨h.2.1, h.2.2⟩
  | f + 1, _, _, _, h => ⟨h.2.1, fun i hi => wpOp_mono (fun a' w' h' => wpAny_of_C f _ a' w' h') (h.2.2 i hi)⟩

/-- a call that gives `v` and leaves the world as it is -/
def CallsC (P : Program) (C : World → Prop) (o : Oper) (v : Value) (a : Act) : Prop :=
  ∀ w, C w → ∃ f args, (execOp a.eval o).run P w = .ok (.enter f args) w ∧ Calls P f args w fun e w' => e = .returned v ∧ w = w'
/-- operation `o`, in state `a`, yields `v` in every world of the class and leaves it as it is -/
def YieldsC (P : Program) (ops : Array Oper) (C : World → Prop) (o : Oper) (v : Value) (a : Act) : Prop :=
  (Region.wanted o (yielded ops a.tmps) = true ∧ ((∀ w, C w → (execOp a.eval o).run P w = .ok (.value v) w) ∨ CallsC P C o v a)) ∨
  (Region.wanted o (yielded ops a.tmps) = false ∧ v = undef)

theorem YieldsC.wpOp {i : Nat} {o : Oper} {v : Value} {a : Act} {Q : Exit → Act → World → Prop} (hi : ops[i]? = some o) (hy : YieldsC P ops C o v a)
    {K : Act → World → Prop} {w : World} (hw' : C w) (h : K (a.put o.dst v) w) : wpOp P ops Q i K a w := by
  unfold Go.wpOp
  simp only [hi]
  rcases hy with ⟨hw, hv⟩ | ⟨hw, rfl⟩
  · rcases hv with hv | hv
    · simp only [hw, if_true, Oper.wp, hv w hw', Oper.upon]; exact .inl h
    · obtain ⟨f, args, hr, hc⟩ := hv w hw'
      simp only [hw, if_true, Oper.wp, hr, Oper.upon]
      refine .inl (hc.mono fun e w'' he => ?_)
      obtain ⟨rfl, rfl⟩ := he
      exact h
  · simp only [hw, Bool.false_eq_true, if_false]; exact h

theorem YieldsC.of_same {o : Oper} {v : Value} {a a' : Act} (hy : YieldsC P ops C o v a) (he : execOp a'.eval o = execOp a.eval o)
    (hw : Region.wanted o (yielded ops a'.tmps) = Region.wanted o (yielded ops a.tmps)) : YieldsC P ops C o v a' := by
  unfold YieldsC CallsC at *
  rw [he, hw]
  exact hy

theorem wpOp_putC {j : Nat} {oi oj : Oper} {v : Value} (hj : ops[j]? = some oj) (hap : oi.apart ops oj = true)
    (hsi : ∀ cs b, oi.op ≠ .select cs b) (hsj : ∀ cs b, oj.op ≠ .select cs b) {K : Act → World → Prop} {a : Act} {w : World}
    (hy : YieldsC P ops C oi v a) (h : wpOp P ops (nrm R) j K (a.put oi.dst v) w) :
    wpOp P ops (nrm R) j (fun a' w' => YieldsC P ops C oi v a' ∧ K (a'.put oi.dst v) w') a w := by
  obtain ⟨h1, h2, h3⟩ := Oper.apart_spec hap
  have keep : ∀ (a : Act), YieldsC P ops C oi v a → ∀ u, YieldsC P ops C oi v (a.put oj.dst u) := fun a hy u =>
    hy.of_same (execOp_put oi hsi a oj.dst u h3) (wanted_put oi a oj.dst u h3)
  have keepD : ∀ d, YieldsC P ops C oi v { a with defers := d :: a.defers } := fun d => hy.of_same rfl rfl
  unfold wpOp at *
  simp only [hj] at *
  rw [wanted_put oj a oi.dst v h1] at h
  split
  · rename_i hw
    simp only [hw, if_true] at h
    rcases h with h | ⟨hasks, a0, w0, hlets⟩
    case inr => exact hlets.elim
    refine .inl ?_
    unfold Oper.wp at *
    rw [execOp_put oj hsj a oi.dst v h1] at h
    generalize (execOp a.eval oj).run P w = r at *
    cases r with
    | ok n w' =>
      cases n <;> simp only [Oper.upon] at h ⊢
      case value u => exact ⟨keep a hy u, by rw [← Act.put_comm a v u h2]; exact h⟩
      case skip => exact ⟨keep a hy _, by rw [← Act.put_comm a v undef h2]; exact h⟩
      case defer d =>
        refine ⟨keep _ (keepD d) _, ?_⟩
        rw [← Act.put_comm _ v undef h2, ← Act.put_defers]
        exact h
      case enter f args =>
        refine Calls.mono h fun e w'' he => ?_
        cases e with
        | returned u => exact ⟨keep a hy u, by rw [← Act.put_comm a v u h2]; exact he⟩
        | panicked c => exact he
        | outgrown => exact he
      case row row args => exact Rows.mono h fun u w'' he => ⟨keep a hy u, by rw [← Act.put_comm a v u h2]; exact he⟩
    | halt x w' =>
      cases x <;> simp only [Oper.upon] at h ⊢
      case panic u => exact h
  · rename_i hw
    simp only [hw] at h
    exact ⟨keep a hy _, by rw [← Act.put_comm a v undef h2]; exact h⟩

theorem wpAnyC_class {tl : List Nat} {f : Nat} {listed : Array Bool} {a : Act} {w : World} (h : wpAnyC P md ops tl C R f listed a w) : late tl listed ∨ C w := by
  cases f <;> exact h.1

theorem late_set {tl : List Nat} {listed : Array Bool} {i : Nat} (h : late tl (listed.setIfInBounds i true)) (hi : i ∉ tl) : late tl listed := by
  obtain ⟨t, ht, hl⟩ := h
  refine ⟨t, ht, ?_⟩
  have hne : i ≠ t := fun e => by rw [e] at hi; exact hi ht
  rw [getD_set_ne false hne] at hl
  exact hl

theorem not_late {hd tl : List Nat} {listed : Array Bool} (hB : headTail md ops hd tl = true) (inv : HInv md ops tl listed) {i : Nat} (hi : i ∈ hd) (hun : listed.getD i true = false) : ¬ late tl listed := by
  rintro ⟨t, ht, hl⟩
  have h1 := List.all_eq_true.1 (List.all_eq_true.1 hB t ht) i hi
  cases ho : ops[t]? with
  | none =>
    cases hs : ops.size with
    | zero => rw [hs] at h1; simp [needs] at h1
    | succ n => rw [hs] at h1; simp [needs, ho] at h1
  | some ot =>
    have := needs_listed inv.closed _ t ot ho (inv.closed t ot ho hl) h1
    rw [getD_both hun] at this
    cases this

theorem wpAnyC_first {hd tl : List Nat} {i : Nat} {oi : Oper} {v : Value} (hi : ops[i]? = some oi) (hsel : ∀ (j : Nat) (o : Oper) cs b, ops[j]? = some o → o.op ≠ .select cs b)
    (hB : headTail md ops hd tl = true) (hin : i ∈ hd) (hit : i ∉ tl) :
    ∀ (fuel : Nat) (listed : Array Bool) (a : Act) (w : World), HInv md ops tl listed →
      (∀ j oj, ops[j]? = some oj → j ≠ i → listed.getD j true = false → (∀ e ∈ oj.after, Region.binds md e = true → e.on ≠ i) → oi.apart ops oj = true) →
      i ∈ Region.ready md ops listed → YieldsC P ops C oi v a →
      wpAnyC P md ops tl C R fuel (listed.setIfInBounds i true) (a.put oi.dst v) w → wpAnyC P md ops tl C R (fuel + 1) listed a w := by
  intro fuel
  induction fuel with
  | zero =>
    intro listed a w inv _ hr hy H
    have hun := (mem_ready.1 hr).1
    have hnl := not_late hB inv hin hun
    have hC : C w := H.1.resolve_left (fun h => hnl (late_set h hit))
    refine ⟨.inr hC, fun h => (by rw [h] at hr; cases hr), fun j hj => ?_⟩
    by_cases hji : j = i
    · subst hji; exact hy.wpOp hi hC H
    · have := ready_mono hj hji
      rw [H.2.1] at this
      cases this
  | succ fuel ih =>
    intro listed a w inv hfree hr hy H
    have hun := (mem_ready.1 hr).1
    have hnl := not_late hB inv hin hun
    have hC : C w := H.1.resolve_left (fun h => hnl (late_set h hit))
    refine ⟨.inr hC, fun h => (by rw [h] at hr; cases hr), fun j hj => ?_⟩
    by_cases hji : j = i
    · subst hji; exact hy.wpOp hi hC H
    · have h1 := H.2.2 j (ready_mono hj hji)
      obtain ⟨hjun, oj, hoj, hall⟩ := mem_ready.1 hj
      have hnot : ∀ e ∈ oj.after, Region.binds md e = true → e.on ≠ i := fun e he hb heq => by
        have h1 := hall e he hb
        rw [heq, getD_both hun] at h1
        cases h1
      have h2 := wpOp_putC hoj (hfree j oj hoj hji hjun hnot) (fun cs b => hsel i oi cs b hi) (fun cs b => hsel j oj cs b hoj) hy h1
      have hfree' : ∀ k ok, ops[k]? = some ok → k ≠ i → (listed.setIfInBounds j true).getD k true = false →
          (∀ e ∈ ok.after, Region.binds md e = true → e.on ≠ i) → oi.apart ops ok = true := fun k ok hk hki hun hno => by
        refine hfree k ok hk hki ?_ hno
        by_cases hjk : j = k
        · subst hjk; exact hjun
        · rw [getD_set_ne true hjk] at hun; exact hun
      refine wpOp_mono (fun a' w' h3 => ih (listed.setIfInBounds j true) a' w' (inv.set hj) hfree' (ready_mono hr (Ne.symm hji)) h3.1 ?_) h2
      rw [Array.setIfInBounds_comm _ _ hji]
      exact h3.2

/-! ### the walk over the operations that are taken first -/

def calmUpon (w : World) (v : Value) : Result Next → Prop
  | .ok (.value u) w' => w' = w ∧ u = v
  | _ => False
def calmAt (P : Program) (o : Oper) (a : Act) (w : World) (v : Value) : Prop := calmUpon w v ((execOp a.eval o).run P w)
def calm (P : Program) (o : Oper) (a : Act) (C : World → Prop) (next : Act → Prop) : Prop := ∃ v, (∀ w, C w → calmAt P o a w v) ∧ next (a.put o.dst v)
attribute [go_sem] calm calmAt calmUpon

def wpCalm (P : Program) (ops : Array Oper) (C : World → Prop) (Q : Act → Prop) : List Oper → Act → Prop
  | [], a => Q a
  | o :: rest, a => if Region.wanted o (yielded ops a.tmps) then (calm P o a C (wpCalm P ops C Q rest) ∨ ∃ v, CallsC P C o v a ∧ wpCalm P ops C Q rest (a.put o.dst v)) else wpCalm P ops C Q rest (a.put o.dst undef)

theorem wpCalm_nil {Q : Act → Prop} {a : Act} (h : Q a) : wpCalm P ops C Q [] a := h
theorem wpCalm_step {Q : Act → Prop} {a : Act} {o : Oper} {rest : List Oper}
    (h : ∀ K : Act → Prop, (∀ a, wpCalm P ops C Q rest a → K a) → if Region.wanted o (yielded ops a.tmps) then calm P o a C K else K (a.put o.dst undef)) : wpCalm P ops C Q (o :: rest) a := by
  have := h _ (fun _ h => h)
  unfold wpCalm
  split
  · rename_i hw; simp only [hw, if_true] at this; exact .inl this
  · rename_i hw; simp only [hw] at this; exact this
/-- a call among the operations that are taken first -/
theorem wpCalm_call {Q : Act → Prop} {a : Act} {o : Oper} {rest : List Oper} (hg : Region.wanted o (yielded ops a.tmps) = true) (f : FuncId) (args : Array Value)
    (hrun : ∀ w, (execOp a.eval o).run P w = .ok (.enter f args) w) (v : Value) (hcall : ∀ w', C w' → Calls P f args w' fun e w'' => e = .returned v ∧ w' = w'')
    (h : wpCalm P ops C Q rest (a.put o.dst v)) : wpCalm P ops C Q (o :: rest) a := by
  unfold wpCalm
  rw [hg]
  simp only [if_true]
  exact .inr ⟨v, fun w hw => ⟨f, args, hrun w, hcall w hw⟩, h⟩

theorem calm_yields {o : Oper} {a : Act} {K : Act → Prop} (h : if Region.wanted o (yielded ops a.tmps) then (calm P o a C K ∨ ∃ v, CallsC P C o v a ∧ K (a.put o.dst v)) else K (a.put o.dst undef)) : ∃ v, YieldsC P ops C o v a ∧ K (a.put o.dst v) := by
  by_cases hw : Region.wanted o (yielded ops a.tmps) = true
  · simp only [hw, if_true] at h
    rcases h with ⟨v, h1, h2⟩ | ⟨v, h1, h2⟩
    case inr => exact ⟨v, .inl ⟨hw, .inr h1⟩, h2⟩
    refine ⟨v, .inl ⟨hw, .inl fun w hc => ?_⟩, h2⟩
    have := h1 w hc
    unfold calmAt at this
    generalize (execOp a.eval o).run P w = r at *
    cases r with
    | ok n w' =>
      cases n <;> simp only [calmUpon] at this
      obtain ⟨rfl, rfl⟩ := this
      rfl
    | halt x w' => simp only [calmUpon] at this
  · simp only [hw] at h
    exact ⟨undef, .inr ⟨by simpa using hw, rfl⟩, h⟩

/-- what is listed when `hd` has been taken -/
def listOf (n : Nat) (hd : List Nat) : Array Bool := hd.foldl (fun l i => l.setIfInBounds i true) (Array.replicate n false)

def takesL (md : Region.Mode) (ops : Array Oper) : List Nat → Array Bool → Bool
  | [], _ => true
  | k :: hd, listed => (Region.ready md ops listed).contains k && Region.free md ops listed k && takesL md ops hd (listed.setIfInBounds k true)

theorem wpAnyC_lex {hd0 tl : List Nat} {f : Nat} {w : World} (hsel : Region.noSelect ops = true) (hht : headTail md ops hd0 tl = true) :
    ∀ (hd : List Nat) (l : List Oper) (listed : Array Bool) (a : Act), (l.map some = hd.map (fun i => ops[i]?)) → (∀ i ∈ hd, i ∈ hd0 ∧ i ∉ tl) → HInv md ops tl listed → takesL md ops hd listed = true →
    wpCalm P ops C (fun a' => wpAnyC P md ops tl C R f (hd.foldl (fun l i => l.setIfInBounds i true) listed) a' w) l a →
    wpAnyC P md ops tl C R (hd.length + f) listed a w
  | [], [], listed, a, _, _, _, _, h => by simpa [wpCalm] using h
  | [], _ :: _, _, _, hl, _, _, _, _ => by simp at hl
  | _ :: _, [], _, _, hl, _, _, _, _ => by simp at hl
  | k :: hd, o :: l, listed, a, hl, hm, inv, hB, h => by
    simp only [List.map_cons, List.cons.injEq] at hl
    obtain ⟨h0, hl⟩ := hl
    simp only [takesL, Bool.and_eq_true] at hB
    obtain ⟨⟨hr, hf⟩, hB'⟩ := hB
    have hr' : k ∈ Region.ready md ops listed := by simpa using hr
    obtain ⟨v, hy, hK⟩ := calm_yields (ops := ops) (C := C) (K := wpCalm P ops C (fun a' => wpAnyC P md ops tl C R f ((k :: hd).foldl (fun l i => l.setIfInBounds i true) listed) a' w) l) h
    have ih := wpAnyC_lex (f := f) (w := w) hsel hht hd l (listed.setIfInBounds k true) (a.put o.dst v) hl (fun i hi => hm i (by simp [hi])) (inv.set hr') hB' (by simpa using hK)
    rw [List.length_cons, show hd.length + 1 + f = (hd.length + f) + 1 by omega]
    exact wpAnyC_first h0.symm (Region.noSelect_spec hsel) hht (hm k (by simp)).1 (hm k (by simp)).2 _ listed a w inv (Region.free_spec h0.symm hf) hr' hy ih

def calmOk (l : List Oper) (hd tl : List Nat) : Bool := Region.noSelect l.toArray && takesL .any l.toArray hd (Array.replicate l.length false) && hd.all (fun i => decide (i < l.length)) && decide (hd.length ≤ l.length) &&
  headTail .any l.toArray hd tl && hd.all (fun i => !tl.contains i)

/-- A region that draws its order: the operations `hd` are taken first; those of `tl` wait for all of them. -/
theorem wp_region_calm {id : Nat} {Q : Exit → Act → World → Prop} {a : Act} {w : World} {l : List Oper} (hd tl : List Nat) (C : World → Prop) (R : Act → World → Prop) (hm : P.follows .mixedOrders = true) (hB : calmOk l hd tl = true)
    (h : wpCalm P l.toArray C (fun a' => wpAnyC P .any l.toArray tl C R (l.length - hd.length) (listOf l.length hd) a' w.drew) (pick l hd) a)
    (hR : ∀ a' w', R a' w' → Q .normal a' w') : (Code.region id l.toArray true).wp P Q a w := by
  simp only [calmOk, Bool.and_eq_true, decide_eq_true_eq] at hB
  obtain ⟨⟨⟨⟨⟨hsel, htk⟩, hin⟩, hlen⟩, hht⟩, hdis⟩ := hB
  have hd' : ∀ i ∈ hd, i ∈ hd ∧ i ∉ tl := fun i hi => ⟨hi, by have := List.all_eq_true.1 hdis i hi; simpa using this⟩
  have inv0 : HInv .any l.toArray tl (Array.replicate l.length false) :=
    ⟨by simp, fun j oj _ hl => (by rw [getD_replicate_false] at hl; cases hl)⟩
  have h1 := wpAnyC_lex (P := P) (C := C) (R := R) (md := .any) (f := l.length - hd.length) (w := w.drew) hsel hht hd (pick l hd) (Array.replicate l.length false) a (pick_some l hd hin) hd' inv0 htk h
  have h2 := wpAny_of_C _ _ _ _ h1
  rw [show hd.length + (l.length - hd.length) = l.length by omega] at h2
  refine Code.wp_mono (Q := nrm R) (fun e a w q => ?_) (wp_region_any hm (by simpa using h2))
  cases e <;> first | exact hR _ _ q | exact q.elim

theorem wpCalm_ex {X : Type} {S : X → Act → Prop} : ∀ (l : List Oper) (a : Act), wpCalm P ops C (fun a' => ∃ x, S x a') l a → ∃ x, wpCalm P ops C (S x) l a
  | [], _, h => h
  | o :: l, a, h => by
    unfold wpCalm at h
    split at h
    · rename_i hw
      rcases h with ⟨v, h1, h2⟩ | ⟨v, h1, h2⟩
      · obtain ⟨x, hx⟩ := wpCalm_ex l _ h2
        exact ⟨x, by unfold wpCalm; rw [if_pos hw]; exact .inl ⟨v, h1, hx⟩⟩
      · obtain ⟨x, hx⟩ := wpCalm_ex l _ h2
        exact ⟨x, by unfold wpCalm; rw [if_pos hw]; exact .inr ⟨v, h1, hx⟩⟩
    · rename_i hw
      obtain ⟨x, hx⟩ := wpCalm_ex l _ h
      exact ⟨x, by unfold wpCalm; rw [if_neg hw]; exact hx⟩

theorem wpCalm_mono {Q1 Q2 : Act → Prop} (hq : ∀ a, Q1 a → Q2 a) : ∀ (l : List Oper) (a : Act), wpCalm P ops C Q1 l a → wpCalm P ops C Q2 l a
  | [], _, h => hq _ h
  | o :: l, a, h => by
    unfold wpCalm at h ⊢
    split
    · rename_i hw; simp only [hw, if_true] at h; rcases h with ⟨v, h1, h2⟩ | ⟨v, h1, h2⟩
      · exact .inl ⟨v, h1, wpCalm_mono hq l _ h2⟩
      · exact .inr ⟨v, h1, wpCalm_mono hq l _ h2⟩
    · rename_i hw; simp only [hw] at h; exact wpCalm_mono hq l _ h

/-- what is left when the head has been taken: a relation of one's own for the end -/
def Rest (P : Program) (l : List Oper) (tl : List Nat) (C : World → Prop) (Q : Exit → Act → World → Prop) (n : Nat) (listed : Array Bool) (w : World) (a : Act) : Prop :=
  ∃ R : Act → World → Prop, (∀ a' w', R a' w' → Q .normal a' w') ∧ wpAnyC P .any l.toArray tl C R n listed a w

theorem wp_region_calm2 {id : Nat} {Q : Exit → Act → World → Prop} {a : Act} {w : World} {l : List Oper} (hd tl : List Nat) (C : World → Prop) (hm : P.follows .mixedOrders = true) (hB : calmOk l hd tl = true)
    (h : wpCalm P l.toArray C (Rest P l tl C Q (l.length - hd.length) (listOf l.length hd) w.drew) (pick l hd) a) : (Code.region id l.toArray true).wp P Q a w := by
  obtain ⟨R, hR⟩ := wpCalm_ex (S := fun R a' => (∀ a' w', R a' w' → Q .normal a' w') ∧ wpAnyC P .any l.toArray tl C R (l.length - hd.length) (listOf l.length hd) a' w.drew) _ _ h
  have hq : ∀ a' w', R a' w' → Q .normal a' w' := by
    have key : ∀ (lo : List Oper) (a : Act) (S : Act → Prop), wpCalm P l.toArray C (fun a' => (∀ a' w', R a' w' → Q .normal a' w') ∧ S a') lo a → ∀ a' w', R a' w' → Q .normal a' w' := by
      intro lo
      induction lo with
      | nil => intro a S h; exact h.1
      | cons o lo ih =>
        intro a S h
        unfold wpCalm at h
        split at h
        · rcases h with ⟨v, _, h2⟩ | ⟨v, _, h2⟩
          · exact ih _ _ h2
          · exact ih _ _ h2
        · exact ih _ _ h
    exact key _ _ _ hR
  exact wp_region_calm hd tl C R hm hB (wpCalm_mono (fun a h => h.2) _ _ hR) hq

/-- the end is told by a parameter `x`: the frame is `F x` of the frame at hand, the world is as `G x` says -/
theorem Rest.by {l : List Oper} {tl : List Nat} {Q : Exit → Act → World → Prop} {n : Nat} {listed : Array Bool} {w : World} {a : Act} {X : Type} (F : X → Act → Act) (G : X → World → Prop)
    (h1 : ∀ x w', G x w' → Q .normal (F x a) w') (h2 : wpAnyC P .any l.toArray tl C (fun a' w' => ∃ x, a' = F x a ∧ G x w') n listed a w) : Rest P l tl C Q n listed w a :=
  ⟨_, fun _ _ ⟨x, e, g⟩ => e ▸ h1 x _ g, h2⟩

/-- one operation of those that are left, of whatever may come up now -/
theorem wpAnyC_next {tl : List Nat} {f : Nat} {listed : Array Bool} {a : Act} {w : World} (rs : List Nat) (hr : Region.ready md ops listed = rs) (hne : rs ≠ []) (hC : late tl listed ∨ C w)
    (h : ∀ i ∈ rs, wpOp P ops (nrm R) i (wpAnyC P md ops tl C R f (listed.setIfInBounds i true)) a w) : wpAnyC P md ops tl C R (f + 1) listed a w :=
  ⟨hC, fun h0 => absurd (hr.symm.trans h0) hne, fun i hi => h i (hr ▸ hi)⟩
theorem wpAnyC_done {tl : List Nat} {listed : Array Bool} {a : Act} {w : World} (hr : Region.ready md ops listed = []) (hC : late tl listed ∨ C w) (h : R a w) : wpAnyC P md ops tl C R 0 listed a w := ⟨hC, hr, h⟩
theorem late_of {tl : List Nat} {listed : Array Bool} (h : tl.any (fun t => listed.getD t false) = true) : late tl listed := by
  obtain ⟨t, ht, hl⟩ := List.any_eq_true.1 h; exact ⟨t, ht, hl⟩
theorem wpOp_one {i : Nat} {o : Oper} {K : Act → World → Prop} {a : Act} {w : World} (hi : ops[i]? = some o) (h : wpList P ops (nrm K) [o] a w) : wpOp P ops (nrm R) i K a w := by
  unfold wpOp
  simp only [hi]
  unfold wpList at h
  split
  · rename_i hw
    simp only [hw, if_true] at h
    rcases h with h | ⟨_, a0, w0, hl⟩
    · refine .inl ?_
      unfold Oper.wp at *
      generalize (execOp a.eval o).run P w = r at *
      cases r with
      | ok n w' =>
        cases n <;> simp only [Oper.upon, wpList, nrm] at h ⊢ <;> first | exact h | exact Calls.mono h (fun e w'' he => by cases e <;> first | exact he | exact he.elim | (obtain ⟨_, _, h⟩ := he; exact h.elim))
      | halt x w' => cases x <;> simp only [Oper.upon, nrm] at h ⊢
    · exact hl.elim
  · rename_i hw; simp only [hw] at h; exact h
end

end Go.Proofs.YtikjdmbfjkbndaaGreat
