/- Regions that draw their order: calls that make new blocks are taken first too, and operations that look at no memory. No condition. -/
import Derived.Test.YtikjdmbfjkbndaaGreatCalm
namespace Go.Proofs.YtikjdmbfjkbndaaGreat
open Go.RowKit

section
variable {P : Program} {ops : Array Oper} {md : Region.Mode} {R : Act → World → Prop}

/-- a call that gives `v` and makes new blocks alone -/
def CallsG (P : Program) (W : World) (o : Oper) (v : Value) (a : Act) : Prop :=
  ∀ w, OnlyC [] W w → ∃ f args, (execOp a.eval o).run P w = .ok (.enter f args) w ∧ Calls P f args w fun e w' => e = .returned v ∧ Only [] w w'
def YieldsG (P : Program) (ops : Array Oper) (W : World) (o : Oper) (v : Value) (a : Act) : Prop :=
  (Region.wanted o (yielded ops a.tmps) = true ∧ ((∀ w, OnlyC [] W w → (execOp a.eval o).run P w = .ok (.value v) w) ∨ CallsG P W o v a)) ∨
  (Region.wanted o (yielded ops a.tmps) = false ∧ v = undef)

theorem YieldsG.of_same {W : World} {o : Oper} {v : Value} {a a' : Act} (hy : YieldsG P ops W o v a) (he : execOp a'.eval o = execOp a.eval o)
    (hw : Region.wanted o (yielded ops a'.tmps) = Region.wanted o (yielded ops a.tmps)) : YieldsG P ops W o v a' := by
  unfold YieldsG CallsG at *
  rw [he, hw]
  exact hy

theorem YieldsG.wpOp {W : World} {i : Nat} {o : Oper} {v : Value} {a : Act} {Q : Exit → Act → World → Prop} (hi : ops[i]? = some o) (hy : YieldsG P ops W o v a)
    {K : Act → World → Prop} {w : World} (hw' : OnlyC [] W w) (h : ∀ w', Only [] w w' → K (a.put o.dst v) w') : wpOp P ops Q i K a w := by
  unfold Go.wpOp
  simp only [hi]
  rcases hy with ⟨hw, hv⟩ | ⟨hw, rfl⟩
  · rcases hv with hv | hv
    · simp only [hw, if_true, Oper.wp, hv w hw', Oper.upon]; exact .inl (h _ (Only.refl _ _))
    · obtain ⟨f, args, hr, hc⟩ := hv w hw'
      simp only [hw, if_true, Oper.wp, hr, Oper.upon]
      refine .inl (hc.mono fun e w'' he => ?_)
      obtain ⟨rfl, he⟩ := he
      exact h _ he
  · simp only [hw, Bool.false_eq_true, if_false]; exact h _ (Only.refl _ _)

/-- what is known of an operation `oi` is not touched when another one comes before it -/
theorem wpOp_putX {oi : Oper} {Y : Act → Prop} {j : Nat} {oj : Oper} {v : Value} (hj : ops[j]? = some oj) (hap : oi.apart ops oj = true)
    (hsi : ∀ cs b, oi.op ≠ .select cs b) (hsj : ∀ cs b, oj.op ≠ .select cs b)
    (hY : ∀ a a', Y a → execOp a'.eval oi = execOp a.eval oi → Region.wanted oi (yielded ops a'.tmps) = Region.wanted oi (yielded ops a.tmps) → Y a') {K : Act → World → Prop} {a : Act} {w : World}
    (hy : Y a) (h : wpOp P ops (nrm R) j K (a.put oi.dst v) w) :
    wpOp P ops (nrm R) j (fun a' w' => Y a' ∧ K (a'.put oi.dst v) w') a w := by
  obtain ⟨h1, h2, h3⟩ := Oper.apart_spec hap
  have keep : ∀ (a : Act), Y a → ∀ u, Y (a.put oj.dst u) := fun a hy u =>
    hY a _ hy (execOp_put oi hsi a oj.dst u h3) (wanted_put oi a oj.dst u h3)
  have keepD : ∀ d, Y { a with defers := d :: a.defers } := fun d => hY a _ hy rfl rfl
  unfold wpOp at *
  simp only [hj] at *
  rw [wanted_put oj a oi.dst v h1] at h
  split
  · rename_i hw
    simp only [hw, if_true] at h
    rcases h with h | ⟨hasks, a0, w0, hlets⟩
    case inr => exact hlets.elim
    refine .inl ?_
    unfold Oper.wp at *
    rw [execOp_put oj hsj a oi.dst v h1] at h
    generalize (execOp a.eval oj).run P w = r at *
    cases r with
    | ok n w' =>
      cases n <;> simp only [Oper.upon] at h ⊢
      case value u => exact ⟨keep a hy u, by rw [← Act.put_comm a v u h2]; exact h⟩
      case skip => exact ⟨keep a hy _, by rw [← Act.put_comm a v undef h2]; exact h⟩
      case defer d =>
        refine ⟨keep _ (keepD d) _, ?_⟩
        rw [← Act.put_comm _ v undef h2, ← Act.put_defers]
        exact h
      case enter f args =>
        refine Calls.mono h fun e w'' he => ?_
        cases e with
        | returned u => exact ⟨keep a hy u, by rw [← Act.put_comm a v u h2]; exact he⟩
        | panicked c => exact he
        | outgrown => exact he
      case row row args => exact Rows.mono h fun u w'' he => ⟨keep a hy u, by rw [← Act.put_comm a v u h2]; exact he⟩
    | halt x w' =>
      cases x <;> simp only [Oper.upon] at h ⊢
      case panic u => exact h
  · rename_i hw
    simp only [hw] at h
    exact ⟨keep a hy _, by rw [← Act.put_comm a v undef h2]; exact h⟩

/-- whatever order is picked, and whatever new blocks come between -/
def wpAnyG (P : Program) (md : Region.Mode) (ops : Array Oper) (tl : List Nat) (W : World) (R : Act → World → Prop) : Nat → Array Bool → Act → World → Prop
  | 0, listed, a, w => (late tl listed ∨ OnlyC [] W w) ∧ Region.ready md ops listed = [] ∧ R a w
  | f + 1, listed, a, w => (late tl listed ∨ OnlyC [] W w) ∧ (Region.ready md ops listed = [] → R a w) ∧
    ∀ w1, Only [] w w1 → ∀ i ∈ Region.ready md ops listed, wpOp P ops (nrm R) i (wpAnyG P md ops tl W R f (listed.setIfInBounds i true)) a w1

def StableR (R : Act → World → Prop) : Prop := ∀ a w w', R a w → Only [] w w' → R a w'

theorem class_on {W w w' : World} (h : OnlyC [] W w) (ho : Only [] w w') : OnlyC [] W w' := onlyC ((only_of_C h).nil_trans ho)

theorem wpAnyG_mono {tl : List Nat} {W : World} (hR : StableR R) {f : Nat} {listed : Array Bool} {a : Act} {w w' : World} (h : wpAnyG P md ops tl W R f listed a w) (ho : Only [] w w') : wpAnyG P md ops tl W R f listed a w' := by
  cases f with
  | zero => exact ⟨h.1.imp id (fun h => class_on h ho), h.2.1, hR _ _ _ h.2.2 ho⟩
  | succ f => exact ⟨h.1.imp id (fun h => class_on h ho), fun he => hR _ _ _ (h.2.1 he) ho, fun w1 h1 => h.2.2 w1 (ho.nil_trans h1)⟩

theorem wpAny_of_G {tl : List Nat} {W : World} : ∀ (f : Nat) (listed : Array Bool) (a : Act) (w : World), wpAnyG P md ops tl W R f listed a w → wpAny P md ops (nrm R) f listed a w
  | 0, _, _, _, h => ⟨h.2.1, h.2.2⟩
  | f + 1, _, _, w, h => ⟨h.2.1, fun i hi => wpOp_mono (fun a' w' h' => wpAny_of_G f _ a' w' h') (h.2.2 w (Only.refl _ _) i hi)⟩

theorem free_set {listed : Array Bool} {i j : Nat} {oi : Oper} (hfree : ∀ j oj, ops[j]? = some oj → j ≠ i → listed.getD j true = false → (∀ e ∈ oj.after, Region.binds md e = true → e.on ≠ i) → oi.apart ops oj = true)
    (hjun : listed.getD j true = false) : ∀ k ok, ops[k]? = some ok → k ≠ i → (listed.setIfInBounds j true).getD k true = false → (∀ e ∈ ok.after, Region.binds md e = true → e.on ≠ i) → oi.apart ops ok = true := by
  intro k ok hk hki hun hno
  refine hfree k ok hk hki ?_ hno
  by_cases hjk : j = k
  · subst hjk; exact hjun
  · rw [getD_set_ne true hjk] at hun; exact hun

theorem wpAnyG_first {hd tl : List Nat} {W : World} (hR : StableR R) {i : Nat} {oi : Oper} {v : Value} (hi : ops[i]? = some oi) (hsel : ∀ (j : Nat) (o : Oper) cs b, ops[j]? = some o → o.op ≠ .select cs b)
    (hB : headTail md ops hd tl = true) (hin : i ∈ hd) (hit : i ∉ tl) :
    ∀ (fuel : Nat) (listed : Array Bool) (a : Act) (w : World), HInv md ops tl listed →
      (∀ j oj, ops[j]? = some oj → j ≠ i → listed.getD j true = false → (∀ e ∈ oj.after, Region.binds md e = true → e.on ≠ i) → oi.apart ops oj = true) →
      i ∈ Region.ready md ops listed → YieldsG P ops W oi v a →
      wpAnyG P md ops tl W R fuel (listed.setIfInBounds i true) (a.put oi.dst v) w → wpAnyG P md ops tl W R (fuel + 1) listed a w := by
  intro fuel
  induction fuel with
  | zero =>
    intro listed a w inv _ hr hy H
    have hun := (mem_ready.1 hr).1
    have hnl := not_late hB inv hin hun
    have hC : OnlyC [] W w := H.1.resolve_left (fun h => hnl (late_set h hit))
    refine ⟨.inr hC, fun h => (by rw [h] at hr; cases hr), fun w1 h1 j hj => ?_⟩
    by_cases hji : j = i
    · subst hji; exact hy.wpOp hi (class_on hC h1) (fun w2 h2 => wpAnyG_mono hR H (h1.nil_trans h2))
    · have := ready_mono hj hji
      rw [H.2.1] at this
      cases this
  | succ fuel ih =>
    intro listed a w inv hfree hr hy H
    have hun := (mem_ready.1 hr).1
    have hnl := not_late hB inv hin hun
    have hC : OnlyC [] W w := H.1.resolve_left (fun h => hnl (late_set h hit))
    refine ⟨.inr hC, fun h => (by rw [h] at hr; cases hr), fun w1 hw1 j hj => ?_⟩
    by_cases hji : j = i
    · subst hji; exact hy.wpOp hi (class_on hC hw1) (fun w2 h2 => wpAnyG_mono hR H (hw1.nil_trans h2))
    · have h1 := H.2.2 w1 hw1 j (ready_mono hj hji)
      obtain ⟨hjun, oj, hoj, hall⟩ := mem_ready.1 hj
      have hnot : ∀ e ∈ oj.after, Region.binds md e = true → e.on ≠ i := fun e he hb heq => by
        have h1 := hall e he hb
        rw [heq, getD_both hun] at h1
        cases h1
      have h2 := wpOp_putX (Y := YieldsG P ops W oi v) hoj (hfree j oj hoj hji hjun hnot) (fun cs b => hsel i oi cs b hi) (fun cs b => hsel j oj cs b hoj) (fun a a' h h1 h2 => YieldsG.of_same h h1 h2) hy h1
      refine wpOp_mono (fun a' w' h3 => ih (listed.setIfInBounds j true) a' w' (inv.set hj) (free_set hfree hjun) (ready_mono hr (Ne.symm hji)) h3.1 ?_) h2
      rw [Array.setIfInBounds_comm _ _ hji]
      exact h3.2

/-- an operation that looks at no memory is taken first even where others do not wait for it -/
theorem wpAnyG_pure {tl : List Nat} {W : World} (hR : StableR R) {i : Nat} {oi : Oper} {v : Value} (hi : ops[i]? = some oi) (hsel : ∀ (j : Nat) (o : Oper) cs b, ops[j]? = some o → o.op ≠ .select cs b) (hit : i ∉ tl) :
    ∀ (fuel : Nat) (listed : Array Bool) (a : Act) (w : World), HInv md ops tl listed →
      (∀ j oj, ops[j]? = some oj → j ≠ i → listed.getD j true = false → (∀ e ∈ oj.after, Region.binds md e = true → e.on ≠ i) → oi.apart ops oj = true) →
      i ∈ Region.ready md ops listed → YieldsC P ops (fun _ => True) oi v a →
      wpAnyG P md ops tl W R fuel (listed.setIfInBounds i true) (a.put oi.dst v) w → wpAnyG P md ops tl W R (fuel + 1) listed a w := by
  intro fuel
  induction fuel with
  | zero =>
    intro listed a w inv _ hr hy H
    refine ⟨H.1.imp (fun h => late_set h hit) id, fun h => (by rw [h] at hr; cases hr), fun w1 h1 j hj => ?_⟩
    by_cases hji : j = i
    · subst hji; exact hy.wpOp hi trivial (wpAnyG_mono hR H h1)
    · have := ready_mono hj hji
      rw [H.2.1] at this
      cases this
  | succ fuel ih =>
    intro listed a w inv hfree hr hy H
    have hun := (mem_ready.1 hr).1
    refine ⟨H.1.imp (fun h => late_set h hit) id, fun h => (by rw [h] at hr; cases hr), fun w1 hw1 j hj => ?_⟩
    by_cases hji : j = i
    · subst hji; exact hy.wpOp hi trivial (wpAnyG_mono hR H hw1)
    · have h1 := H.2.2 w1 hw1 j (ready_mono hj hji)
      obtain ⟨hjun, oj, hoj, hall⟩ := mem_ready.1 hj
      have hnot : ∀ e ∈ oj.after, Region.binds md e = true → e.on ≠ i := fun e he hb heq => by
        have h1 := hall e he hb
        rw [heq, getD_both hun] at h1
        cases h1
      have h2 := wpOp_putX (Y := YieldsC P ops (fun _ => True) oi v) hoj (hfree j oj hoj hji hjun hnot) (fun cs b => hsel i oi cs b hi) (fun cs b => hsel j oj cs b hoj) (fun a a' h h1 h2 => YieldsC.of_same h h1 h2) hy h1
      refine wpOp_mono (fun a' w' h3 => ih (listed.setIfInBounds j true) a' w' (inv.set hj) (free_set hfree hjun) (ready_mono hr (Ne.symm hji)) h3.1 ?_) h2
      rw [Array.setIfInBounds_comm _ _ hji]
      exact h3.2

/-! ### the walk -/
def wpCalmG (P : Program) (ops : Array Oper) (W : World) (Q : Act → Prop) : List Oper → Act → Prop
  | [], a => Q a
  | o :: rest, a => if Region.wanted o (yielded ops a.tmps) then (calm P o a (OnlyC [] W) (wpCalmG P ops W Q rest) ∨ ∃ v, CallsG P W o v a ∧ wpCalmG P ops W Q rest (a.put o.dst v)) else wpCalmG P ops W Q rest (a.put o.dst undef)

theorem wpCalmG_nil {W : World} {Q : Act → Prop} {a : Act} (h : Q a) : wpCalmG P ops W Q [] a := h
theorem wpCalmG_step {W : World} {Q : Act → Prop} {a : Act} {o : Oper} {rest : List Oper}
    (h : ∀ K : Act → Prop, (∀ a, wpCalmG P ops W Q rest a → K a) → if Region.wanted o (yielded ops a.tmps) then calm P o a (OnlyC [] W) K else K (a.put o.dst undef)) : wpCalmG P ops W Q (o :: rest) a := by
  have := h _ (fun _ h => h)
  unfold wpCalmG
  split
  · rename_i hw; simp only [hw, if_true] at this; exact .inl this
  · rename_i hw; simp only [hw] at this; exact this
theorem wpCalmG_call {W : World} {Q : Act → Prop} {a : Act} {o : Oper} {rest : List Oper} (hg : Region.wanted o (yielded ops a.tmps) = true) (f : FuncId) (args : Array Value)
    (hrun : ∀ w, (execOp a.eval o).run P w = .ok (.enter f args) w) (v : Value) (hcall : ∀ w', Only [] W w' → Calls P f args w' fun e w'' => e = .returned v ∧ Only [] w' w'')
    (h : wpCalmG P ops W Q rest (a.put o.dst v)) : wpCalmG P ops W Q (o :: rest) a := by
  unfold wpCalmG
  rw [hg]
  simp only [if_true]
  exact .inr ⟨v, fun w hw => ⟨f, args, hrun w, hcall w (only_of_C hw)⟩, h⟩

theorem calmG_yields {W : World} {o : Oper} {a : Act} {K : Act → Prop} (h : if Region.wanted o (yielded ops a.tmps) then (calm P o a (OnlyC [] W) K ∨ ∃ v, CallsG P W o v a ∧ K (a.put o.dst v)) else K (a.put o.dst undef)) : ∃ v, YieldsG P ops W o v a ∧ K (a.put o.dst v) := by
  by_cases hw : Region.wanted o (yielded ops a.tmps) = true
  · simp only [hw, if_true] at h
    rcases h with ⟨v, h1, h2⟩ | ⟨v, h1, h2⟩
    case inr => exact ⟨v, .inl ⟨hw, .inr h1⟩, h2⟩
    refine ⟨v, .inl ⟨hw, .inl fun w hc => ?_⟩, h2⟩
    have := h1 w hc
    unfold calmAt at this
    generalize (execOp a.eval o).run P w = r at *
    cases r with
    | ok n w' =>
      cases n <;> simp only [calmUpon] at this
      obtain ⟨rfl, rfl⟩ := this
      rfl
    | halt x w' => simp only [calmUpon] at this
  · simp only [hw] at h
    exact ⟨undef, .inr ⟨by simpa using hw, rfl⟩, h⟩

theorem wpAnyG_lexP {tl : List Nat} {f : Nat} {w W : World} (hR : StableR R) (hsel : Region.noSelect ops = true) :
    ∀ (pu : List Nat) (l : List Oper) (listed : Array Bool) (a : Act), (l.map some = pu.map (fun i => ops[i]?)) → (∀ i ∈ pu, i ∉ tl) → HInv md ops tl listed → takesL md ops pu listed = true →
    wpCalm P ops (fun _ => True) (fun a' => wpAnyG P md ops tl W R f (pu.foldl (fun l i => l.setIfInBounds i true) listed) a' w) l a →
    wpAnyG P md ops tl W R (pu.length + f) listed a w
  | [], [], listed, a, _, _, _, _, h => by simpa [wpCalm] using h
  | [], _ :: _, _, _, hl, _, _, _, _ => by simp at hl
  | _ :: _, [], _, _, hl, _, _, _, _ => by simp at hl
  | k :: pu, o :: l, listed, a, hl, hm, inv, hB, h => by
    simp only [List.map_cons, List.cons.injEq] at hl
    obtain ⟨h0, hl⟩ := hl
    simp only [takesL, Bool.and_eq_true] at hB
    obtain ⟨⟨hr, hf⟩, hB'⟩ := hB
    have hr' : k ∈ Region.ready md ops listed := by simpa using hr
    obtain ⟨v, hy, hK⟩ := calm_yields (ops := ops) (C := fun _ => True) (K := wpCalm P ops (fun _ => True) (fun a' => wpAnyG P md ops tl W R f ((k :: pu).foldl (fun l i => l.setIfInBounds i true) listed) a' w) l) h
    have ih := wpAnyG_lexP (f := f) (w := w) (W := W) hR hsel pu l (listed.setIfInBounds k true) (a.put o.dst v) hl (fun i hi => hm i (by simp [hi])) (inv.set hr') hB' (by simpa using hK)
    rw [List.length_cons, show pu.length + 1 + f = (pu.length + f) + 1 by omega]
    exact wpAnyG_pure hR h0.symm (Region.noSelect_spec hsel) (hm k (by simp)) _ listed a w inv (Region.free_spec h0.symm hf) hr' hy ih

theorem wpAnyG_lex {hd0 tl : List Nat} {f : Nat} {w W : World} (hR : StableR R) (hsel : Region.noSelect ops = true) (hht : headTail md ops hd0 tl = true) :
    ∀ (hd : List Nat) (l : List Oper) (listed : Array Bool) (a : Act), (l.map some = hd.map (fun i => ops[i]?)) → (∀ i ∈ hd, i ∈ hd0 ∧ i ∉ tl) → HInv md ops tl listed → takesL md ops hd listed = true →
    wpCalmG P ops W (fun a' => HInv md ops tl (hd.foldl (fun l i => l.setIfInBounds i true) listed) → wpAnyG P md ops tl W R f (hd.foldl (fun l i => l.setIfInBounds i true) listed) a' w) l a →
    wpAnyG P md ops tl W R (hd.length + f) listed a w
  | [], [], listed, a, _, _, inv, _, h => by simpa [wpCalmG] using h inv
  | [], _ :: _, _, _, hl, _, _, _, _ => by simp at hl
  | _ :: _, [], _, _, hl, _, _, _, _ => by simp at hl
  | k :: hd, o :: l, listed, a, hl, hm, inv, hB, h => by
    simp only [List.map_cons, List.cons.injEq] at hl
    obtain ⟨h0, hl⟩ := hl
    simp only [takesL, Bool.and_eq_true] at hB
    obtain ⟨⟨hr, hf⟩, hB'⟩ := hB
    have hr' : k ∈ Region.ready md ops listed := by simpa using hr
    obtain ⟨v, hy, hK⟩ := calmG_yields (ops := ops) (W := W) (K := wpCalmG P ops W (fun a' => HInv md ops tl ((k :: hd).foldl (fun l i => l.setIfInBounds i true) listed) → wpAnyG P md ops tl W R f ((k :: hd).foldl (fun l i => l.setIfInBounds i true) listed) a' w) l) h
    have ih := wpAnyG_lex (f := f) (w := w) (W := W) hR hsel hht hd l (listed.setIfInBounds k true) (a.put o.dst v) hl (fun i hi => hm i (by simp [hi])) (inv.set hr') hB' (by simpa using hK)
    rw [List.length_cons, show hd.length + 1 + f = (hd.length + f) + 1 by omega]
    exact wpAnyG_first hR h0.symm (Region.noSelect_spec hsel) hht (hm k (by simp)).1 (hm k (by simp)).2 _ listed a w inv (Region.free_spec h0.symm hf) hr' hy ih

def calmOk3 (l : List Oper) (hd pu tl : List Nat) : Bool := Region.noSelect l.toArray && takesL .any l.toArray hd (Array.replicate l.length false) && takesL .any l.toArray pu (listOf l.length hd) && hd.all (fun i => decide (i < l.length)) && pu.all (fun i => decide (i < l.length)) &&
  decide (hd.length + pu.length ≤ l.length) && headTail .any l.toArray hd tl && hd.all (fun i => !tl.contains i) && pu.all (fun i => !tl.contains i)

/-- what is left when those have been taken: a relation of one's own for the end -/
def RestG (P : Program) (l : List Oper) (tl : List Nat) (W : World) (Q : Exit → Act → World → Prop) (n : Nat) (listed : Array Bool) (w : World) (a : Act) : Prop :=
  ∃ R : Act → World → Prop, (∀ a' w', R a' w' → Q .normal a' w') ∧ StableR R ∧ wpAnyG P .any l.toArray tl W R n listed a w

theorem wpCalmG_ex {W : World} {X : Type} {S : X → Act → Prop} : ∀ (l : List Oper) (a : Act), wpCalmG P ops W (fun a' => ∃ x, S x a') l a → ∃ x, wpCalmG P ops W (S x) l a
  | [], _, h => h
  | o :: l, a, h => by
    unfold wpCalmG at h
    split at h
    · rename_i hw
      rcases h with ⟨v, h1, h2⟩ | ⟨v, h1, h2⟩
      · obtain ⟨x, hx⟩ := wpCalmG_ex l _ h2
        exact ⟨x, by unfold wpCalmG; rw [if_pos hw]; exact .inl ⟨v, h1, hx⟩⟩
      · obtain ⟨x, hx⟩ := wpCalmG_ex l _ h2
        exact ⟨x, by unfold wpCalmG; rw [if_pos hw]; exact .inr ⟨v, h1, hx⟩⟩
    · rename_i hw
      obtain ⟨x, hx⟩ := wpCalmG_ex l _ h
      exact ⟨x, by unfold wpCalmG; rw [if_neg hw]; exact hx⟩
theorem wpCalmG_mono {W : World} {Q1 Q2 : Act → Prop} (hq : ∀ a, Q1 a → Q2 a) : ∀ (l : List Oper) (a : Act), wpCalmG P ops W Q1 l a → wpCalmG P ops W Q2 l a
  | [], _, h => hq _ h
  | o :: l, a, h => by
    unfold wpCalmG at h ⊢
    split
    · rename_i hw; simp only [hw, if_true] at h; rcases h with ⟨v, h1, h2⟩ | ⟨v, h1, h2⟩
      · exact .inl ⟨v, h1, wpCalmG_mono hq l _ h2⟩
      · exact .inr ⟨v, h1, wpCalmG_mono hq l _ h2⟩
    · rename_i hw; simp only [hw] at h; exact wpCalmG_mono hq l _ h
theorem wpCalmG_pure {W : World} {p : Prop} {S : Act → Prop} : ∀ (l : List Oper) (a : Act), wpCalmG P ops W (fun a' => p ∧ S a') l a → p
  | [], _, h => h.1
  | o :: l, a, h => by
    unfold wpCalmG at h
    split at h
    · rcases h with ⟨v, _, h2⟩ | ⟨v, _, h2⟩
      · exact wpCalmG_pure l _ h2
      · exact wpCalmG_pure l _ h2
    · exact wpCalmG_pure l _ h
theorem wpCalm_pure {C : World → Prop} {p : Prop} {S : Act → Prop} : ∀ (l : List Oper) (a : Act), wpCalm P ops C (fun a' => p ∧ S a') l a → p
  | [], _, h => h.1
  | o :: l, a, h => by
    unfold wpCalm at h
    split at h
    · rcases h with ⟨v, _, h2⟩ | ⟨v, _, h2⟩
      · exact wpCalm_pure l _ h2
      · exact wpCalm_pure l _ h2
    · exact wpCalm_pure l _ h

theorem wp_region_calm3 {id : Nat} {Q : Exit → Act → World → Prop} {a : Act} {w : World} {l : List Oper} (hd pu tl : List Nat) (hm : P.follows .mixedOrders = true) (hB : calmOk3 l hd pu tl = true)
    (h : wpCalmG P l.toArray w (wpCalm P l.toArray (fun _ => True) (RestG P l tl w Q (l.length - (hd.length + pu.length)) (listOf l.length (hd ++ pu)) w.drew) (pick l pu)) (pick l hd) a) : (Code.region id l.toArray true).wp P Q a w := by
  simp only [calmOk3, Bool.and_eq_true, decide_eq_true_eq] at hB
  obtain ⟨⟨⟨⟨⟨⟨⟨⟨hsel, htk⟩, htp⟩, hin⟩, hip⟩, hlen⟩, hht⟩, hdis⟩, hdip⟩ := hB
  have hd' : ∀ i ∈ hd, i ∈ hd ∧ i ∉ tl := fun i hi => ⟨hi, by have := List.all_eq_true.1 hdis i hi; simpa using this⟩
  have hp' : ∀ i ∈ pu, i ∉ tl := fun i hi => by have := List.all_eq_true.1 hdip i hi; simpa using this
  have inv0 : HInv .any l.toArray tl (Array.replicate l.length false) :=
    ⟨by simp, fun j oj _ hl => (by rw [getD_replicate_false] at hl; cases hl)⟩
  obtain ⟨R, h1⟩ := wpCalmG_ex (S := fun R a' => wpCalm P l.toArray (fun _ => True) (fun a' => ((∀ a' w', R a' w' → Q .normal a' w') ∧ StableR R) ∧ wpAnyG P .any l.toArray tl w R (l.length - (hd.length + pu.length)) (listOf l.length (hd ++ pu)) a' w.drew) (pick l pu) a') _ _
    (wpCalmG_mono (fun a' h => wpCalm_ex _ _ (wpCalm_mono (fun a h => by obtain ⟨R, h1, h2, h3⟩ := h; exact ⟨R, ⟨h1, h2⟩, h3⟩) _ _ h)) _ _ h)
  have hq : (∀ a' w', R a' w' → Q .normal a' w') ∧ StableR R :=
    wpCalmG_pure _ _ (wpCalmG_mono (fun a' h => ⟨wpCalm_pure _ _ h, h⟩) _ _ h1)
  have h2 := wpAnyG_lex (P := P) (R := R) (md := .any) (W := w) (f := pu.length + (l.length - (hd.length + pu.length))) (w := w.drew) hq.2 hsel hht hd (pick l hd) (Array.replicate l.length false) a (pick_some l hd hin) hd' inv0 htk
    (wpCalmG_mono (fun a' h inv => wpAnyG_lexP (P := P) (R := R) (md := .any) (W := w) hq.2 hsel pu (pick l pu) _ a' (pick_some l pu hip) hp' inv htp
      (wpCalm_mono (fun a'' h => by have := h.2; unfold listOf at this; rw [List.foldl_append] at this; exact this) _ _ h)) _ _ h1)
  have h3 := wpAny_of_G _ _ _ _ h2
  rw [show hd.length + (pu.length + (l.length - (hd.length + pu.length))) = l.length by omega] at h3
  refine Code.wp_mono (Q := nrm R) (fun e a w q => ?_) (wp_region_any hm (by simpa using h3))
  cases e <;> first | exact hq.1 _ _ q | exact q.elim

theorem RestG.by {l : List Oper} {tl : List Nat} {W : World} {Q : Exit → Act → World → Prop} {n : Nat} {listed : Array Bool} {w : World} {a : Act} {X : Type} (F : X → Act → Act) (G : X → World → Prop) (hst : ∀ x w1 w2, G x w1 → Only [] w1 w2 → G x w2)
    (h1 : ∀ x w', G x w' → Q .normal (F x a) w') (h2 : wpAnyG P .any l.toArray tl W (fun a' w' => ∃ x, a' = F x a ∧ G x w') n listed a w) : RestG P l tl W Q n listed w a :=
  ⟨_, fun _ _ ⟨x, e, g⟩ => e ▸ h1 x _ g, fun _ w1 w2 ⟨x, e, g⟩ ho => ⟨x, e, hst x w1 w2 g ho⟩, h2⟩

theorem wpAnyG_next {tl : List Nat} {f : Nat} {listed : Array Bool} {a : Act} {w W : World} (i : Nat) (hr : Region.ready md ops listed = [i]) (hC : late tl listed ∨ OnlyC [] W w)
    (h : ∀ w1, Only [] w w1 → wpOp P ops (nrm R) i (wpAnyG P md ops tl W R f (listed.setIfInBounds i true)) a w1) : wpAnyG P md ops tl W R (f + 1) listed a w :=
  ⟨hC, fun h0 => absurd (hr.symm.trans h0) (by simp), fun w1 h1 j hj => by
    rw [hr] at hj
    rw [List.mem_singleton.1 hj]
    exact h w1 h1⟩
theorem wpAnyG_nexts {tl : List Nat} {f : Nat} {listed : Array Bool} {a : Act} {w W : World} (rs : List Nat) (hr : Region.ready md ops listed = rs) (hne : rs ≠ []) (hC : late tl listed ∨ OnlyC [] W w)
    (h : ∀ w1, Only [] w w1 → ∀ i ∈ rs, wpOp P ops (nrm R) i (wpAnyG P md ops tl W R f (listed.setIfInBounds i true)) a w1) : wpAnyG P md ops tl W R (f + 1) listed a w :=
  ⟨hC, fun h0 => absurd (hr.symm.trans h0) hne, fun w1 h1 i hi => h w1 h1 i (hr ▸ hi)⟩
theorem wpAnyG_done {tl : List Nat} {listed : Array Bool} {a : Act} {w W : World} (hr : Region.ready md ops listed = []) (hC : late tl listed ∨ OnlyC [] W w) (h : R a w) : wpAnyG P md ops tl W R 0 listed a w := ⟨hC, hr, h⟩
end

/-- a new block with these contents -/
def Fresh (W : World) (o : Obj) (y : Nat) (w : World) : Prop := W.heap.size ≤ y ∧ w.heap[y]? = some o ∧ Only [] W w
theorem Fresh.on {W : World} {o : Obj} : ∀ (y : Nat) (w1 w2 : World), Fresh W o y w1 → Only [] w1 w2 → Fresh W o y w2 := fun _ _ _ h ho => ⟨h.1, ho.got h.2.1 (by simp), h.2.2.nil_trans ho⟩
end Go.Proofs.YtikjdmbfjkbndaaGreat
