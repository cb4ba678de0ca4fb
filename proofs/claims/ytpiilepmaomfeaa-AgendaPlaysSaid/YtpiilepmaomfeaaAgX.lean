/- Both queues side by side: each method by one contract, whatever the state, nil among them. Conditions: as stated. -/
import Derived.Test.YtpiilepmaomfeaaAgW
namespace Go.Proofs.Ytpiilepmaomfeaa
open Go.RowKit

theorem rpush_gen {w : World} {p : Nat} {v : Value} {lim tm pu : Int} {l : List Ev} (h : RQ w p v lim tm pu l) (at_ item : Int) (hp0 : 0 ≤ pu) (hp1 : pu ≤ 1000000000) (hn : l.length < 1000000) :
    Calls Try.prog 18 #[.pointer (some ⟨p, 0, none⟩), .int .i64 at_, .int .i64 item] w fun e w' =>
      e = .returned (.tuple #[.int .i64 (pushId lim tm pu l.length at_), .int .i64 (pushErr lim tm l.length at_)]) ∧
      ∃ v' l' pu', RQ w' p v' lim tm pu' l' ∧ Only (p :: v.ownBlock.toList) w w' ∧ (∀ k ∈ v'.ownBlock.toList, k ∈ v.ownBlock.toList ∨ w.heap.size ≤ k) ∧
        ((pushErr lim tm l.length at_ = 0 ∧ pu' = pu + 1 ∧ l' = l ++ [⟨at_, pu + 1, item⟩]) ∨ (pushErr lim tm l.length at_ ≠ 0 ∧ pu' = pu ∧ l' = l)) := by
  unfold pushId pushErr
  by_cases h1 : at_ < 0
  · refine (rpush_range p at_ item w h1).mono ?_
    rintro e w' ⟨rfl, rfl⟩
    exact ⟨by rw [if_pos h1, if_pos h1], v, l, pu, h, Only.refl _ _, fun _ h => .inl h, .inr ⟨by rw [if_pos h1]; omega, rfl, rfl⟩⟩
  · by_cases h2 : at_ < tm
    · refine (rpush_order h at_ item (by omega) h2).mono ?_
      rintro e w' ⟨rfl, rfl⟩
      exact ⟨by rw [if_neg h1, if_pos h2, if_neg h1, if_pos h2], v, l, pu, h, Only.refl _ _, fun _ h => .inl h, .inr ⟨by rw [if_neg h1, if_pos h2]; omega, rfl, rfl⟩⟩
    · by_cases h3 : lim ≤ l.length
      · refine (rpush_full h at_ item (by omega) (by omega) h3).mono ?_
        rintro e w' ⟨rfl, ho⟩
        exact ⟨by rw [if_neg h1, if_neg h2, if_pos h3, if_neg h1, if_neg h2, if_pos h3], v, l, pu, h.kept ho (by simp) (by simp), ho.weak (by simp), fun _ h => .inl h, .inr ⟨by rw [if_neg h1, if_neg h2, if_pos h3]; omega, rfl, rfl⟩⟩
      · refine (rpush_ok h at_ item (by omega) (by omega) (by omega) hp0 hp1 hn).mono ?_
        rintro e w' ⟨rfl, v', hq, ho, hF⟩
        exact ⟨by rw [if_neg h1, if_neg h2, if_neg h3, if_neg h1, if_neg h2, if_neg h3], v', _, pu + 1, hq, ho, hF, .inl ⟨by rw [if_neg h1, if_neg h2, if_neg h3], rfl, rfl⟩⟩

/-- only blocks below `n` were changed, or made -/
def Kp (n : Nat) (w w' : World) : Prop := ∃ S, (∀ x ∈ S, x < n) ∧ Only S w w'
theorem Kp.got {n : Nat} {w w' : World} (h : Kp n w w') {b : Nat} {o : Obj} (hb : n ≤ b) (hg : w.heap[b]? = some o) : w'.heap[b]? = some o := by
  obtain ⟨S, hS, ho⟩ := h
  exact ho.got hg (fun hm => by have := hS b hm; omega)
theorem Kp.size {n : Nat} {w w' : World} (h : Kp n w w') : w.heap.size ≤ w'.heap.size := by
  obtain ⟨S, hS, ho⟩ := h; exact ho.size

/-- both queues, or none -/
structure Pl (w wr : World) (pq pp : Value) (k : Nat) : Prop where
  ex : (pq = .pointer none ∧ pp = .pointer none) ∨ ∃ q p F v lim tm pu l r, pq = .pointer (some ⟨q, 0, none⟩) ∧ pp = .pointer (some ⟨p, 0, none⟩) ∧ Both wr q p F v lim tm pu l r ∧ 0 ≤ pu ∧ pu ≤ k ∧ (∀ b ∈ F, w.heap.size ≤ b) ∧ (∀ b ∈ p :: v.ownBlock.toList, w.heap.size ≤ b)
  only : Only [] w wr

theorem Pl.kept {w wr w' : World} {pq pp : Value} {k : Nat} (h : Pl w wr pq pp k) (ho : Only [] wr w') : Pl w w' pq pp k := by
  refine ⟨?_, h.only.nil_trans ho⟩
  rcases h.ex with h | ⟨q, p, F, v, lim, tm, pu, l, r, h1, h2, h3, h4⟩
  · exact .inl h
  · exact .inr ⟨q, p, F, v, lim, tm, pu, l, r, h1, h2, h3.kept ho, h4⟩
theorem Pl.more {w wr : World} {pq pp : Value} {k : Nat} (h : Pl w wr pq pp k) : Pl w wr pq pp (k + 1) := by
  refine ⟨?_, h.only⟩
  rcases h.ex with h | ⟨q, p, F, v, lim, tm, pu, l, r, h1, h2, h3, h4, h5, h6⟩
  · exact .inl h
  · exact .inr ⟨q, p, F, v, lim, tm, pu, l, r, h1, h2, h3, h4, by omega, h6⟩

/-- the two calls of one deed -/
theorem Both.join {w w0 w1 w1' w2 : World} {q p : Nat} {F F' : List Nat} {v v' : Value} {lim tm pu tm' pu' : Int} {l r l' r' : List Ev} (h : Both w0 q p F v lim tm pu l r)
    (ho1 : Only F w0 w1) (hF : ∀ k ∈ F', k ∈ F ∨ w0.heap.size ≤ k) (hq : Que w1 q F' lim tm' pu' l') (ho1' : Only [] w1 w1') (S : List Nat) (hS : ∀ k ∈ S, k ∈ p :: v.ownBlock.toList) (ho2 : Only S w1' w2) (hv : ∀ k ∈ v'.ownBlock.toList, k ∈ v.ownBlock.toList ∨ w1'.heap.size ≤ k) (hr : RQ w2 p v' lim tm' pu' r')
    (hm : ∀ e, e ∈ l' ↔ e ∈ r') (hl : l'.length = r'.length) (hri : Rising r')
    (hw : Only [] w w0) (g1 : ∀ b ∈ F, w.heap.size ≤ b) (g2 : ∀ b ∈ p :: v.ownBlock.toList, w.heap.size ≤ b) :
    Both w2 q p F' v' lim tm' pu' l' r' ∧ (∀ b ∈ F', w.heap.size ≤ b) ∧ (∀ b ∈ p :: v'.ownBlock.toList, w.heap.size ≤ b) ∧ Only [] w w2 := by
  have hs0 := hw.size
  have hs1 := ho1.size
  have hs1' := ho1'.size
  have hb := h.ref.blocks
  have hd : ∀ k ∈ F', k ∉ p :: v.ownBlock.toList := fun k hk hk' => by
    rcases hF k hk with h1 | h1
    · exact h.apart k h1 hk'
    · have := hb k hk'; omega
  refine ⟨⟨(hq.kept ho1' (by simp)).kept ho2 (fun k hk hk' => hd k hk (hS k hk')), hr, hm, hl, hri, fun k hk hk' => ?_⟩, fun b hb => ?_, fun b hb => ?_, ?_⟩
  · rcases List.mem_cons.1 hk' with rfl | hk'
    · exact hd _ hk (by simp)
    · rcases hv k hk' with h1 | h1
      · exact hd _ hk (by simp only [List.mem_cons]; exact .inr h1)
      · have := hq.blocks k hk; omega
  · rcases hF b hb with h1 | h1
    · exact g1 b h1
    · omega
  · rcases List.mem_cons.1 hb with rfl | hb
    · exact g2 _ (by simp)
    · rcases hv b hb with h1 | h1
      · exact g2 b (by simp only [List.mem_cons]; exact .inr h1)
      · omega
  · exact ((hw.trans ho1 (fun x hx => .inr (g1 x hx))).nil_trans ho1').trans ho2 (fun x hx => .inr (g2 x (hS x hx)))

theorem pl_push {w wr : World} {pq pp : Value} {k : Nat} (h : Pl w wr pq pp k) (hk : k ≤ 1000) (at_ item : Int) {w0 : World} (ho0 : Only [] wr w0) :
    Calls Try.prog 11 #[pq, .int .i64 at_, .int .i64 item] w0 fun e w1 => ∃ y1 y2 : Int, e = .returned (.tuple #[.int .i64 y1, .int .i64 y2]) ∧ Kp wr.heap.size w0 w1 ∧
      ∀ w1', Only [] w1 w1' → Calls Try.prog 18 #[pp, .int .i64 at_, .int .i64 item] w1' fun e' w2 => e' = .returned (.tuple #[.int .i64 y1, .int .i64 y2]) ∧ Kp wr.heap.size w1' w2 ∧ Pl w w2 pq pp (k + 1) := by
  have hP := h.kept ho0
  rcases h.ex with ⟨rfl, rfl⟩ | ⟨q, p, F, v, lim, tm, pu, l, r, rfl, rfl, hb, hp0, hp1, g1, g2⟩
  · refine (push_nil at_ item w0).mono ?_
    rintro e w1 ⟨rfl, rfl⟩
    refine ⟨_, _, rfl, ⟨[], by simp, Only.refl _ _⟩, fun w1' ho1 => ?_⟩
    refine (rpush_nil at_ item w1').mono ?_
    rintro e w2 ⟨rfl, rfl⟩
    exact ⟨rfl, ⟨[], by simp, Only.refl _ _⟩, (hP.kept ho1).more⟩
  · have hb0 := hb.kept ho0
    have hbl := hb.que.blocks
    have hrl := hb.ref.blocks
    have hr : r.length < 1000000 := by have := hb.que.le; have := hb.que.lim0; have := hb.len; omega
    refine (push_gen hb0.que at_ item hp0 (by omega)).mono ?_
    rintro e w1 ⟨rfl, F', l', pu', hq1, ho1, hF, hpt⟩
    refine ⟨_, _, rfl, ⟨F, hbl, ho1⟩, fun w1' ho1' => ?_⟩
    have hr1 := (hb0.ref.kept ho1 (fun hp => hb0.apart _ hp (by simp)) (fun x hx hx' => hb0.apart x hx' (by simp only [List.mem_cons]; exact .inr hx))).kept ho1' (by simp) (by simp)
    refine (rpush_gen hr1 at_ item hp0 (by omega) hr).mono ?_
    rintro e w2 ⟨rfl, v', r', pu2, hq2, ho2, hv, hpt2⟩
    refine ⟨by rw [hb.len], ⟨_, hrl, ho2⟩, ?_⟩
    have key : pu' = pu2 ∧ (∀ e, e ∈ l' ↔ e ∈ r') ∧ l'.length = r'.length ∧ Rising r' ∧ 0 ≤ pu' ∧ pu' ≤ k + 1 := by
      unfold PushTo at hpt
      rw [hb.len] at hpt
      rcases hpt with ⟨e0, rfl, _, _, _, e1, e2⟩ | ⟨e0, rfl, e1, e2⟩
      · rcases hpt2 with ⟨_, rfl, rfl⟩ | ⟨h0, _⟩
        · refine ⟨rfl, fun e => ?_, by rw [e1]; simp, hb.rise.push _ (fun x hx => ?_), by omega, by omega⟩
          · rw [e2 e, hb.mem e]; simp [or_comm]
          · have := hb.que.ids x ((hb.mem x).2 hx); simp; omega
        · exact absurd e0 h0
      · rcases hpt2 with ⟨h0, _⟩ | ⟨_, rfl, rfl⟩
        · exact absurd h0 e0
        · exact ⟨rfl, fun e => by rw [e2 e, hb.mem e], e1, hb.rise, by omega, by omega⟩
    obtain ⟨rfl, k1, k2, k3, k4, k5⟩ := key
    obtain ⟨j1, j2, j3, j4⟩ := hb0.join ho1 hF hq1 ho1' _ (fun _ h => h) ho2 hv hq2 k1 k2 k3 hP.only g1 g2
    exact ⟨.inr ⟨_, _, _, _, _, _, _, _, _, rfl, rfl, j1, k4, by omega, j2, j3⟩, j4⟩

theorem pl_pop {w wr : World} {pq pp : Value} {k : Nat} (h : Pl w wr pq pp k) {w0 : World} (ho0 : Only [] wr w0) :
    Calls Try.prog 14 #[pq] w0 fun e w1 => ∃ (x : Ev) (b : Bool), e = .returned (.tuple #[evv x, .bool b]) ∧ Kp wr.heap.size w0 w1 ∧
      ∀ w1', Only [] w1 w1' → Calls Try.prog 19 #[pp] w1' fun e' w2 => e' = .returned (.tuple #[evv x, .bool b]) ∧ Kp wr.heap.size w1' w2 ∧ Pl w w2 pq pp k := by
  have hP := h.kept ho0
  rcases h.ex with ⟨rfl, rfl⟩ | ⟨q, p, F, v, lim, tm, pu, l, r, rfl, rfl, hb, hp0, hp1, g1, g2⟩
  · refine (pop_nil w0).mono ?_
    rintro e w1 ⟨rfl, ho1⟩
    refine ⟨_, _, rfl, ⟨[], by simp, ho1⟩, fun w1' ho1' => ?_⟩
    refine (rpop_nil w1').mono ?_
    rintro e w2 ⟨rfl, ho2⟩
    exact ⟨rfl, ⟨[], by simp, ho2⟩, ((hP.kept ho1).kept ho1').kept ho2⟩
  · have hb0 := hb.kept ho0
    have hbl := hb.que.blocks
    have hrl := hb.ref.blocks
    refine (pop_gen hb0.que).mono ?_
    rintro e w1 ⟨rfl, tm', l', hq1, ho1, htm, hl1, hm1⟩
    refine ⟨_, _, rfl, ⟨F, hbl, ho1⟩, fun w1' ho1' => ?_⟩
    have hr1 := (hb0.ref.kept ho1 (fun hp => hb0.apart _ hp (by simp)) (fun x hx hx' => hb0.apart x hx' (by simp only [List.mem_cons]; exact .inr hx))).kept ho1' (by simp) (by simp)
    refine (rpop_any hr1).mono ?_
    rintro e w2 ⟨x, b, rfl, v', tm2, r', hq2, ho2, hv, hcase⟩
    have key : x = el l 0 ∧ b = decide (0 < l.length) ∧ tm' = tm2 ∧ (∀ e, e ∈ l' ↔ e ∈ r') ∧ l'.length = r'.length ∧ Rising r' := by
      rcases hcase with ⟨h1, rfl, rfl, rfl, rfl⟩ | ⟨j, hj, rfl, rfl, rfl, rfl⟩
      · subst h1
        have hl0 : l = [] := List.eq_nil_of_length_eq_zero (by rw [hb.len]; rfl)
        subst hl0
        have hl' : l' = [] := List.eq_nil_of_length_eq_zero (by rw [hl1]; rfl)
        subst hl'
        exact ⟨rfl, rfl, by rw [htm]; rfl, fun _ => Iff.rfl, rfl, hb.rise⟩
      · have hf := hb.first hj
        have h0 : 0 < l.length := by have := hj.1; have := hb.len; omega
        refine ⟨hf.symm, by simp [h0], by rw [htm, if_pos h0, hf], fun e => ?_, ?_, hb.rise.cut _⟩
        · rw [hm1 e, mem_cut hb.rise hj.1 e, hb.mem e, hf]
        · rw [cut_length hj.1, hl1, hb.len]
    obtain ⟨rfl, rfl, rfl, k1, k2, k3⟩ := key
    obtain ⟨j1, j2, j3, j4⟩ := hb0.join ho1 (fun _ h => .inl h) hq1 ho1' [p] (by simp) ho2 hv hq2 k1 k2 k3 hP.only g1 g2
    refine ⟨rfl, ⟨_, fun x hx => hrl x (by simp at hx; simp [hx]), ho2⟩, .inr ⟨_, _, _, _, _, _, _, _, _, rfl, rfl, j1, hp0, hp1, j2, j3⟩, j4⟩

theorem pl_peek {w wr : World} {pq pp : Value} {k : Nat} (h : Pl w wr pq pp k) {w0 : World} (ho0 : Only [] wr w0) :
    Calls Try.prog 13 #[pq] w0 fun e w1 => ∃ (x : Ev) (b : Bool), e = .returned (.tuple #[evv x, .bool b]) ∧ Kp wr.heap.size w0 w1 ∧
      ∀ w1', Only [] w1 w1' → Calls Try.prog 20 #[pp] w1' fun e' w2 => e' = .returned (.tuple #[evv x, .bool b]) ∧ Kp wr.heap.size w1' w2 ∧ Pl w w2 pq pp k := by
  have hP := h.kept ho0
  rcases h.ex with ⟨rfl, rfl⟩ | ⟨q, p, F, v, lim, tm, pu, l, r, rfl, rfl, hb, hp0, hp1, g1, g2⟩
  · refine (peek_nil w0).mono ?_
    rintro e w1 ⟨rfl, ho1⟩
    refine ⟨_, _, rfl, ⟨[], by simp, ho1⟩, fun w1' ho1' => ?_⟩
    refine (rpeek_nil w1').mono ?_
    rintro e w2 ⟨rfl, ho2⟩
    exact ⟨rfl, ⟨[], by simp, ho2⟩, ((hP.kept ho1).kept ho1').kept ho2⟩
  · have hb0 := hb.kept ho0
    refine (peek_gen hb0.que.rep).mono ?_
    rintro e w1 ⟨rfl, ho1⟩
    refine ⟨_, _, rfl, ⟨[], by simp, ho1⟩, fun w1' ho1' => ?_⟩
    have hb1 := (hb0.kept ho1).kept ho1'
    refine (rpeek_any hb1.ref).mono ?_
    rintro e w2 ⟨x, b, rfl, ho2, hcase⟩
    have key : x = el l 0 ∧ b = decide (0 < l.length) := by
      rcases hcase with ⟨h1, rfl, rfl⟩ | ⟨j, hj, rfl, rfl⟩
      · subst h1
        have hl0 : l = [] := List.eq_nil_of_length_eq_zero (by rw [hb.len]; rfl)
        subst hl0
        exact ⟨rfl, rfl⟩
      · have h0 : 0 < l.length := by have := hj.1; have := hb.len; omega
        exact ⟨(hb.first hj).symm, by simp [h0]⟩
    obtain ⟨rfl, rfl⟩ := key
    exact ⟨rfl, ⟨[], by simp, ho2⟩, ((hP.kept ho1).kept ho1').kept ho2⟩

theorem pl_cancel {w wr : World} {pq pp : Value} {k : Nat} (h : Pl w wr pq pp k) (id : Int) (hw : (Lit.int .i64 id).wf = true) {w0 : World} (ho0 : Only [] wr w0) :
    Calls Try.prog 21 #[pq, .int .i64 id] w0 fun e w1 => ∃ b : Bool, e = .returned (.bool b) ∧ Kp wr.heap.size w0 w1 ∧
      ∀ w1', Only [] w1 w1' → Calls Try.prog 22 #[pp, .int .i64 id] w1' fun e' w2 => e' = .returned (.bool b) ∧ Kp wr.heap.size w1' w2 ∧ Pl w w2 pq pp k := by
  have hP := h.kept ho0
  rcases h.ex with ⟨rfl, rfl⟩ | ⟨q, p, F, v, lim, tm, pu, l, r, rfl, rfl, hb, hp0, hp1, g1, g2⟩
  · refine (cancel_nil id w0).mono ?_
    rintro e w1 ⟨rfl, rfl⟩
    refine ⟨_, rfl, ⟨[], by simp, Only.refl _ _⟩, fun w1' ho1' => ?_⟩
    refine (rcancel_nil id w1').mono ?_
    rintro e w2 ⟨rfl, rfl⟩
    exact ⟨rfl, ⟨[], by simp, Only.refl _ _⟩, hP.kept ho1'⟩
  · have hb0 := hb.kept ho0
    have hbl := hb.que.blocks
    have hrl := hb.ref.blocks
    refine (cancel_gen hb0.que id hw).mono ?_
    rintro e w1 ⟨rfl, l', hq1, ho1, hl1, hm1⟩
    refine ⟨_, rfl, ⟨F, hbl, ho1⟩, fun w1' ho1' => ?_⟩
    have hr1 := (hb0.ref.kept ho1 (fun hp => hb0.apart _ hp (by simp)) (fun x hx hx' => hb0.apart x hx' (by simp only [List.mem_cons]; exact .inr hx))).kept ho1' (by simp) (by simp)
    refine (rcancel_any hr1 id).mono ?_
    rintro e w2 ⟨b, rfl, v', r', hq2, ho2, hv, hcase⟩
    have key : b = hasId l id ∧ (∀ e, e ∈ l' ↔ e ∈ r') ∧ l'.length = r'.length ∧ Rising r' := by
      rcases hcase with ⟨rfl, rfl, hno⟩ | ⟨rfl, j, hj, hji, rfl⟩
      · have hf : hasId l id = false := by
          rw [hb.has]
          refine hasId_false.2 (fun e he hei => ?_)
          obtain ⟨j, hj⟩ := List.mem_iff_getElem?.1 he
          exact hno j (List.getElem?_eq_some_iff.1 hj).1 (by rw [el_of hj]; exact hei)
        refine ⟨hf.symm, fun e => ?_, by rw [hl1, hf, hb.len]; simp, hb.rise⟩
        rw [hm1 e, hb.mem e]
        exact ⟨fun h => h.1, fun he => ⟨he, hasId_false.1 (hb.has id ▸ hf) e he⟩⟩
      · have hf : hasId l id = true := by
          rw [hb.has]
          exact hasId_true.2 ⟨_, List.mem_of_getElem? (el_some hj), hji⟩
        refine ⟨hf.symm, fun e => ?_, by rw [hl1, hf, cut_length hj, hb.len]; simp, hb.rise.cut _⟩
        rw [hm1 e, mem_cut hb.rise hj e, hb.mem e, hji]
    obtain ⟨rfl, k1, k2, k3⟩ := key
    obtain ⟨j1, j2, j3, j4⟩ := hb0.join ho1 (fun _ h => .inl h) hq1 ho1' [p] (by simp) ho2 hv hq2 k1 k2 k3 hP.only g1 g2
    exact ⟨rfl, ⟨_, fun x hx => hrl x (by simp at hx; simp [hx]), ho2⟩, .inr ⟨_, _, _, _, _, _, _, _, _, rfl, rfl, j1, hp0, hp1, j2, j3⟩, j4⟩

theorem pl_len {w wr : World} {pq pp : Value} {k : Nat} (h : Pl w wr pq pp k) :
    Calls Try.prog 12 #[pq] wr fun e w1 => ∃ n : Nat, e = .returned (.int .i64 n) ∧ wr = w1 ∧
      Calls Try.prog 23 #[pp] wr fun e' w2 => e' = .returned (.int .i64 n) ∧ wr = w2 := by
  rcases h.ex with ⟨rfl, rfl⟩ | ⟨q, p, F, v, lim, tm, pu, l, r, rfl, rfl, hb, hp0, hp1, g1, g2⟩
  · refine (len_nil wr).mono ?_
    rintro e w1 ⟨rfl, rfl⟩
    exact ⟨0, rfl, rfl, rlen_nil wr⟩
  · refine (len_any hb.que.rep).mono ?_
    rintro e w1 ⟨rfl, rfl⟩
    refine ⟨_, rfl, rfl, (rlen_any hb.ref).mono ?_⟩
    rintro e w2 ⟨rfl, rfl⟩
    exact ⟨by rw [hb.len], rfl⟩
end Go.Proofs.Ytpiilepmaomfeaa
