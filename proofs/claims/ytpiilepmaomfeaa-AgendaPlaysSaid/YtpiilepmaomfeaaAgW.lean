/- The reference queue (package timesyncref15): Cancel; and the plain lemmas of both queues side by side. Conditions: as stated. -/
import Derived.Test.YtpiilepmaomfeaaAgV
import Derived.Test.YtpiilepmaomfeaaAgC
namespace Go.Proofs.Ytpiilepmaomfeaa
open Go.RowKit

set_option maxHeartbeats 400000 in
theorem rcancel_nil (id : Int) (w : World) :
    Calls Try.prog 22 #[.pointer none, .int .i64 id] w fun e w' => e = .returned (.bool false) ∧ w = w' := by
  go_enter Try.func22, Try.ntmps22
  go_wp2
  go_ret
  exact ⟨rfl, rfl⟩

set_option maxHeartbeats 1000000 in
theorem rcancel_any {w : World} {p : Nat} {v : Value} {lim tm pu : Int} {l : List Ev} (h : RQ w p v lim tm pu l) (id : Int) :
    Calls Try.prog 22 #[.pointer (some ⟨p, 0, none⟩), .int .i64 id] w fun e w' => ∃ b, e = .returned (.bool b) ∧ ∃ v' l', RQ w' p v' lim tm pu l' ∧ Only [p] w w' ∧ (∀ k ∈ v'.ownBlock.toList, k ∈ v.ownBlock.toList ∨ w.heap.size ≤ k) ∧
      ((b = false ∧ l' = l ∧ ∀ j, j < l.length → (el l j).i ≠ id) ∨ (b = true ∧ ∃ k, k < l.length ∧ (el l k).i = id ∧ l' = l.take k ++ l.drop (k + 1))) := by
  have hn := h.le
  have H := Lib.hid h; clear h
  go_enter Try.func22, Try.ntmps22
  go_wp2
  go_loopw [5] (fun vi wr => ∃ i : Nat, vi = .int .i64 i ∧ i ≤ l.length ∧ wr = w ∧ ∀ j, j < i → (el l j).i ≠ id) (fun vi _ => l.length - (intOf vi).toNat)
  case atStart => exact ⟨0, rfl, Nat.zero_le _, rfl, fun j hj => by omega⟩
  case round =>
    obtain ⟨i, rfl, hi, rfl, hno⟩ := hrel
    have HN := Lib.hid hno; clear hno
    have c3 := cell_got H.out.qc 3
    have hps := got_lt H.out.qc
    by_cases hil : i < l.length
    · obtain ⟨g, cap, rfl, hr⟩ : ∃ g cap, v = .slice (some ⟨g, 0, none⟩) l.length cap ∧ RowAt evc 31 3 wr g cap l := by
        rcases H.out.row.val with ⟨_, rfl⟩ | h
        · simp at hil
        · exact h
      have hgs := hr.lt
      have r1 := hr.cell evc_len (el_some hil) (j := 1) (by omega)
      simp only [evc] at r1
      clear hr
      by_cases he : (el l i).i = id
      · have he' : ((el l i).i == id) = true := by simpa using he
        have HE := Lib.hid he; clear he
        go_wp2_with fail
        refine (rremove_any H.out hil).mono ?_
        rintro e w4 ⟨rfl, v4, hq4, ho4, hv4⟩
        have HQ4 := Lib.hid hq4; have HV4 := Lib.hid hv4; clear hq4 hv4
        go_wp2
        go_ret
        exact ⟨_, rfl, v4, _, HQ4.out, ho4, fun k hk => .inr (HV4.out k hk), .inr ⟨rfl, i, hil, HE.out, rfl⟩⟩
      · have he' : ((el l i).i == id) = false := by simpa using he
        have HE := Lib.hid he; clear he
        go_wp2
        go_roundw
        case rel =>
          refine ⟨i + 1, by go_num, by omega, by trivial, fun j hj => ?_⟩
          by_cases hji : j = i
          · subst hji; exact HE.out
          · exact HN.out j (by omega)
        case measure => simp [intOf]; omega
    · have hie : i = l.length := by omega
      subst hie
      obtain ⟨pt, cap, rfl⟩ : ∃ pt cap, v = .slice pt l.length cap := by
        rcases H.out.row.val with ⟨rfl, rfl⟩ | ⟨g, cap, rfl, hr⟩
        · exact ⟨_, _, rfl⟩
        · exact ⟨_, _, rfl⟩
      go_wp2
      go_ret
      exact ⟨_, rfl, _, l, H.out, Only.refl _ _, fun k hk => .inl hk, .inl ⟨rfl, rfl, HN.out⟩⟩

/-- ids rise -/
def Rising (l : List Ev) : Prop := l.Pairwise (fun a b => a.i < b.i)

theorem Rising.lt {l : List Ev} (h : Rising l) {a b : Nat} (hab : a < b) (hb : b < l.length) : (el l a).i < (el l b).i := by
  have := List.pairwise_iff_getElem.1 h a b (by omega) hb hab
  rwa [el_of (List.getElem?_eq_getElem (by omega)), el_of (List.getElem?_eq_getElem hb)]

theorem mem_cut {l : List Ev} (h : Rising l) {k : Nat} (hk : k < l.length) (e : Ev) : e ∈ l.take k ++ l.drop (k + 1) ↔ e ∈ l ∧ e.i ≠ (el l k).i := by
  rw [List.mem_append]
  constructor
  · rintro (he | he)
    · obtain ⟨j, hj⟩ := List.mem_iff_getElem?.1 he
      have hjk : j < k := by
        rcases Nat.lt_or_ge j k with h | h
        · exact h
        · rw [List.getElem?_take, if_neg (by omega)] at hj; cases hj
      rw [List.getElem?_take, if_pos hjk] at hj
      have := h.lt hjk hk
      rw [el_of hj] at this
      exact ⟨List.mem_of_getElem? hj, by omega⟩
    · obtain ⟨j, hj⟩ := List.mem_iff_getElem?.1 he
      rw [List.getElem?_drop] at hj
      have hl := (List.getElem?_eq_some_iff.1 hj).1
      have := h.lt (show k < k + 1 + j by omega) hl
      rw [el_of hj] at this
      exact ⟨List.mem_of_getElem? hj, by omega⟩
  · rintro ⟨he, hne⟩
    obtain ⟨j, hj⟩ := List.mem_iff_getElem?.1 he
    by_cases h1 : j < k
    · exact .inl (List.mem_iff_getElem?.2 ⟨j, by rw [List.getElem?_take, if_pos h1]; exact hj⟩)
    · by_cases h2 : j = k
      · subst h2; rw [el_of hj] at hne; exact absurd rfl hne
      · exact .inr (List.mem_iff_getElem?.2 ⟨j - (k + 1), by rw [List.getElem?_drop]; rw [show k + 1 + (j - (k + 1)) = j by omega]; exact hj⟩)

theorem Rising.cut {l : List Ev} (h : Rising l) (k : Nat) : Rising (l.take k ++ l.drop (k + 1)) := by
  rw [← List.eraseIdx_eq_take_drop_succ]
  exact h.sublist (List.eraseIdx_sublist _ _)

theorem cut_length {l : List Ev} {k : Nat} (hk : k < l.length) : (l.take k ++ l.drop (k + 1)).length = l.length - 1 := by
  rw [List.length_append, List.length_take, List.length_drop]; omega

theorem Rising.push {l : List Ev} (h : Rising l) (e : Ev) (he : ∀ x ∈ l, x.i < e.i) : Rising (l ++ [e]) := by
  unfold Rising
  rw [List.pairwise_append]
  exact ⟨h, by simp, fun a ha b hb => by simp at hb; subst hb; exact he a ha⟩

theorem FirstAt.least {l : List Ev} {k : Nat} (hs : Rising l) (h : FirstAt l l.length k) : el l k ∈ l ∧ ∀ e ∈ l, ge e (el l k) := by
  refine ⟨List.mem_of_getElem? (el_some h.1), fun e he => ?_⟩
  obtain ⟨j, hj⟩ := List.mem_iff_getElem?.1 he
  have hjl := (List.getElem?_eq_some_iff.1 hj).1
  have h2 := h.2 j hjl
  have hk := h.1
  rw [el_of hj] at h2
  unfold ge
  by_cases h3 : j < k
  · have := h2.2 h3; omega
  · by_cases h4 : j = k
    · subst h4; rw [el_of hj]; omega
    · have := hs.lt (show k < j by omega) hjl
      rw [el_of hj] at this
      omega

/-- both queues side by side -/
structure Both (w : World) (q p : Nat) (F : List Nat) (v : Value) (lim tm pu : Int) (l r : List Ev) : Prop where
  que : Que w q F lim tm pu l
  ref : RQ w p v lim tm pu r
  mem : ∀ e, e ∈ l ↔ e ∈ r
  len : l.length = r.length
  rise : Rising r
  apart : ∀ b ∈ F, b ∉ p :: v.ownBlock.toList

theorem Both.first {w : World} {q p : Nat} {F : List Nat} {v : Value} {lim tm pu : Int} {l r : List Ev} (h : Both w q p F v lim tm pu l r) {k : Nat} (hk : FirstAt r r.length k) : el l 0 = el r k := by
  have h0 : 0 < l.length := by have := hk.1; have := h.len; omega
  obtain ⟨a1, a2⟩ := h.que.first h0
  obtain ⟨b1, b2⟩ := hk.least h.rise
  have c1 := a2 _ ((h.mem _).2 b1)
  have c2 := b2 _ ((h.mem _).1 a1)
  refine h.que.rep.wfs.1 _ a1 _ ((h.mem _).2 b1) ?_
  unfold ge at c1 c2
  omega

theorem Both.has {w : World} {q p : Nat} {F : List Nat} {v : Value} {lim tm pu : Int} {l r : List Ev} (h : Both w q p F v lim tm pu l r) (id : Int) : hasId l id = hasId r id := hasId_congr h.mem id

theorem Both.kept {w w' : World} {q p : Nat} {F : List Nat} {v : Value} {lim tm pu : Int} {l r : List Ev} (h : Both w q p F v lim tm pu l r) (ho : Only [] w w') : Both w' q p F v lim tm pu l r :=
  ⟨h.que.kept ho (by simp), h.ref.kept ho (by simp) (by simp), h.mem, h.len, h.rise, h.apart⟩
end Go.Proofs.Ytpiilepmaomfeaa
