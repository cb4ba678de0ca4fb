/- Texts of one chain: F1, F2. Conditions: those named in each theorem. -/
import Derived.Test.YtikjdmbfjkbndaaGreatVh
import Derived.Test.YtikjdmbfjkbndaaGreatVm
namespace Go.Proofs.YtikjdmbfjkbndaaGreat
open Go.RowKit

theorem max_of : ∀ (l : List Int), l ≠ [] → ∃ m ∈ l, ∀ x ∈ l, x ≤ m
 | [], h => absurd rfl h
 | [a], _ => ⟨a, by simp, by simp⟩
 | a :: b :: l, _ => by
  obtain ⟨m, hm, h⟩ := max_of (b :: l) (by simp)
  by_cases ha : a ≤ m
  ·exact ⟨m, List.mem_cons_of_mem _ hm, fun x hx => by rcases List.mem_cons.1 hx with rfl | hx; exact ha; exact h x hx⟩
  ·exact ⟨a, List.mem_cons_self .., fun x hx => by rcases List.mem_cons.1 hx with rfl | hx; exact Int.le_refl _; have := h x hx; omega⟩
theorem sort_mem {l : List Int} {x : Int} : x ∈ sortI l ↔ x ∈ l := by unfold sortI; exact List.mem_mergeSort
theorem sort_pw (l : List Int) : (sortI l).Pairwise (fun x y => x ≤ y) := by
 have := List.pairwise_mergeSort (le := fun x y : Int => decide (x ≤ y)) (fun a b c h1 h2 => by simp at *; omega) (fun a b => by simp; omega) l
 exact this.imp fun h => by simpa using h
theorem head_le {l : List Int} {a x : Int} (h : (sortI l).head? = some a) (hx : x ∈ l) : a ≤ x := by
 have hp := sort_pw l
 have hm := sort_mem.2 hx
 cases hs : sortI l with
 | nil => rw [hs] at h; cases h
 | cons y r =>
  rw [hs] at h hp hm
  obtain rfl : y = a := by simpa using h
  rcases List.mem_cons.1 hm with rfl | hm
  ·exact Int.le_refl _
  ·exact (List.pairwise_cons.1 hp).1 x hm
theorem last_ge {l : List Int} {a x : Int} (h : (sortI l).getLast? = some a) (hx : x ∈ l) : x ≤ a := by
 have hp := sort_pw l
 have hm := sort_mem.2 hx
 obtain ⟨r, hr⟩ := List.getLast?_eq_some_iff.1 h
 rw [hr] at hp hm
 rcases List.mem_append.1 hm with hm | hm
 ·exact (List.pairwise_append.1 hp).2.2 x hm a (by simp)
 ·rw [List.mem_singleton.1 hm]; exact Int.le_refl _
theorem cnt_mono {l : List Iv} {t u : Int} (h : ∀ x ∈ l, hasI x t = true → hasI x u = true) : cntI l t ≤ cntI l u := by
 unfold cntI
 rw [← List.countP_eq_length_filter, ← List.countP_eq_length_filter]
 exact List.countP_mono_left fun x hx => h x hx
theorem has_iff {x : Iv} {t : Int} : hasI x t = true ↔ ivOk x = true ∧ x.lo ≤ t ∧ t ≤ x.hi := by unfold hasI; simp
/-- an instant that enough intervals contain lies in the hull -/
theorem hull_has {l : List Iv} {need t : Int} (h1 : 1 ≤ need) (hc : need ≤ (cntI l t : Int)) : ∃ x, hullI l need = some x ∧ x.lo ≤ t ∧ t ≤ x.hi := by
 have hne : (l.filter fun x => hasI x t) ≠ [] := fun h => by unfold cntI at hc; rw [h] at hc; simp at hc; omega
 obtain ⟨a, ha, hA⟩ := max_of ((l.filter fun x => hasI x t).map Iv.lo) (by simpa using hne)
 obtain ⟨b, hb, hB⟩ := max_of ((l.filter fun x => hasI x t).map fun x => - x.hi) (by simpa using hne)
 obtain ⟨xa, hxa, rfl⟩ := List.mem_map.1 ha
 obtain ⟨xb, hxb, rfl⟩ := List.mem_map.1 hb
 obtain ⟨ma, ia⟩ := List.mem_filter.1 hxa
 obtain ⟨mb, ib⟩ := List.mem_filter.1 hxb
 obtain ⟨oa, la, ua⟩ := has_iff.1 ia
 obtain ⟨ob, lb, ub⟩ := has_iff.1 ib
 have ca : need ≤ (cntI l xa.lo : Int) := by
  have := cnt_mono (l := l) (t := t) (u := xa.lo) fun x hx hh => by
   have := hA x.lo (List.mem_map.2 ⟨x, List.mem_filter.2 ⟨hx, hh⟩, rfl⟩)
   obtain ⟨q1, q2, q3⟩ := has_iff.1 hh
   exact has_iff.2 ⟨q1, this, by omega⟩
  omega
 have cb : need ≤ (cntI l xb.hi : Int) := by
  have := cnt_mono (l := l) (t := t) (u := xb.hi) fun x hx hh => by
   have := hB (-x.hi) (List.mem_map.2 ⟨x, List.mem_filter.2 ⟨hx, hh⟩, rfl⟩)
   obtain ⟨q1, q2, q3⟩ := has_iff.1 hh
   exact has_iff.2 ⟨q1, by omega, by omega⟩
  omega
 have ea : xa.lo ∈ endsI Iv.lo (pkI l need) l := List.mem_filter.2 ⟨List.mem_map.2 ⟨xa, List.mem_filter.2 ⟨ma, oa⟩, rfl⟩, decide_eq_true ca⟩
 have eb : xb.hi ∈ endsI Iv.hi (pkI l need) l := List.mem_filter.2 ⟨List.mem_map.2 ⟨xb, List.mem_filter.2 ⟨mb, ob⟩, rfl⟩, decide_eq_true cb⟩
 unfold hullI
 rw [if_neg (by omega)]
 cases hh : (sortI (endsI Iv.lo (pkI l need) l)).head? with
 | none => rw [List.head?_eq_none_iff] at hh; have := sort_mem.2 ea; rw [hh] at this; cases this
 | some p =>
  cases hl : (sortI (endsI Iv.hi (pkI l need) l)).getLast? with
  | none => rw [List.getLast?_eq_none_iff] at hl; have := sort_mem.2 eb; rw [hl] at this; cases this
  | some q => exact ⟨⟨p, q⟩, rfl, Int.le_trans (head_le hh ea) la, Int.le_trans ub (last_ge hl eb)⟩
theorem hon_has {l : List Iv} {f t : Int} (hf : 0 ≤ f) (hn : f < (l.length : Int)) (hok : ∀ x ∈ l, ivOk x = true) (hc : (l.length : Int) - f ≤ (cntI l t : Int)) : ∃ x, honI l f = some x ∧ x.lo ≤ t ∧ t ≤ x.hi := by
 have he : l.filter ivOk = l := List.filter_eq_self.2 hok
 unfold honI
 rw [he, if_neg (by omega)]
 exact hull_has (by omega) hc
theorem meet_has {a b x : Iv} {t : Int} (h : meetI a b = some x) (ha : a.lo ≤ t ∧ t ≤ a.hi) (hb : b.lo ≤ t ∧ t ≤ b.hi) : x.lo ≤ t ∧ t ≤ x.hi := by
 unfold meetI at h
 split at h
 ·cases h; dsimp only; omega
 ·cases h
theorem meet_ok {a b x : Iv} (h : meetI a b = some x) : ivOk x = true := by
 unfold meetI at h
 split at h
 ·rename_i hh
  cases h
  have h1 := ivOk_iff.1 hh.1; have h2 := ivOk_iff.1 hh.2.1
  rw [ivOk_iff]; dsimp only; omega
 ·cases h
/-- a true instant that an interval may be asked for -/
def InE (t : Int) : Prop := -4503599627370496 ≤ t ∧ t ≤ 4503599627370496
theorem ev_ok : ivOk evI = true := by decide
theorem clip_ok (x : Iv) : ivOk (clipI x) = true := by
 unfold clipI
 cases h : meetI x evI with
 | none => exact ev_ok
 | some y => exact meet_ok h
theorem clip_has {x : Iv} {t : Int} (h : x.lo ≤ t ∧ t ≤ x.hi) (he : InE t) : (clipI x).lo ≤ t ∧ t ≤ (clipI x).hi := by
 unfold clipI
 cases hm : meetI x evI with
 | none => exact he
 | some y => exact meet_has hm h he
theorem aged_ok (x : Iv) (a b tol : Int) : ivOk (agedC x a b tol) = true := by
 unfold agedC
 split
 ·exact clip_ok _
 ·exact ev_ok
theorem ckd_has {lo hi : Int} (h : (ckd lo hi).2 = 0) : (ckd lo hi).1 = ⟨lo, hi⟩ := by
 unfold ckd at h ⊢
 split at h
 ·rename_i q; rw [if_pos q]
 ·exact absurd h (by decide)
theorem aged_has {x : Iv} {a b tol t u : Int} (h : x.lo ≤ t ∧ t ≤ x.hi) (hu : InE u) (hl : elOk (b - a) tol = true → elLo (b - a) tol ≤ u - t ∧ u - t ≤ elHi (b - a) tol) : (agedC x a b tol).lo ≤ u ∧ u ≤ (agedC x a b tol).hi := by
 unfold agedC
 split
 ·rename_i he
  refine clip_has ?_ hu
  unfold ageI at he ⊢
  split at he
  ·rename_i h1
   split at he
   ·rename_i h2
    rw [if_pos h1, if_pos h2, ckd_has he]
    have := hl h2
    dsimp only; omega
   ·exact absurd he (by decide)
  ·exact absurd he (by decide)
 ·exact hu
theorem trip_has {x : Iv} {raw tol t u : Int} (h : x.lo ≤ t ∧ t ≤ x.hi) (htu : t ≤ u) (hl : elOk raw tol = true → u - t ≤ elHi raw tol) (he : (tripI x raw tol).2 = 0) : (tripI x raw tol).1.lo ≤ u ∧ u ≤ (tripI x raw tol).1.hi := by
 unfold tripI at he ⊢
 split at he
 ·rename_i h1
  split at he
  ·rename_i h2
   rw [if_pos h1, if_pos h2, ckd_has he]
   have := hl h2
   dsimp only; omega
  ·exact absurd he (by decide)
 ·exact absurd he (by decide)
/-- the bounds of the true duration of a raw one -/
theorem el_has {tol e δ : Int} (t0 : 0 ≤ tol) (t1 : tol ≤ 500000) (h0 : 0 ≤ e) (h1 : 1000000000 * (δ - 1) < 1000000000 * e + tol * e) (h2 : 1000000000 * e - tol * e < 1000000000 * (δ + 1)) : elLo δ tol ≤ e ∧ e ≤ elHi δ tol := by
 unfold elLo elHi
 constructor
 ·have : (δ - 1) * 1000000000 / (1000000000 + tol) < e := by
   refine Int.ediv_lt_of_lt_mul (by omega) ?_
   have : e * (1000000000 + tol) = 1000000000 * e + tol * e := by rw [Int.mul_add, Int.mul_comm e, Int.mul_comm e]
   omega
  omega
 ·have : -(δ + 1) * 1000000000 / (1000000000 - tol) < -e := by
   refine Int.ediv_lt_of_lt_mul (by omega) ?_
   have : -e * (1000000000 - tol) = -(1000000000 * e - tol * e) := by rw [Int.neg_mul, Int.mul_sub, Int.mul_comm e, Int.mul_comm e]
   omega
  omega
/-- an oscillator's segment -/
structure Sgm where
 a : Int
 p : Int
def gn : List Sgm → Int → Int
 | [], _ => 0
 | [s], t => max 0 (t - s.a) * s.p
 | s :: s' :: r, t => max 0 (min t s'.a - s.a) * s.p + gn (s' :: r) t
def msr : List Sgm → Int → Int
 | [], _ => 0
 | s :: _, t => max 0 (t - s.a)
/-- the segments begin one after the other -/
def Srt : List Sgm → Prop
 | [] => True
 | [_] => True
 | s :: s' :: r => s.a < s'.a ∧ Srt (s' :: r)
theorem mul_bd {n p B : Int} (hn : 0 ≤ n) (h0 : -B ≤ p) (h1 : p ≤ B) : -(B * n) ≤ n * p ∧ n * p ≤ B * n := by
 have q1 := Int.mul_le_mul_of_nonneg_left h1 hn
 have q2 := Int.mul_le_mul_of_nonneg_left h0 hn
 rw [Int.mul_neg] at q2
 rw [Int.mul_comm B n]
 exact ⟨q2, q1⟩
theorem gn_lip {B a b : Int} (hab : a ≤ b) : ∀ (l : List Sgm), (∀ s ∈ l, -B ≤ s.p ∧ s.p ≤ B) → Srt l → -(B * (msr l b - msr l a)) ≤ gn l b - gn l a ∧ gn l b - gn l a ≤ B * (msr l b - msr l a)
 | [], _, _ => by simp [gn, msr]
 | [s], h, _ => by
  obtain ⟨h0, h1⟩ := h s (by simp)
  have := mul_bd (n := max 0 (b - s.a) - max 0 (a - s.a)) (by omega) h0 h1
  rw [Int.sub_mul] at this
  simpa [gn, msr] using this
 | s :: s' :: r, h, hs => by
  obtain ⟨h0, h1⟩ := h s (by simp)
  obtain ⟨g0, g1⟩ := gn_lip hab (s' :: r) (fun x hx => h x (List.mem_cons_of_mem _ hx)) hs.2
  have hlt := hs.1
  have := mul_bd (n := max 0 (min b s'.a - s.a) - max 0 (min a s'.a - s.a)) (by omega) h0 h1
  rw [Int.sub_mul] at this
  have hm : max 0 (b - s.a) - max 0 (a - s.a) = (max 0 (min b s'.a - s.a) - max 0 (min a s'.a - s.a)) + (max 0 (b - s'.a) - max 0 (a - s'.a)) := by omega
  show -(B * (max 0 (b - s.a) - max 0 (a - s.a))) ≤ (max 0 (min b s'.a - s.a) * s.p + gn (s' :: r) b) - (max 0 (min a s'.a - s.a) * s.p + gn (s' :: r) a) ∧ (max 0 (min b s'.a - s.a) * s.p + gn (s' :: r) b) - (max 0 (min a s'.a - s.a) * s.p + gn (s' :: r) a) ≤ B * (max 0 (b - s.a) - max 0 (a - s.a))
  rw [hm, Int.mul_add]
  simp only [msr] at g0 g1
  omega
/-- an oscillator's reading -/
def rdO (ph : Int) (l : List Sgm) (t : Int) : Int := ph + t + gn l t / 1000000000
theorem rd_el {B a b ph : Int} {l : List Sgm} (hab : a ≤ b) (h : ∀ s ∈ l, -B ≤ s.p ∧ s.p ≤ B) (hs : Srt l) (hm : msr l b - msr l a = b - a) :
  1000000000 * (rdO ph l b - rdO ph l a - 1) < 1000000000 * (b - a) + B * (b - a) ∧ 1000000000 * (b - a) - B * (b - a) < 1000000000 * (rdO ph l b - rdO ph l a + 1) := by
 have := gn_lip hab l h hs
 rw [hm] at this
 unfold rdO
 omega
end Go.Proofs.YtikjdmbfjkbndaaGreat

namespace Go.Proofs.YtikjdmbfjkbndaaGreat
open Go.RowKit Go.Sort

/-- what is known of an oscillator's readings -/
structure OscF (f : Int → Int) (tol : Int) : Prop where
 el : ∀ a b, 0 ≤ a → a ≤ b → elLo (f b - f a) tol ≤ b - a ∧ b - a ≤ elHi (f b - f a) tol
 up : ∀ a b, 0 ≤ a → a ≤ b → f a ≤ f b
 gr : ∀ a b, 0 ≤ a → a ≤ b → f b - f a ≤ 2 * (b - a)
 s0 : -1125899906842624 ≤ f 0
 s1 : f 0 ≤ 1125899906842624
/-- what holds of the client at a true time -/
structure TrI (f : Int → Int) (tol : Int) (n li num : Nat) (c : Cl) (τ : Int) : Prop where
 u : ClU c
 tol : c.cf.tol = tol
 srv : c.cf.servers = n
 len : c.srcs.length = n
 sv : c.sv.c.sf = 0 ∧ c.sv.c.sl = 0
 now : (clNow c (f τ)).2 = 0
 lo : f 0 ≤ (clNow c (f τ)).1
 hi : (clNow c (f τ)).1 ≤ f 0 + 2 * (f τ - f 0)
 prf : ∀ i s, c.srcs[i]? = some s → li ≤ i → s.hp = true → ∃ t, 0 ≤ t ∧ t ≤ τ ∧ s.pat = f t ∧ s.prf.lo ≤ t ∧ t ≤ s.prf.hi
 own : ∃ t, 0 ≤ t ∧ t ≤ τ ∧ c.owned = f t ∧ c.own.lo ≤ t ∧ t ≤ c.own.hi
 nn : ∀ s ∈ c.srcs, 0 ≤ s.sa.nonce ∧ s.sa.nonce % 64 ≤ (num : Int)
theorem show_grow {c : Ck} (h : CkOk c) {r r' : Int} (hr : r ≤ r') : cShow c r' - cShow c r ≤ 2 * (r' - r) := by
 have h1 : (r' - c.raw) * c.ppb = (r - c.raw) * c.ppb + (r' - r) * c.ppb := by rw [← Int.add_mul]; congr 1; omega
 have h2 : (r' - r) * c.ppb ≤ (r' - r) * 500000 := Int.mul_le_mul_of_nonneg_left h.p1 (by omega)
 unfold cShow
 rw [h1]
 generalize (r - c.raw) * c.ppb = x at *
 generalize (r' - r) * c.ppb = y at *
 omega
theorem clNow_move {c : Cl} {r r' : Int} (hk : CkOk c.ck) (hr : r ≤ r') (h : (clNow c r).2 = 0) (hb : r' ≤ 4503599627370496) (hu : (clNow c r).1 + 2 * (r' - r) ≤ 4503599627370496) :
  (clNow c r').2 = 0 ∧ (clNow c r).1 ≤ (clNow c r').1 ∧ (clNow c r').1 - (clNow c r).1 ≤ 2 * (r' - r) := by
 obtain ⟨q1, q2, q3⟩ := clNow_c h
 obtain ⟨h1, h2, h3, h4⟩ := now_ok q1
 have u1 := show_up hk hr
 have u2 := show_grow hk hr
 rw [q3, h4] at hu
 have h5 := wth_iff.1 (show wth (cShow c.ck r) (-4503599627370496) 4503599627370496 = true from h3)
 have hT : isT (cShow c.ck r') = true := by unfold isT; rw [wth_iff]; omega
 have hn : cNow c.ck r' = (cShow c.ck r', 0) := by
  unfold cNow
  rw [if_neg (by omega), if_neg (by omega), if_pos hT]
 have hc : clNow c r' = (cShow c.ck r', 0) := by rw [clNow_of (by rw [hn]) (by omega), hn]
 rw [hc, q3, h4]
 exact ⟨rfl, u1, u2⟩
section
variable {f : Int → Int} {tol : Int} {n li num : Nat} {c : Cl} {τ τ' : Int}
theorem OscF.bd (hf : OscF f tol) (h0 : 0 ≤ τ) (h1 : τ ≤ 791648371998720) : -1125899906842624 ≤ f τ ∧ f τ ≤ 2709196650840064 := by
 have := hf.up 0 τ (by omega) h0
 have := hf.gr 0 τ (by omega) h0
 have := hf.s0; have := hf.s1
 omega
theorem TrI.bd (h : TrI f tol n li num c τ) (hf : OscF f tol) (h0 : 0 ≤ τ) (h1 : τ ≤ 791648371998720) : -1125899906842624 ≤ (clNow c (f τ)).1 ∧ (clNow c (f τ)).1 ≤ 4292493394837504 := by
 have := hf.gr 0 τ (by omega) h0
 have := hf.s0; have := hf.s1; have := h.lo; have := h.hi
 omega
/-- time goes on -/
theorem TrI.move (h : TrI f tol n li num c τ) (hf : OscF f tol) (h0 : 0 ≤ τ) (hτ : τ ≤ τ') (h1 : τ' ≤ 791648371998720) : TrI f tol n li num c τ' := by
 have e1 := hf.up τ τ' h0 hτ
 have e2 := hf.gr τ τ' h0 hτ
 have e3 := h.bd hf h0 (by omega)
 have e4 := hf.bd (τ := τ') (by omega) h1
 have e5 := hf.gr 0 τ (by omega) h0
 have e6 := hf.s1
 have e7 := h.hi; have e8 := h.lo
 obtain ⟨m1, m2, m3⟩ := clNow_move h.u.ok.ck e1 h.now (by omega) (by omega)
 refine ⟨h.u, h.tol, h.srv, h.len, h.sv, m1, by omega, by omega, fun i s hs hl hp => ?_, ?_, h.nn⟩
 ·obtain ⟨t, q1, q2, q3⟩ := h.prf i s hs hl hp
  exact ⟨t, q1, by omega, q3⟩
 ·obtain ⟨t, q1, q2, q3⟩ := h.own
  exact ⟨t, q1, by omega, q3⟩
theorem cnt_ge {p : Iv → Bool} (L : List Iv) (k : Nat) (h : ∀ i x, L[i]? = some x → k ≤ i → p x = true) : L.length - k ≤ (L.filter p).length := by
 have e : L.filter p = (L.take k).filter p ++ (L.drop k).filter p := by rw [← List.filter_append, List.take_append_drop]
 have e2 : (L.drop k).filter p = L.drop k := List.filter_eq_self.2 fun x hx => by
  obtain ⟨j, hj⟩ := List.mem_iff_getElem?.1 hx
  rw [List.getElem?_drop] at hj
  exact h _ x hj (by omega)
 rw [e, List.length_append, e2, List.length_drop]
 omega
theorem InE.of {τ : Int} (h0 : 0 ≤ τ) (h1 : τ ≤ 791648371998720) : InE τ := ⟨by omega, by omega⟩
/-- an interval of a true time behind is one of the true time now -/
theorem aged_tr (hf : OscF f tol) {x : Iv} {t : Int} (t0 : 0 ≤ t) (t1 : t ≤ τ) (h1 : τ ≤ 791648371998720) (hx : x.lo ≤ t ∧ t ≤ x.hi) : (agedC x (f t) (f τ) tol).lo ≤ τ ∧ τ ≤ (agedC x (f t) (f τ) tol).hi :=
 aged_has hx (InE.of (by omega) h1) fun _ => hf.el t τ t0 t1
theorem TrI.ren (h : TrI f tol n li num c τ) (hf : OscF f tol) (h0 : 0 ≤ τ) (h1 : τ ≤ 791648371998720) (hl : 2 * li < n) : (renC c (f τ)).lo ≤ τ ∧ τ ≤ (renC c (f τ)).hi := by
 have hh : (honC c (f τ)).lo ≤ τ ∧ τ ≤ (honC c (f τ)).hi := by
  unfold honC
  have hlen : (c.srcs.map (prfC (f τ) c.cf.tol)).length = n := by rw [List.length_map, h.len]
  have hc := cnt_ge (p := fun x => hasI x τ) (c.srcs.map (prfC (f τ) c.cf.tol)) li fun i x hx hi => by
   rw [List.getElem?_map] at hx
   cases hs : c.srcs[i]? with
   | none => rw [hs] at hx; cases hx
   | some s =>
    rw [hs] at hx
    obtain rfl : prfC (f τ) c.cf.tol s = x := by simpa using hx
    unfold prfC
    split
    ·rename_i hp
     obtain ⟨t, q1, q2, q3, q4⟩ := h.prf i s hs hi hp
     rw [q3, h.tol]
     exact has_iff.2 ⟨aged_ok .., aged_tr hf q1 q2 h1 q4⟩
    ·exact has_iff.2 ⟨ev_ok, InE.of h0 h1⟩
  have hs := h.srv
  obtain ⟨x, hx, hx2⟩ := hon_has (l := c.srcs.map (prfC (f τ) c.cf.tol)) (f := (c.cf.servers - 1) / 2) (t := τ) (by omega) (by rw [hlen]; omega) (fun x hx => by
   obtain ⟨s, _, rfl⟩ := List.mem_map.1 hx
   unfold prfC
   split
   ·exact aged_ok ..
   ·exact ev_ok) (by
   rw [hlen] at hc ⊢
   show (n : Int) - (c.cf.servers - 1) / 2 ≤ (((c.srcs.map (prfC (f τ) c.cf.tol)).filter fun x => hasI x τ).length : Int)
   omega)
  rw [hx]
  exact hx2
 unfold renC
 cases hm : meetI (honC c (f τ)) (agedC c.own c.owned (f τ) c.cf.tol) with
 | none => exact hh
 | some x =>
  obtain ⟨t, q1, q2, q3, q4⟩ := h.own
  rw [q3, h.tol] at hm
  exact meet_has hm hh (aged_tr hf q1 q2 h1 q4)
theorem TrI.itv (h : TrI f tol n li num c τ) (hf : OscF f tol) (h0 : 0 ≤ τ) (h1 : τ ≤ 791648371998720) (hl : 2 * li < n) : itvC c (f τ) = (renC c (f τ), 0) ∧ (renC c (f τ)).lo ≤ τ ∧ τ ≤ (renC c (f τ)).hi := by
 refine ⟨?_, h.ren hf h0 h1 hl⟩
 unfold itvC
 rw [if_pos h.now]
/-- the same but for the servers and the last time -/
theorem TrI.srcs (h : TrI f tol n li num c τ) {c' : Cl} {num' : Nat} (hu : ClU c') (hck : c'.ck = c.ck) (hla : c'.last = f τ) (hcf : c'.cf = c.cf) (hsv : c'.sv = c.sv) (how : c'.own = c.own ∧ c'.owned = c.owned) (hl : c'.srcs.length = n)
  (hp : ∀ i s, c'.srcs[i]? = some s → li ≤ i → s.hp = true → ∃ t, 0 ≤ t ∧ t ≤ τ ∧ s.pat = f t ∧ s.prf.lo ≤ t ∧ t ≤ s.prf.hi) (hn : ∀ s ∈ c'.srcs, 0 ≤ s.sa.nonce ∧ s.sa.nonce % 64 ≤ (num' : Int)) : TrI f tol n li num' c' τ := by
 have hs := (same_now h.now hck (.inl hla)).1
 exact ⟨hu, hcf ▸ h.tol, hcf ▸ h.srv, hl, hsv ▸ h.sv, by rw [hs]; exact h.now, by rw [hs]; exact h.lo, by rw [hs]; exact h.hi, hp, by rw [how.1, how.2]; exact h.own, hn⟩
/-- a server is asked -/
theorem TrI.send (h : TrI f tol n li num c τ) {k : Int} {nonce : Int} (hf : OscF f tol) (h0 : 0 ≤ τ) (h1 : τ ≤ 791648371998720) (k0 : 0 ≤ k) (k1 : k < n) (hn0 : 0 < nonce) (hn1 : nonce % 64 = num + 1) :
  (clSend c k (f τ) nonce).1.2 = 0 ∧ TrI f tol n li (num + 1) (clSend c k (f τ) nonce).2 τ ∧ ∃ s, (clSend c k (f τ) nonce).2.srcs[k.toNat]? = some s ∧ s.sent = f τ := by
 have hw : wth k 0 (c.srcs.length - 1) = true := by rw [wth_iff, h.len]; omega
 have hU := h.u.send k (f τ) nonce
 have he := clEnter_ok h.now
 have hlt : k.toNat < c.srcs.length := by rw [h.len]; omega
 have hs : c.srcs.getD k.toNat (sr0 c.cf) = c.srcs[k.toNat] := by rw [List.getD_eq_getElem?_getD, List.getElem?_eq_getElem hlt]; rfl
 have hb := h.bd hf h0 h1
 have hT : isT (clNow c (f τ)).1 = true := by unfold isT; rw [wth_iff]; omega
 have hne : nonce ≠ (c.srcs[k.toNat]).sa.nonce := fun e => by
  have := (h.nn _ (List.getElem_mem hlt)).2
  rw [← e] at this
  omega
 unfold clSend at hU ⊢
 rw [if_pos hw, he] at hU ⊢
 dsimp only at hU ⊢
 rw [if_pos rfl, hs] at hU ⊢
 have ha : (aSend c.srcs[k.toNat].sa (clNow c (f τ)).1 nonce).2.1 = 0 ∧ (aSend c.srcs[k.toNat].sa (clNow c (f τ)).1 nonce).2.2.nonce = nonce := by
  unfold aSend
  rw [if_pos hT, if_neg (by omega), if_neg hne]
  exact ⟨rfl, rfl⟩
 have hss : sSend c.srcs[k.toNat] (f τ) (clNow c (f τ)).1 nonce = ({ (aSend c.srcs[k.toNat].sa (clNow c (f τ)).1 nonce).1 with poll := (rshift c.srcs[k.toNat].rc).poll }, 0, { c.srcs[k.toNat] with sa := (aSend c.srcs[k.toNat].sa (clNow c (f τ)).1 nonce).2.2, sent := f τ, rc := rshift c.srcs[k.toNat].rc }) := by
  unfold sSend
  rw [if_pos ha.1]
 rw [hss] at hU ⊢
 dsimp only at hU ⊢
 refine ⟨rfl, ?_, ⟨_, List.getElem?_set_self hlt, rfl⟩⟩
 refine h.srcs hU rfl rfl rfl rfl ⟨rfl, rfl⟩ (by dsimp only; rw [List.length_set, h.len]) (fun i s hi hl hp => ?_) (fun s hs => ?_)
 ·dsimp only at hi
  rw [List.getElem?_set] at hi
  split at hi
  ·rename_i hik
   try rw [if_pos (by omega)] at hi
   obtain rfl := Option.some.inj hi
   have q := h.prf k.toNat c.srcs[k.toNat] (List.getElem?_eq_getElem hlt) (hik ▸ hl) hp
   exact q
  ·exact h.prf i s hi hl hp
 ·rcases List.mem_or_eq_of_mem_set hs with h' | rfl
  ·have := h.nn s h'; omega
  ·dsimp only
   rw [ha.2]; omega
theorem recv_nonce (a : As) (p : Np) (now : Int) : (aRecv a p now).2.nonce = a.nonce := by
 unfold aRecv
 split <;> rfl
theorem hit_meas {s : Sr} {i : Int} {p : Np} {q : Qd} {prec tol : Int} : (sMeas s i p q prec tol).sa = s.sa ∧ (sMeas s i p q prec tol).hp = s.hp ∧ (sMeas s i p q prec tol).prf = s.prf ∧ (sMeas s i p q prec tol).pat = s.pat := by
 unfold sMeas
 split
 ·split <;> exact ⟨rfl, rfl, rfl, rfl⟩
 ·exact ⟨rfl, rfl, rfl, rfl⟩
theorem prove_sa {s : Sr} {iv : Iv} {raw tol : Int} : (sProve s iv raw tol).sa = s.sa := by
 unfold sProve
 split
 ·split <;> rfl
 ·rfl
/-- a server's reply comes -/
theorem TrI.recv (h : TrI f tol n li num c τ) {k : Int} {p : Np} {iv : Iv} {has : Bool} {at' left : Int} {s0 : Sr} (hf : OscF f tol) (h1 : τ ≤ 791648371998720) (k0 : 0 ≤ k) (k1 : k < n) (hp : npOk p)
  (hs0 : c.srcs[k.toNat]? = some s0) (hse : s0.sent = f at') (ha0 : 0 ≤ at') (ha1 : at' ≤ left) (ha2 : left ≤ τ) (hiv : (li : Int) ≤ k → iv.lo ≤ left ∧ left ≤ iv.hi) :
  (clRecv c k p iv has (f τ)).1.2 = 0 ∧ TrI f tol n li num (clRecv c k p iv has (f τ)).2 τ := by
 have h0 : 0 ≤ τ := by omega
 have hw : wth k 0 (c.srcs.length - 1) = true := by rw [wth_iff, h.len]; omega
 have hU := h.u.recv k hp iv has (f τ)
 have he := clEnter_ok h.now
 have hlt : k.toNat < c.srcs.length := by rw [h.len]; omega
 have hs : c.srcs.getD k.toNat (sr0 c.cf) = s0 := by rw [List.getD_eq_getElem?_getD, hs0]; rfl
 unfold clRecv at hU ⊢
 rw [if_pos hw, he] at hU ⊢
 dsimp only at hU ⊢
 rw [if_pos rfl, hs] at hU ⊢
 refine ⟨rfl, ?_⟩
 have hm := List.mem_of_getElem? hs0
 have hpr : ∀ a : As, a.nonce = s0.sa.nonce → (li ≤ k.toNat → (sProve (sHit s0 a) iv (f τ) c.cf.tol).hp = true → ∃ t, 0 ≤ t ∧ t ≤ τ ∧ (sProve (sHit s0 a) iv (f τ) c.cf.tol).pat = f t ∧ (sProve (sHit s0 a) iv (f τ) c.cf.tol).prf.lo ≤ t ∧ t ≤ (sProve (sHit s0 a) iv (f τ) c.cf.tol).prf.hi) := by
  intro a _ hl
  unfold sProve
  split
  ·rename_i ht
   split
   ·exact h.prf k.toNat s0 hs0 hl
   ·refine fun _ => ⟨τ, h0, Int.le_refl _, rfl, ?_⟩
    refine clip_has (trip_has (hiv (by omega)) ha2 (fun _ => ?_) ht) (InE.of h0 h1)
    have := (hf.el at' τ ha0 (by omega)).2
    show τ - left ≤ elHi (f τ - s0.sent) c.cf.tol
    rw [hse, h.tol]
    omega
  ·exact h.prf k.toNat s0 hs0 hl
 have key : (sRecv s0 k p iv has (f τ) (clNow c (f τ)).1 c.cf.prec c.cf.tol).2.sa.nonce = s0.sa.nonce ∧ (li ≤ k.toNat → (sRecv s0 k p iv has (f τ) (clNow c (f τ)).1 c.cf.prec c.cf.tol).2.hp = true → ∃ t, 0 ≤ t ∧ t ≤ τ ∧ (sRecv s0 k p iv has (f τ) (clNow c (f τ)).1 c.cf.prec c.cf.tol).2.pat = f t ∧ (sRecv s0 k p iv has (f τ) (clNow c (f τ)).1 c.cf.prec c.cf.tol).2.prf.lo ≤ t ∧ t ≤ (sRecv s0 k p iv has (f τ) (clNow c (f τ)).1 c.cf.prec c.cf.tol).2.prf.hi) := by
  have hrn := recv_nonce s0.sa p (clNow c (f τ)).1
  unfold sRecv
  split
  ·exact ⟨hrn, h.prf k.toNat s0 hs0⟩
  ·split
   ·dsimp only
    obtain ⟨e1, e2, e3, e4⟩ := hit_meas (s := if has = true then sProve (sHit s0 (aRecv s0.sa p (clNow c (f τ)).1).2) iv (f τ) c.cf.tol else sHit s0 (aRecv s0.sa p (clNow c (f τ)).1).2) (i := k + 1) (p := p) (q := (aRecv s0.sa p (clNow c (f τ)).1).1.q) (prec := c.cf.prec) (tol := c.cf.tol)
    rw [e1, e2, e3, e4]
    split
    ·exact ⟨by rw [prove_sa]; exact hrn, hpr _ hrn⟩
    ·exact ⟨hrn, h.prf k.toNat s0 hs0⟩
   ·exact ⟨hrn, h.prf k.toNat s0 hs0⟩
 refine h.srcs hU rfl rfl rfl rfl ⟨rfl, rfl⟩ (by dsimp only; rw [List.length_set, h.len]) (fun i s hi hl hp => ?_) (fun s hs => ?_)
 ·dsimp only at hi
  rw [List.getElem?_set] at hi
  split at hi
  ·rename_i hik
   try rw [if_pos (by omega)] at hi
   obtain rfl := Option.some.inj hi
   exact key.2 (hik ▸ hl) hp
  ·exact h.prf i s hi hl hp
 ·rcases List.mem_or_eq_of_mem_set hs with h' | rfl
  ·exact h.nn s h'
  ·rw [key.1]; exact h.nn s0 hm
theorem adR_get {p : Nat → Sr → Prop} {off jit : Int} (hp : ∀ i s, p i s → p i (adS off jit s)) : ∀ (ks : List Cd) (l : List Sr), (∀ i s, l[i]? = some s → p i s) → ∀ i s, (adR off jit ks l)[i]? = some s → p i s
 | [], _, h => h
 | k :: r, l, h => adR_get hp r _ (fun i s hs => by
  rw [List.getElem?_modify] at hs
  cases hx : l[i]? with
  | none => rw [hx] at hs; simp at hs
  | some y =>
   rw [hx] at hs
   simp only [Option.map_eq_map, Option.map_some, Option.some.injEq] at hs
   rw [← hs]
   split
   ·exact hp i y (h i y hx)
   ·exact h i y hx)
theorem smp_no2 {s : Sv} (h : s.c.sf = 0 ∧ s.c.sl = 0) (off span : Int) : (smpE s off span).1.kind ≠ 2 ∧ (smpE s off span).2.2.c = s.c := by
 have ht : thS s = 0 := by unfold thS; split; exact h.1; exact h.2
 unfold smpE smpS
 rw [ht]
 split
 ·rw [if_neg (fun q => absurd q.1 (by decide))]
  exact ⟨by simp, rfl⟩
 ·exact ⟨by simp, rfl⟩
/-- an update -/
theorem TrI.upd (h : TrI f tol n li num c τ) {c' : Cl} {a : Ac} {er : Int} (hf : OscF f tol) (h0 : 0 ≤ τ) (h1 : τ ≤ 791648371998720) (hl : 2 * li < n) (hu : UpdR c (f τ) a er c') : TrI f tol n li num c' τ := by
 obtain ⟨hU, hN⟩ := h.u.upd hu
 replace hN := hN h.now
 have he := clEnter_ok h.now
 have hr := h.ren hf h0 h1 hl
 have hB : TrI f tol n li num (updB c (f τ)) τ := by
  have hs : clNow (updB c (f τ)) (f τ) = clNow c (f τ) := (same_now h.now (enter_same c (f τ)).1 (.inl (by show (clEnter c (f τ)).2.2.last = f τ; rw [he]))).1
  have e1 : (updB c (f τ)).srcs = c.srcs ∧ (updB c (f τ)).cf = c.cf ∧ (updB c (f τ)).sv = c.sv ∧ (updB c (f τ)).owned = f τ ∧ (updB c (f τ)).own = renC { c with last := f τ } (f τ) := by
   unfold updB; rw [he]; exact ⟨rfl, rfl, rfl, rfl, rfl⟩
  obtain ⟨e1, e2, e3, e4, e5⟩ := e1
  refine ⟨h.u.upB (by rw [he]), e2 ▸ h.tol, e2 ▸ h.srv, e1 ▸ h.len, e3 ▸ h.sv, by rw [hs]; exact h.now, by rw [hs]; exact h.lo, by rw [hs]; exact h.hi, e1 ▸ h.prf, ⟨τ, h0, Int.le_refl _, e4, ?_⟩, e1 ▸ h.nn⟩
  rw [e5]
  exact hr
 rcases hu with ⟨g1, g2, g3, g4⟩ | ⟨g1, ⟨g2, g3, g4, -⟩ | ⟨ins, hv, -, -, g4⟩⟩
 ·rw [he] at g1
  exact absurd rfl g1
 ·exact g4 ▸ hB
 ·have hk : a.kind ≠ 2 ∧ c'.cf = (updB c (f τ)).cf ∧ c'.sv.c = (updB c (f τ)).sv.c ∧ c'.own = (updB c (f τ)).own ∧ c'.owned = (updB c (f τ)).owned ∧ c'.srcs.length = (updB c (f τ)).srcs.length ∧
    (∀ {q : Nat → Sr → Prop}, (∀ i s (o j : Int), q i s → q i (adS o j s)) → (∀ i s, (updB c (f τ)).srcs[i]? = some s → q i s) → ∀ i s, c'.srcs[i]? = some s → q i s) := by
   have hn2 := smp_no2 hB.sv (meanC (updK c (f τ) ins)) (spnC (updB c (f τ)) (clEnter c (f τ)).1)
   unfold strC at g4
   split at g4
   ·split at g4
    ·rw [if_neg hn2.1] at g4
     simp only [Prod.mk.injEq] at g4
     obtain ⟨rfl, rfl, rfl⟩ := g4
     exact ⟨hn2.1, rfl, hn2.2, rfl, rfl, adR_len _ _ _ _, fun hq h0 => adR_get (fun i s => hq i s _ _) _ _ h0⟩
    ·simp only [Prod.mk.injEq] at g4
     obtain ⟨rfl, rfl, rfl⟩ := g4
     exact ⟨by simp, rfl, hn2.2, rfl, rfl, adR_len _ _ _ _, fun hq h0 => adR_get (fun i s => hq i s _ _) _ _ h0⟩
   ·simp only [Prod.mk.injEq] at g4
    obtain ⟨rfl, rfl, rfl⟩ := g4
    exact ⟨by simp, rfl, rfl, rfl, rfl, rfl, fun _ h0 => h0⟩
  obtain ⟨k1, k2, k3, k4, k5, k6, k7⟩ := hk
  rw [if_neg k1] at hN
  refine ⟨hU, k2 ▸ hB.tol, k2 ▸ hB.srv, k6 ▸ hB.len, k3 ▸ hB.sv, by rw [hN.1]; exact h.now, by rw [hN.1]; exact h.lo, by rw [hN.1]; exact h.hi, ?_, by rw [k4, k5]; exact hB.own, ?_⟩
  ·exact k7 (q := fun i s => li ≤ i → s.hp = true → ∃ t, 0 ≤ t ∧ t ≤ τ ∧ s.pat = f t ∧ s.prf.lo ≤ t ∧ t ≤ s.prf.hi) (fun i s o j hq => hq) hB.prf
  ·intro s hs
   obtain ⟨i, hi⟩ := List.mem_iff_getElem?.1 hs
   exact k7 (q := fun i s => 0 ≤ s.sa.nonce ∧ s.sa.nonce % 64 ≤ (num : Int)) (fun i s o j hq => hq) (fun i s hs => hB.nn s (List.mem_of_getElem? hs)) i s hi
end
end Go.Proofs.YtikjdmbfjkbndaaGreat
