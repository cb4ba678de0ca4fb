/- Texts of one chain: F0, F5. Conditions: those named in each theorem. -/
import Derived.Test.YtikjdmbfjkbndaaGreatV6
import Derived.Test.YtikjdmbfjkbndaaGreatWa0
import Derived.Test.YtikjdmbfjkbndaaGreatWb0
namespace Go.Proofs.YtikjdmbfjkbndaaGreat
open Go.RowKit

section
variable {P : Program} {md : Region.Mode} {ops : Array Oper} {R : Act → World → Prop}
def invB (md : Region.Mode) (ops : Array Oper) (listed : Array Bool) : Bool := (listed.size == ops.size) && (List.range ops.size).all fun j => !listed.getD j false || match ops[j]? with
 | some o => o.after.toList.all fun e => !Region.binds md e || listed.getD e.on false
 | none => true
theorem inv_of {tl : List Nat} {listed : Array Bool} (h : invB md ops listed = true) : HInv md ops tl listed := by
 unfold invB at h
 simp only [Bool.and_eq_true, beq_iff_eq, List.all_eq_true, List.mem_range] at h
 refine ⟨h.1, fun j oj hj hl e he hb => ?_⟩
 have hlt : j < ops.size := (Array.getElem?_eq_some_iff.1 hj).1
 have := h.2 j hlt
 rw [hl, hj] at this
 simp only [Bool.not_true, Bool.false_or, List.all_eq_true] at this
 have := this e (by simpa using he)
 rw [hb] at this
 simpa using this
theorem wpAnyG_move {tl : List Nat} {W : World} (i : Nat) {oi : Oper} {fuel : Nat} {listed : Array Bool} {a : Act} {w : World} (v : Value) (hR : StableR R) (hi : ops[i]? = some oi)
  (hB : (Region.noSelect ops && !tl.contains i && (Region.ready md ops listed).contains i && Region.free md ops listed i && invB md ops listed) = true)
  (hw : Region.wanted oi (yielded ops a.tmps) = true) (hv : ∀ w, (execOp a.eval oi).run P w = .ok (.value v) w)
  (h : wpAnyG P md ops tl W R fuel (listed.setIfInBounds i true) (a.put oi.dst v) w) : wpAnyG P md ops tl W R (fuel + 1) listed a w := by
 simp only [Bool.and_eq_true, Bool.not_eq_true'] at hB
 obtain ⟨⟨⟨⟨h1, h2⟩, h3⟩, h4⟩, h5⟩ := hB
 exact wpAnyG_pure hR hi (Region.noSelect_spec h1) (by intro hm; rw [List.contains_iff_mem.2 hm] at h2; cases h2) _ _ _ _ (inv_of h5) (Region.free_spec hi h4) (List.contains_iff_mem.1 h3) (.inl ⟨hw, .inl fun w _ => hv w⟩) h
end
end Go.Proofs.YtikjdmbfjkbndaaGreat

namespace Go.Proofs.YtikjdmbfjkbndaaGreat
open Go.RowKit Go.Sort

theorem eq_ex {w : World} {b : Nat} {o : Obj} (h : w.heap[b]? = some o) : ∃ b', b = b' ∧ w.heap[b']? = some o := ⟨b, rfl, h⟩
/-- an exchange -/
structure Tp where
 sv : Int
 tm : Int
 out : Int
 back : Int
 lo : Int
 hi : Int
 upd : Bool
def tpC (t : Tp) : List Value := [.int .i64 t.sv, .int .i64 t.tm, .int .i64 t.out, .int .i64 t.back, .int .i64 t.lo, .int .i64 t.hi, .bool t.upd]
def tpV (t : Tp) : Value := .agg #[.int .i64 t.sv, .int .i64 t.tm, .int .i64 t.out, .int .i64 t.back, .int .i64 t.lo, .int .i64 t.hi, .bool t.upd]
def FitsP (t : Tp) (n : Int) : Prop := 0 ≤ t.sv ∧ t.sv < n ∧ 0 ≤ t.tm ∧ t.tm ≤ 17592186044416 ∧ 0 ≤ t.out ∧ t.out ≤ 1099511627776 ∧ 0 ≤ t.back ∧ t.back ≤ 1099511627776 ∧ -1099511627776 ≤ t.lo ∧ t.lo ≤ 1099511627776 ∧ -1099511627776 ≤ t.hi ∧ t.hi ≤ 1099511627776
def fitsB (t : Tp) (n : Int) : Bool := decide (0 ≤ t.sv) && (decide (t.sv < n) && (decide (0 ≤ t.tm) && (decide (t.tm ≤ 17592186044416) && (decide (0 ≤ t.out) && (decide (t.out ≤ 1099511627776) && (decide (0 ≤ t.back) && (decide (t.back ≤ 1099511627776) && (decide (-1099511627776 ≤ t.lo) && (decide (t.lo ≤ 1099511627776) && (decide (-1099511627776 ≤ t.hi) && decide (t.hi ≤ 1099511627776)))))))))))
theorem fitsB_iff {t : Tp} {n : Int} : fitsB t n = true ↔ FitsP t n := by unfold fitsB FitsP; simp
set_option maxRecDepth 100000 in
set_option maxHeartbeats 8000000 in
theorem pFits (t : Tp) (n : Int) (w : World) :
  Calls Tryz.prog 17 #[tpV t, .int .i64 n] w fun e w' => e = .returned (.bool (fitsB t n)) ∧ Only [] w w' := by
 obtain ⟨res, HE⟩ : ∃ r, Hid (fitsB t n = r) := ⟨_, Lib.hid rfl⟩
 rw [HE.out]
 unfold fitsB at HE
 obtain ⟨s, a, o, b, lo, hi, u⟩ := t
 unfold tpV
 dsimp only at HE ⊢
 by_cases h0 : 0 ≤ s
 rotate_left
 ·have f0 : decide (0 ≤ s) = false := decide_eq_false h0
  obtain rfl : res = false := by rw [← HE.out, f0]; first | done | rfl
  clear HE h0
  have m := mm0 w []; have k := m.out.k
  go_enter Tryz.func17, Tryz.ntmps17
  go_wp2_with (first | ((with_reducible refine wU ?_); clear k m; intro w m k) | ((with_reducible refine lE (fun w o g k K hK => ⟨rfl, ?_⟩)); simp [results, Tryz.results17, go_sem]; refine hK _ ?_; clear hK K k; skip; exact ⟨rfl, o⟩))
 have f0 : decide (0 ≤ s) = true := decide_eq_true h0
 by_cases h1 : s < n
 rotate_left
 ·have f1 : decide (s < n) = false := decide_eq_false h1
  obtain rfl : res = false := by rw [← HE.out, f0, f1]; first | done | rfl
  clear HE h0 h1
  have m := mm0 w []; have k := m.out.k
  go_enter Tryz.func17, Tryz.ntmps17
  go_wp2_with (first | ((with_reducible refine wU ?_); clear k m; intro w m k) | ((with_reducible refine lE (fun w o g k K hK => ⟨rfl, ?_⟩)); simp [results, Tryz.results17, go_sem]; refine hK _ ?_; clear hK K k; skip; exact ⟨rfl, o⟩))
 have f1 : decide (s < n) = true := decide_eq_true h1
 by_cases h2 : 0 ≤ a
 rotate_left
 ·have f2 : decide (0 ≤ a) = false := decide_eq_false h2
  obtain rfl : res = false := by rw [← HE.out, f0, f1, f2]; first | done | rfl
  clear HE h0 h1 h2
  have m := mm0 w []; have k := m.out.k
  go_enter Tryz.func17, Tryz.ntmps17
  go_wp2_with (first | ((with_reducible refine wU ?_); clear k m; intro w m k) | ((with_reducible refine lE (fun w o g k K hK => ⟨rfl, ?_⟩)); simp [results, Tryz.results17, go_sem]; refine hK _ ?_; clear hK K k; skip; exact ⟨rfl, o⟩))
 have f2 : decide (0 ≤ a) = true := decide_eq_true h2
 by_cases h3 : a ≤ 17592186044416
 rotate_left
 ·have f3 : decide (a ≤ 17592186044416) = false := decide_eq_false h3
  obtain rfl : res = false := by rw [← HE.out, f0, f1, f2, f3]; first | done | rfl
  clear HE h0 h1 h2 h3
  have m := mm0 w []; have k := m.out.k
  go_enter Tryz.func17, Tryz.ntmps17
  go_wp2_with (first | ((with_reducible refine wU ?_); clear k m; intro w m k) | ((with_reducible refine lE (fun w o g k K hK => ⟨rfl, ?_⟩)); simp [results, Tryz.results17, go_sem]; refine hK _ ?_; clear hK K k; skip; exact ⟨rfl, o⟩))
 have f3 : decide (a ≤ 17592186044416) = true := decide_eq_true h3
 by_cases h4 : 0 ≤ o
 rotate_left
 ·have f4 : decide (0 ≤ o) = false := decide_eq_false h4
  obtain rfl : res = false := by rw [← HE.out, f0, f1, f2, f3, f4]; first | done | rfl
  clear HE h0 h1 h2 h3 h4
  have m := mm0 w []; have k := m.out.k
  go_enter Tryz.func17, Tryz.ntmps17
  go_wp2_with (first | ((with_reducible refine wU ?_); clear k m; intro w m k) | ((with_reducible refine lE (fun w o g k K hK => ⟨rfl, ?_⟩)); simp [results, Tryz.results17, go_sem]; refine hK _ ?_; clear hK K k; skip; exact ⟨rfl, o⟩))
 have f4 : decide (0 ≤ o) = true := decide_eq_true h4
 by_cases h5 : o ≤ 1099511627776
 rotate_left
 ·have f5 : decide (o ≤ 1099511627776) = false := decide_eq_false h5
  obtain rfl : res = false := by rw [← HE.out, f0, f1, f2, f3, f4, f5]; first | done | rfl
  clear HE h0 h1 h2 h3 h4 h5
  have m := mm0 w []; have k := m.out.k
  go_enter Tryz.func17, Tryz.ntmps17
  go_wp2_with (first | ((with_reducible refine wU ?_); clear k m; intro w m k) | ((with_reducible refine lE (fun w o g k K hK => ⟨rfl, ?_⟩)); simp [results, Tryz.results17, go_sem]; refine hK _ ?_; clear hK K k; skip; exact ⟨rfl, o⟩))
 have f5 : decide (o ≤ 1099511627776) = true := decide_eq_true h5
 by_cases h6 : 0 ≤ b
 rotate_left
 ·have f6 : decide (0 ≤ b) = false := decide_eq_false h6
  obtain rfl : res = false := by rw [← HE.out, f0, f1, f2, f3, f4, f5, f6]; first | done | rfl
  clear HE h0 h1 h2 h3 h4 h5 h6
  have m := mm0 w []; have k := m.out.k
  go_enter Tryz.func17, Tryz.ntmps17
  go_wp2_with (first | ((with_reducible refine wU ?_); clear k m; intro w m k) | ((with_reducible refine lE (fun w o g k K hK => ⟨rfl, ?_⟩)); simp [results, Tryz.results17, go_sem]; refine hK _ ?_; clear hK K k; skip; exact ⟨rfl, o⟩))
 have f6 : decide (0 ≤ b) = true := decide_eq_true h6
 by_cases h7 : b ≤ 1099511627776
 rotate_left
 ·have f7 : decide (b ≤ 1099511627776) = false := decide_eq_false h7
  obtain rfl : res = false := by rw [← HE.out, f0, f1, f2, f3, f4, f5, f6, f7]; first | done | rfl
  clear HE h0 h1 h2 h3 h4 h5 h6 h7
  have m := mm0 w []; have k := m.out.k
  go_enter Tryz.func17, Tryz.ntmps17
  go_wp2_with (first | ((with_reducible refine wU ?_); clear k m; intro w m k) | ((with_reducible refine lE (fun w o g k K hK => ⟨rfl, ?_⟩)); simp [results, Tryz.results17, go_sem]; refine hK _ ?_; clear hK K k; skip; exact ⟨rfl, o⟩))
 have f7 : decide (b ≤ 1099511627776) = true := decide_eq_true h7
 by_cases h8 : -1099511627776 ≤ lo
 rotate_left
 ·have f8 : decide (-1099511627776 ≤ lo) = false := decide_eq_false h8
  obtain rfl : res = false := by rw [← HE.out, f0, f1, f2, f3, f4, f5, f6, f7, f8]; first | done | rfl
  clear HE h0 h1 h2 h3 h4 h5 h6 h7 h8
  have m := mm0 w []; have k := m.out.k
  go_enter Tryz.func17, Tryz.ntmps17
  go_wp2_with (first | ((with_reducible refine wU ?_); clear k m; intro w m k) | ((with_reducible refine lE (fun w o g k K hK => ⟨rfl, ?_⟩)); simp [results, Tryz.results17, go_sem]; refine hK _ ?_; clear hK K k; skip; exact ⟨rfl, o⟩))
 have f8 : decide (-1099511627776 ≤ lo) = true := decide_eq_true h8
 by_cases h9 : lo ≤ 1099511627776
 rotate_left
 ·have f9 : decide (lo ≤ 1099511627776) = false := decide_eq_false h9
  obtain rfl : res = false := by rw [← HE.out, f0, f1, f2, f3, f4, f5, f6, f7, f8, f9]; first | done | rfl
  clear HE h0 h1 h2 h3 h4 h5 h6 h7 h8 h9
  have m := mm0 w []; have k := m.out.k
  go_enter Tryz.func17, Tryz.ntmps17
  go_wp2_with (first | ((with_reducible refine wU ?_); clear k m; intro w m k) | ((with_reducible refine lE (fun w o g k K hK => ⟨rfl, ?_⟩)); simp [results, Tryz.results17, go_sem]; refine hK _ ?_; clear hK K k; skip; exact ⟨rfl, o⟩))
 have f9 : decide (lo ≤ 1099511627776) = true := decide_eq_true h9
 by_cases h10 : -1099511627776 ≤ hi
 rotate_left
 ·have f10 : decide (-1099511627776 ≤ hi) = false := decide_eq_false h10
  obtain rfl : res = false := by rw [← HE.out, f0, f1, f2, f3, f4, f5, f6, f7, f8, f9, f10]; first | done | rfl
  clear HE h0 h1 h2 h3 h4 h5 h6 h7 h8 h9 h10
  have m := mm0 w []; have k := m.out.k
  go_enter Tryz.func17, Tryz.ntmps17
  go_wp2_with (first | ((with_reducible refine wU ?_); clear k m; intro w m k) | ((with_reducible refine lE (fun w o g k K hK => ⟨rfl, ?_⟩)); simp [results, Tryz.results17, go_sem]; refine hK _ ?_; clear hK K k; skip; exact ⟨rfl, o⟩))
 have f10 : decide (-1099511627776 ≤ hi) = true := decide_eq_true h10
 by_cases h11 : hi ≤ 1099511627776
 rotate_left
 ·have f11 : decide (hi ≤ 1099511627776) = false := decide_eq_false h11
  obtain rfl : res = false := by rw [← HE.out, f0, f1, f2, f3, f4, f5, f6, f7, f8, f9, f10, f11]; first | done | rfl
  clear HE h0 h1 h2 h3 h4 h5 h6 h7 h8 h9 h10 h11
  have m := mm0 w []; have k := m.out.k
  go_enter Tryz.func17, Tryz.ntmps17
  go_wp2_with (first | ((with_reducible refine wU ?_); clear k m; intro w m k) | ((with_reducible refine lE (fun w o g k K hK => ⟨rfl, ?_⟩)); simp [results, Tryz.results17, go_sem]; refine hK _ ?_; clear hK K k; skip; exact ⟨rfl, o⟩))
 have f11 : decide (hi ≤ 1099511627776) = true := decide_eq_true h11
 obtain rfl : res = true := by rw [← HE.out, f0, f1, f2, f3, f4, f5, f6, f7, f8, f9, f10, f11]; first | done | rfl
 clear HE h0 h1 h2 h3 h4 h5 h6 h7 h8 h9 h10 h11
 have m := mm0 w []; have k := m.out.k
 go_enter Tryz.func17, Tryz.ntmps17
 go_wp2_with (first | ((with_reducible refine wU ?_); clear k m; intro w m k) | ((with_reducible refine lE (fun w o g k K hK => ⟨rfl, ?_⟩)); simp [results, Tryz.results17, go_sem]; refine hK _ ?_; clear hK K k; skip; exact ⟨rfl, o⟩))
set_option maxRecDepth 100000 in
set_option maxHeartbeats 8000000 in
theorem pExch {w : World} {P : Pl} {c : Cl} {p q : Option Addr} {n cap n2 cap2 : Nat} {l : List Sgm} {ph tol : Int} {sv li num : Nat} {τ : Int} {t : Tp}
  (h : ClAt w P c) (hv : ∀ w', Only P.all w w' → VRow sgC 2 w' p n cap l) (hok : OscOk ph l) (hf : OscF (rdO ph l) tol) (hI : TrI (rdO ph l) tol sv li num c τ) (hfit : FitsP t sv) (h0 : 0 ≤ τ) (h1 : τ + t.tm + t.out + t.back ≤ 791648371998720) (hl : 2 * li < sv) (hnum : num < 40) :
  Calls Tryz.prog 18 #[.pointer (some ⟨P.bc, 0, none⟩), .agg #[.int .i64 ph, .slice p n cap, .int .i64 sv, .int .i64 li, .slice q n2 cap2], tpV t, .int .i64 (τ + t.tm), .int .i64 num] w fun e w' => e = .returned (.tuple #[.int .i64 (τ + t.tm + t.out + t.back), .bool true]) ∧ (∃ P' c', P'.bc = P.bc ∧ ClAt w' P' c' ∧ TrI (rdO ph l) tol sv li (num + 1) c' (τ + t.tm + t.out + t.back) ∧ ∀ b ∈ P'.all, b ∈ P.all ∨ w.heap.size ≤ b) ∧ Only P.all w w' := by
 obtain ⟨s, a, o, bk, lo, hi, u⟩ := t
 unfold tpV
 unfold FitsP at hfit
 dsimp only at hfit h1 ⊢
 obtain ⟨s0, s1, a0, a1, o0, o1, b0, b1, l0, l1, g0, g1⟩ := hfit
 obtain ⟨at', hat⟩ : ∃ x, τ + a = x := ⟨_, rfl⟩
 obtain ⟨left, hleft⟩ : ∃ x, at' + o = x := ⟨_, rfl⟩
 obtain ⟨en, hen⟩ : ∃ x, left + bk = x := ⟨_, rfl⟩
 have hm := hI.move hf h0 (show τ ≤ at' by omega) (by omega)
 have hnn : 0 < at' * 64 + num + 1 := by omega
 have hsd := hm.send (k := s) (nonce := at' * 64 + num + 1) hf (by omega) (by omega) s0 s1 hnn (by omega)
 have hbd0 := hf.bd (τ := at') (by omega) (by omega)
 have hbd1 := hf.bd (τ := en) (by omega) (by omega)
 have HR1 := Lib.hid (fun w' (o : Only [] w w') => pRead ph at' (hv w' (o.weak (by simp))) hok (by omega) (by omega))
 have HR2 := Lib.hid (fun w' (o : Only [] w w') => pRead ph en (hv w' (o.weak (by simp))) hok (by omega) (by omega))
 have u1 : IntKind.u64.wrap at' = at' := by rw [IntKind.wrap_u64]; omega
 have u2 : IntKind.u64.wrap (at' * 64) = at' * 64 := by rw [IntKind.wrap_u64]; omega
 have u3 : IntKind.u64.wrap (num : Int) = num := by rw [IntKind.wrap_u64]; omega
 have u4 : IntKind.u64.wrap (at' * 64 + num) = at' * 64 + num := by rw [IntKind.wrap_u64]; omega
 have u6 : IntKind.i64.wrap (at' + o) = left := by rw [hleft, IntKind.wrap_i64]; omega
 have u7 : IntKind.i64.wrap (left + bk) = en := by rw [hen, IntKind.wrap_i64]; omega
 have u8 : IntKind.i64.wrap (left - lo) = left - lo := by rw [IntKind.wrap_i64]; omega
 have u9 : IntKind.i64.wrap (left + hi) = left + hi := by rw [IntKind.wrap_i64]; omega
 rw [hat, hleft, hen]
 obtain ⟨hsd1, hsd2, s0r, hsd3, hsd4⟩ := hsd
 have HSN := Lib.hid (fun w' (o : Only [] w w') => cSend (h.kept o) hm.u.ok.ck (rdO ph l at') (by omega) (by omega) s (at' * 64 + num + 1))
 rw [hsd1] at HSN
 have hmv := hsd2.move hf (show 0 ≤ at' by omega) (show at' ≤ en by omega) (by omega)
 generalize clSend c s (rdO ph l at') (at' * 64 + num + 1) = r1 at HSN hsd3 hmv
 obtain ⟨⟨⟨p0, p1, p2, p3, p4, p5, p6, p7, p8, p9, p10, p11, p12⟩, er1⟩, c1⟩ := r1
 unfold npV at HSN
 dsimp only at HSN hsd3 hmv
 obtain ⟨nonce, hno⟩ : ∃ x, at' * 64 + num + 1 = x := ⟨_, rfl⟩
 rw [hno] at HSN
 have u5 : IntKind.u64.wrap (at' * 64 + num + 1) = nonce := by rw [IntKind.wrap_u64]; omega
 have hn0 : 0 ≤ nonce ∧ nonce ≤ 18446744073709551615 := by omega
 have HMV := Lib.hid hmv; have HS3 := Lib.hid hsd3; have HS4 := Lib.hid hsd4; have HF := Lib.hid hf
 have hP : ∀ b ∈ P.all, b < w.heap.size := h.lt
 have HT : Hid (0 ≤ at' ∧ at' ≤ left ∧ left ≤ en ∧ 0 ≤ en ∧ en ≤ 791648371998720) := Lib.hid (by omega)
 have HST : Hid ((0 ≤ s ∧ s < (sv : Int)) ∧ 2 * li < sv) := Lib.hid ⟨⟨s0, s1⟩, hl⟩
 have HPB : Hid (P.bc ∈ P.all) := Lib.hid (by simp [Pl.all])
 have ht1 : left.tmod 1000000000 = left % 1000000000 := Int.tmod_eq_emod_of_nonneg (by omega)
 have ht2 : IntKind.i64.wrap (left % 1000000000) = left % 1000000000 := by rw [IntKind.wrap_i64]; omega
 obtain ⟨lm, hlm⟩ : ∃ x, left % 1000000000 = x := ⟨_, rfl⟩
 rw [hlm] at ht1 ht2
 have hlm0 : 0 ≤ lm ∧ lm < 1000000000 := by omega
 clear hmv hsd1 hsd2 hsd3 hsd4 hm hf hI h1 hat hleft hen hno hnn a0 a1 o0 o1 b0 b1 l0 l1 g0 g1 hl hlm
 generalize hra : rdO ph l at' = ra at HR1 HSN hbd0 HS4
 generalize hre : rdO ph l en = re at HR2 hbd1
 have HRA := Lib.hid hra; have HRE := Lib.hid hre
 clear hra hre
 obtain ⟨wo, hwo⟩ : ∃ wo : World, wo = w := ⟨_, rfl⟩
 subst hwo
 have m := mm0 wo []; have k := m.out.k
 go_enter Tryz.func18, Tryz.ntmps18
 go_wp2_with (first | ((with_reducible first | refine cM (HR1.out _ gO) ?_ | refine cM (HR2.out _ gO) ?_); clear k m; intro w m k) | ((with_reducible refine cU ?_); clear k m; intro w m k) | ((with_reducible refine wU ?_); clear k m; intro w m k))
 all_goals
  obtain ⟨b3, hb3e, hb3'⟩ := eq_ex m.out.got.1
  have hd1 : b3 ≠ wo.heap.size + 1 := hb3e ▸ gN w
  have hd2 : b3 ≠ wo.heap.size := hb3e ▸ gN w
  have hd3 : wo.heap.size ≤ b3 := hb3e ▸ m.out.n 0 rfl
  obtain ⟨v1, v2, hb3, hiv⟩ : ∃ v1 v2, w.heap[b3]? = some (.cells #[.int .i64 v1, .int .i64 v2] 45 (0, 0)) ∧ ((li : Int) ≤ s → v1 ≤ left ∧ left ≤ v2) := ⟨_, _, hb3', by omega⟩
  clear hb3'
  have hb1 := gB (w := w) (b := wo.heap.size)
  have hb2 := gB (w := w) (b := wo.heap.size + 1)
  have HIV := Lib.hid hiv
  clear hiv
  refine (HSN.out _ m.out.only).mono ?_
  rintro e w2 ⟨rfl, hcl2, ho2⟩
  have q1 := ho2.got hb1 (fun hm => by have := hP _ hm; omega)
  have q2 := ho2.got hb2 (fun hm => by have := hP _ hm; omega)
  have q3 := ho2.got hb3 (fun hm => by have := hP _ hm; omega)
  have O2 := Lib.hid ((m.out.only.weak (S' := P.all) (by simp)).trans ho2 (fun x hx => .inl hx))
  have HC1 := Lib.hid hcl2
  obtain ⟨bx, hbx⟩ : ∃ b, wo.heap.size = b := ⟨_, rfl⟩
  rw [hbx] at q1 q2 hd1 hd2 ⊢
  rw [hb3e]
  clear hb3e
  have HBX := Lib.hid hbx
  have hx1 : bx ∉ P.all := fun hm => by have := hP _ hm; omega
  have hx2 : bx + 1 ∉ P.all := fun hm => by have := hP _ hm; omega
  have HNX := Lib.hid (And.intro hx1 hx2)
  clear k m hb1 hb2 hb3 ho2 hcl2 hbx hx1 hx2
  obtain ⟨wq, hwq⟩ : ∃ wq : World, wq = w2 := ⟨_, rfl⟩
  subst hwq
  have m : Mm wq [] wq _ := ⟨(((Mem.start wq []).ext false q1 (by simp) (by simp)).ext false q2 (by simp) (by simp)).ext false q3 (by simp [hd1, hd2]) (by simp)⟩
  have k := m.out.k
  clear q1 q2 q3 hd1 hd2 hd3
  go_upto_region 10 with (first | ((with_reducible refine cU ?_); clear k m; intro w m k) | ((with_reducible refine wU ?_); clear k m; intro w m k))
 all_goals
  have HH := Lib.hid (fun w' => pHeader nonce lm hlm0.1 (by omega) w')
  unfold npV hdrN at HH
  dsimp only at HH
  have hpo : npOk (hdrN nonce (16750372454400000000 + lm * 4)) := by
   unfold npOk hdrN
   dsimp only
   omega
  have hrv := HMV.out.recv (k := s) (p := hdrN nonce (16750372454400000000 + lm * 4)) (iv := ⟨v1, v2⟩) (has := decide (v1 ≤ v2)) HF.out HT.out.2.2.2.2 HST.out.1.1 HST.out.1.2 hpo HS3.out (by rw [HRA.out]; exact HS4.out) HT.out.1 HT.out.2.1 HT.out.2.2.1 HIV.out
  rw [HRE.out] at hrv
  have HRC0 := Lib.hid (fun w' (o : Only [] wq w') => dRecv (HC1.out.kept o) HMV.out.u.ok re (by omega) (by omega) s (hdrN nonce (16750372454400000000 + lm * 4)) ⟨v1, v2⟩ (decide (v1 ≤ v2)) hpo)
  rw [hrv.1] at HRC0
  replace hrv := hrv.2
  generalize clRecv c1 s (hdrN nonce (16750372454400000000 + lm * 4)) ⟨v1, v2⟩ (decide (v1 ≤ v2)) re = r2 at HRC0 hrv
  obtain ⟨⟨⟨y1, y2, ⟨y3, y4, y5, y6⟩⟩, er2⟩, c2⟩ := r2
  unfold hdV npV ivV hdrN at HRC0
  dsimp only at HRC0 hrv
  have HTR := Lib.hid hrv
  clear hrv hpo
  obtain ⟨wa, hwa⟩ : ∃ wa : World, wa = w := ⟨_, rfl⟩
  subst hwa
  have OA := Lib.hid m.out.only
  have HPL := Lib.hid (show ∀ b ∈ P.all, b < wa.heap.size from fun b hb => Nat.lt_of_lt_of_le (HC1.out.lt b hb) OA.out.size)
  have HRC := Lib.hid (fun w' (o : Only [] wa w') => HRC0.out w' (OA.out.nil_trans o))
  have g1 := gB (w := wa) (b := bx)
  have g2 := gB (w := wa) (b := bx + 1)
  refine wp_region_calm3 [0, 1, 2, 3, 4, 5, 6, 7, 8, 9, 10, 11, 12, 13] [] [14, 19] (by kernel_rfl) (by kernel_rfl) ?_
  simp only [pick, List.map_cons, List.map_nil, List.getD_cons_succ, List.getD_cons_zero]
  (repeat (first | (refine wpCalmG_step (fun K hK => ?_); go_simp; refine hK _ ?_; clear hK K) | (refine cG (by kernel_rfl) ⟨_, _, _, fun w => by go_simp, fun w' o => HH.out w', ?_⟩)))
  refine wpCalmG_nil ?_
  refine wpCalm_nil ?_
  refine RestG.by (X := Nat) (fun y a => (((((a.put (some 104) (.tuple #[.agg #[.int .i64 y1, .string y2, .int .i64 y3, .int .i64 y4, .int .i64 y5, .int .i64 y6], .int .i64 0])).put (some 89) (.tuple #[.agg #[.int .i64 y1, .string y2, .int .i64 y3, .int .i64 y4, .int .i64 y5, .int .i64 y6], .int .i64 0])).put (some 105) (.agg #[.int .i64 y1, .string y2, .int .i64 y3, .int .i64 y4, .int .i64 y5, .int .i64 y6])).put (some 106) (.int .i64 0)).put (some 22) (.pointer (some ⟨y, 0, none⟩))).put (some 23) (.int .i64 0)) (fun y w' => ClAt w' P c2 ∧ Only P.all wa w') (fun y x1 x2 g o => ⟨g.1.kept o, g.2.nil_trans o⟩) ?_ ?_
  rotate_left
  ·have O0 := Lib.hid (Only.refl [] wa).drew
   clear k m
   refine wpAnyG_nexts [14, 18] (by kernel_rfl) (by simp) (.inr (onlyC O0.out)) ?_
   intro u1 ho
   replace O0 := Lib.hid (O0.out.nil_trans ho)
   clear ho
   simp only [List.mem_cons, List.not_mem_nil, or_false, forall_eq_or_imp, forall_eq]
   refine ⟨?_, ?_⟩
   ·refine wpOp_one rfl ?_
    go_wp2_with fail
    refine (HRC.out _ O0.out).mono ?_
    rintro e u2 ⟨rfl, hk, ho⟩
    have HK := Lib.hid hk
    replace O0 := Lib.hid ((O0.out.weak (S' := P.all) (by simp)).trans ho (fun x hx => .inl hx))
    clear hk ho
    go_wp2
    simp only [nrm]
    refine wpAnyG_move 15 (.tuple #[.agg #[.int .i64 y1, .string y2, .int .i64 y3, .int .i64 y4, .int .i64 y5, .int .i64 y6], .int .i64 0]) (fun _ x1 x2 ⟨y, e, g⟩ o => ⟨y, e, g.1.kept o, g.2.nil_trans o⟩) rfl (by kernel_rfl) (by kernel_rfl) (fun w => by go_simp) ?_
    refine wpAnyG_move 16 (.agg #[.int .i64 y1, .string y2, .int .i64 y3, .int .i64 y4, .int .i64 y5, .int .i64 y6]) (fun _ x1 x2 ⟨y, e, g⟩ o => ⟨y, e, g.1.kept o, g.2.nil_trans o⟩) rfl (by kernel_rfl) (by kernel_rfl) (fun w => by go_simp) ?_
    refine wpAnyG_move 17 (.int .i64 0) (fun _ x1 x2 ⟨y, e, g⟩ o => ⟨y, e, g.1.kept o, g.2.nil_trans o⟩) rfl (by kernel_rfl) (by kernel_rfl) (fun w => by go_simp) ?_
    refine wpAnyG_nexts [18] (by kernel_rfl) (by simp) (.inl (late_of (by kernel_rfl))) ?_
    intro u3 ho
    replace O0 := Lib.hid (O0.out.nil_trans ho)
    replace HK := Lib.hid (HK.out.kept ho)
    clear ho
    simp only [List.mem_cons, List.not_mem_nil, or_false, forall_eq]
    refine wpOp_one rfl ?_
    go_wp2
    simp only [nrm]
    refine alloc_abs (G := fun w0 => wpAnyG _ _ _ _ _ _ _ _ _ w0) ?_
    intro u4 hb ho _
    obtain ⟨y, hy⟩ : ∃ y, u3.heap.size = y := ⟨_, rfl⟩
    rw [hy] at hb
    rw [hy]
    have HY : Hid (wa.heap.size ≤ y) := Lib.hid (by rw [← hy]; exact O0.out.size)
    have HYP : Hid (y ∉ P.all) := Lib.hid (fun hm => by have := HPL.out y hm; have := HY.out; omega)
    have B0 := Lib.hid hb
    replace O0 := Lib.hid (O0.out.nil_trans ho)
    replace HK := Lib.hid (HK.out.kept ho)
    clear hb ho hy
    refine wpAnyG_nexts [19] (by kernel_rfl) (by simp) (.inl (late_of (by kernel_rfl))) ?_
    intro u5 ho
    replace O0 := Lib.hid (O0.out.nil_trans ho)
    replace HK := Lib.hid (HK.out.kept ho)
    replace B0 := Lib.hid (ho.got B0.out (by simp))
    clear ho
    simp only [List.mem_cons, List.not_mem_nil, or_false, forall_eq]
    refine wpOp_one rfl ?_
    have kb := c_6 B0.out
    go_wp2
    simp only [nrm]
    clear kb
    have HS := set_only (b := y) (S := [y]) (by simp) [(0, .int .i64 y1), (1, .string y2), (2, .int .i64 y3), (3, .int .i64 y4), (4, .int .i64 y5), (5, .int .i64 y6)] (Only.refl [y] u5)
    simp only [List.foldl_cons, List.foldl_nil] at HS
    generalize (World.setCell (World.setCell (World.setCell (World.setCell (World.setCell (World.setCell u5 ⟨y, 0, none⟩ (.int .i64 y1)) ⟨y, 1, none⟩ (.string y2)) ⟨y, 2, none⟩ (.int .i64 y3)) ⟨y, 3, none⟩ (.int .i64 y4)) ⟨y, 4, none⟩ (.int .i64 y5)) ⟨y, 5, none⟩ (.int .i64 y6)) = u6 at HS ⊢
    replace HK := Lib.hid (HK.out.off HS (fun b hb hm => HYP.out (List.mem_singleton.1 hm ▸ hb)))
    replace O0 := Lib.hid (O0.out.trans HS (fun x hx => .inr (by rw [List.mem_singleton.1 hx]; exact HY.out)))
    clear HS B0
    refine wpAnyG_move 20 (.int .i64 0) (fun _ x1 x2 ⟨y, e, g⟩ o => ⟨y, e, g.1.kept o, g.2.nil_trans o⟩) rfl (by kernel_rfl) (by kernel_rfl) (fun w => by go_simp) ?_
    exact wpAnyG_done (by kernel_rfl) (.inl (late_of (by kernel_rfl))) ⟨y, by simp [Act.put], HK.out, O0.out⟩
   ·refine wpOp_one rfl ?_
    go_wp2
    simp only [nrm]
    refine alloc_abs (G := fun w0 => wpAnyG _ _ _ _ _ _ _ _ _ w0) ?_
    intro u7 hb ho _
    obtain ⟨y, hy⟩ : ∃ y, u1.heap.size = y := ⟨_, rfl⟩
    rw [hy] at hb
    rw [hy]
    have HY : Hid (wa.heap.size ≤ y) := Lib.hid (by rw [← hy]; exact O0.out.size)
    have HYP : Hid (y ∉ P.all) := Lib.hid (fun hm => by have := HPL.out y hm; have := HY.out; omega)
    have B0 := Lib.hid hb
    replace O0 := Lib.hid (O0.out.nil_trans ho)
    clear hb ho hy
    refine wpAnyG_nexts [14] (by kernel_rfl) (by simp) (.inr (onlyC O0.out)) ?_
    intro u8 ho
    replace O0 := Lib.hid (O0.out.nil_trans ho)
    replace B0 := Lib.hid (ho.got B0.out (by simp))
    clear ho
    simp only [List.mem_cons, List.not_mem_nil, or_false, forall_eq]
    refine wpOp_one rfl ?_
    go_wp2_with fail
    refine (HRC.out _ O0.out).mono ?_
    rintro e u9 ⟨rfl, hk, ho⟩
    have HK := Lib.hid hk
    replace O0 := Lib.hid ((O0.out.weak (S' := P.all) (by simp)).trans ho (fun x hx => .inl hx))
    replace B0 := Lib.hid (ho.got B0.out HYP.out)
    clear hk ho
    go_wp2
    simp only [nrm]
    refine wpAnyG_move 15 (.tuple #[.agg #[.int .i64 y1, .string y2, .int .i64 y3, .int .i64 y4, .int .i64 y5, .int .i64 y6], .int .i64 0]) (fun _ x1 x2 ⟨y, e, g⟩ o => ⟨y, e, g.1.kept o, g.2.nil_trans o⟩) rfl (by kernel_rfl) (by kernel_rfl) (fun w => by go_simp) ?_
    refine wpAnyG_move 16 (.agg #[.int .i64 y1, .string y2, .int .i64 y3, .int .i64 y4, .int .i64 y5, .int .i64 y6]) (fun _ x1 x2 ⟨y, e, g⟩ o => ⟨y, e, g.1.kept o, g.2.nil_trans o⟩) rfl (by kernel_rfl) (by kernel_rfl) (fun w => by go_simp) ?_
    refine wpAnyG_move 17 (.int .i64 0) (fun _ x1 x2 ⟨y, e, g⟩ o => ⟨y, e, g.1.kept o, g.2.nil_trans o⟩) rfl (by kernel_rfl) (by kernel_rfl) (fun w => by go_simp) ?_
    refine wpAnyG_nexts [19] (by kernel_rfl) (by simp) (.inl (late_of (by kernel_rfl))) ?_
    intro u10 ho
    replace O0 := Lib.hid (O0.out.nil_trans ho)
    replace HK := Lib.hid (HK.out.kept ho)
    replace B0 := Lib.hid (ho.got B0.out (by simp))
    clear ho
    simp only [List.mem_cons, List.not_mem_nil, or_false, forall_eq]
    refine wpOp_one rfl ?_
    have kb := c_6 B0.out
    go_wp2
    simp only [nrm]
    clear kb
    have HS := set_only (b := y) (S := [y]) (by simp) [(0, .int .i64 y1), (1, .string y2), (2, .int .i64 y3), (3, .int .i64 y4), (4, .int .i64 y5), (5, .int .i64 y6)] (Only.refl [y] u10)
    simp only [List.foldl_cons, List.foldl_nil] at HS
    generalize (World.setCell (World.setCell (World.setCell (World.setCell (World.setCell (World.setCell u10 ⟨y, 0, none⟩ (.int .i64 y1)) ⟨y, 1, none⟩ (.string y2)) ⟨y, 2, none⟩ (.int .i64 y3)) ⟨y, 3, none⟩ (.int .i64 y4)) ⟨y, 4, none⟩ (.int .i64 y5)) ⟨y, 5, none⟩ (.int .i64 y6)) = u11 at HS ⊢
    replace HK := Lib.hid (HK.out.off HS (fun b hb hm => HYP.out (List.mem_singleton.1 hm ▸ hb)))
    replace O0 := Lib.hid (O0.out.trans HS (fun x hx => .inr (by rw [List.mem_singleton.1 hx]; exact HY.out)))
    clear HS B0
    refine wpAnyG_move 20 (.int .i64 0) (fun _ x1 x2 ⟨y, e, g⟩ o => ⟨y, e, g.1.kept o, g.2.nil_trans o⟩) rfl (by kernel_rfl) (by kernel_rfl) (fun w => by go_simp) ?_
    exact wpAnyG_done (by kernel_rfl) (.inl (late_of (by kernel_rfl))) ⟨y, by simp [Act.put], HK.out, O0.out⟩
  rintro yb w3 ⟨hcl3, ho3⟩
  simp only [Act.put, List.setIfInBounds_toArray, List.set_cons_succ, List.set_cons_zero]
  have q1 := ho3.got g1 HNX.out.1
  have q2 := ho3.got g2 HNX.out.2
  have O3 := Lib.hid (O2.out.trans ((OA.out.weak (S' := P.all) (by simp)).trans ho3 (fun x hx => .inl hx)) (fun x hx => .inl hx))
  have HC3 := Lib.hid hcl3
  clear k m g1 g2 hcl3 ho3
  have m : Mm w3 [] w3 _ := ⟨((Mem.start w3 []).ext false q1 (by simp) (by simp)).ext false q2 (by simp) (by simp)⟩
  have k := m.out.k
  clear q1 q2
  cases u with
  | false =>
   go_wp2_with (first | ((with_reducible refine cU ?_); clear k m; intro w m k) | ((with_reducible refine wU ?_); clear k m; intro w m k) | ((with_reducible refine lE (fun w o g k K hK => ⟨rfl, ?_⟩)); simp [results, Tryz.results18, go_sem]; refine hK _ ?_; clear hK K k; skip; exact ⟨rfl, ⟨P, c2, rfl, HC3.out.kept o, HTR.out, fun b hb => .inl hb⟩, O3.out.trans o (by simp)⟩))
  | true =>
   have HUP := Lib.hid (fun w' (o : Only [] w3 w') => pUpdate (HC3.out.kept o) HTR.out.u.ok HTR.out.u.sv HTR.out.u.g HTR.out.u.tol HTR.out.u.kp HTR.out.u.rd re (by omega) (by omega))
   go_wp2_with (first | ((with_reducible refine cU ?_); clear k m; intro w m k) | ((with_reducible refine wU ?_); clear k m; intro w m k))
   refine (HUP.out _ m.out.only).mono ?_
   rintro e w4 ⟨⟨ak, av⟩, er4, c4, rfl, hup, ⟨P4, hp4, hcl4, hge4⟩, ho4⟩
   rw [← HRE.out] at hup
   have HTR4 := Lib.hid (HTR.out.upd HF.out HT.out.2.2.2.1 HT.out.2.2.2.2 HST.out.2 hup)
   have hsz4 : wo.heap.size ≤ w3.heap.size := O3.out.size
   have O4 := Lib.hid ((O3.out.trans m.out.only (by simp)).trans ho4 (fun x hx => .inl hx))
   have HC4 := Lib.hid hcl4
   have HG4 := Lib.hid (show ∀ b ∈ P4.all, b ∈ P.all ∨ wo.heap.size ≤ b from fun b hb => (hge4 b hb).imp_right (fun q => Nat.le_trans hsz4 q))
   have HP4 := Lib.hid hp4
   clear k m hup hp4 hcl4 hge4 ho4 hsz4
   unfold acV
   dsimp only
   have m := mm0 w4 []; have k := m.out.k
   go_wp2_with (first | ((with_reducible refine cU ?_); clear k m; intro w m k) | ((with_reducible refine wU ?_); clear k m; intro w m k) | ((with_reducible refine lE (fun w o g k K hK => ⟨rfl, ?_⟩)); simp [results, Tryz.results18, go_sem]; refine hK _ ?_; clear hK K k; skip; exact ⟨rfl, ⟨P4, c4, HP4.out, HC4.out.kept o, HTR4.out, HG4.out⟩, O4.out.trans o (by simp)⟩))
end Go.Proofs.YtikjdmbfjkbndaaGreat
