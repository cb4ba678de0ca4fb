/- Texts of one chain: Ec, Ef, Eg. Conditions: those named in each theorem. -/
import Derived.Test.YtikjdmbfjkbndaaGreatVk
namespace Go.Proofs.YtikjdmbfjkbndaaGreat
open Go.RowKit Go.Sort

def Pl.bs (P : Pl) : List Nat := P.ps.map (·.1)
/-- where the loop over the kept servers stands -/
def AdI (w : World) (P : Pl) (c : Cl) (off jit : Int) (kept : List Cd) (vi : Value) (wr : World) : Prop :=
 ∃ k : Nat, k ≤ kept.length ∧ vi = .int .i64 k ∧ ClAt wr P { c with srcs := adR off jit (kept.take k) c.srcs } ∧ Only P.bs w wr
theorem smpE_bd {s : Sv} (h : SvOk s) {off span : Int} (he : (smpE s off span).2.1 = 0) : SvOk (smpE s off span).2.2 ∧ (((smpE s off span).1.kind = 2 ∧ -1125899906842624 ≤ (smpE s off span).1.val ∧ (smpE s off span).1.val ≤ 1125899906842624) ∨ ((smpE s off span).1.kind = 1 ∧ -500000 ≤ (smpE s off span).1.val ∧ (smpE s off span).1.val ≤ 500000)) := by
 have l0 := h.l0; have l1 := h.l1
 unfold smpE at he ⊢
 split
 ·rename_i hw
  have hb := wth_iff.1 hw.1
  dsimp only
  unfold smpS
  split
  ·exact ⟨⟨h.kp0, h.kp1, h.ki0, h.ki1, l0, l1, h.sf, h.sl, h.i0, h.i1⟩, .inl ⟨rfl, hb⟩⟩
  ·have a := clampI_bd (n := s.itg + gnS s.c.ki (slS off span)) (lo := -s.c.lim) (hi := s.c.lim) (by omega)
   have b := clampI_bd (n := gnS s.c.kp (slS off span) + itS s (slS off span)) (lo := -s.c.lim) (hi := s.c.lim) (by omega)
   refine ⟨⟨h.kp0, h.kp1, h.ki0, h.ki1, l0, l1, h.sf, h.sl, a.1, a.2⟩, .inr ⟨rfl, ?_⟩⟩
   dsimp only
   unfold frS
   omega
 ·rename_i hw
  rw [if_neg hw] at he
  exact absurd he (by simp)
theorem smpE_no {s : Sv} {off span : Int} (he : (smpE s off span).2.1 ≠ 0) : smpE s off span = (⟨0, 0⟩, 3, s) := by
 unfold smpE at he ⊢
 split
 ·rename_i hw
  rw [if_pos hw] at he
  exact absurd rfl he
 ·rfl
theorem modify_set {α : Type} {l : List α} {i : Nat} (h : i < l.length) (f : α → α) : l.modify i f = l.set i (f l[i]) := by
 apply List.ext_getElem
 ·simp
 ·intro j h1 h2
  rw [List.getElem_modify, List.getElem_set]
  split
  ·rename_i e; subst e; rfl
  ·rfl
theorem row_cd {w : World} {g cap : Nat} {l : List Cd} (hr : RowAt cdC 126 5 w g cap l) {j : Nat} (hj : j < l.length) : CdF w g (j * 5) l[j] := by
 obtain ⟨b, off, hp, _, HC⟩ := (hr.vrow cdC_len rfl).at (show 0 < l.length by omega)
 obtain ⟨rfl, rfl⟩ : g = b ∧ 0 = off := by simpa using hp
 have := HC j hj w (Only.refl [] w)
 rwa [Nat.zero_add] at this
theorem bs_all {P : Pl} {b : Nat} (h : b ∈ P.bs) : b ∈ P.all := by
 obtain ⟨p, h1, h2⟩ := List.mem_map.1 h
 unfold Pl.all
 simp only [List.mem_cons]
 exact .inr (.inr (.inr (.inr (List.mem_flatMap.2 ⟨p, h1, by rw [← h2]; simp⟩))))
/-- one server's own block changes -/
theorem ClAt.putR {w w' : World} {P : Pl} {c : Cl} {s' : Sr} (h : ClAt w P c) (i : Nat) (hi : i < P.ps.length) (ho : Only [P.ps[i].1] w w') (hb : SrB w' P.ps[i].1 P.ps[i].2.1 P.ps[i].2.2 s') (h1 : s'.sa = (c.srcs[i]'(h.len ▸ hi)).sa) (h2 : s'.fl = (c.srcs[i]'(h.len ▸ hi)).fl) : ClAt w' P { c with srcs := c.srcs.set i s' } := by
 have hs := h.src i hi (h.len ▸ hi)
 have hq : ∀ {l : List (Nat × Nat × Nat)}, (l.flatMap fun p => [p.1, p.2.1, p.2.2]).Nodup → ∀ p ∈ l, p.1 ≠ p.2.1 ∧ p.1 ≠ p.2.2 := by
  intro l
  induction l with
  | nil => simp
  | cons a l ih =>
   intro hn p hp
   rw [List.flatMap_cons, List.nodup_append] at hn
   rcases List.mem_cons.1 hp with rfl | hp
   ·have := hn.1; simp only [List.nodup_cons, List.mem_cons, not_or] at this; exact ⟨this.1.1, this.1.2.1⟩
   ·exact ih hn.2.1 p hp
 have hnd := h.nd
 unfold Pl.all at hnd
 simp only [List.nodup_cons] at hnd
 obtain ⟨q1, q2⟩ := hq hnd.2.2.2.2 _ (List.getElem_mem hi)
 exact h.putS i hi ho (by simp) ⟨hb, by rw [h1]; exact hs.a.kept ho (by simpa using q1.symm), by rw [h2]; exact hs.f.kept ho (by simpa using q2.symm)⟩
/-- the filters that are new already -/
def frK (c : Cl) (k : Nat) : List Sr := (freshF c).take k ++ c.srcs.drop k
theorem frK_len (c : Cl) (k : Nat) (h : k ≤ c.srcs.length) : (frK c k).length = c.srcs.length := by
 unfold frK freshF
 simp; omega
theorem frK_at {c : Cl} {k : Nat} (h : k < c.srcs.length) : (frK c k)[k]'(by rw [frK_len c k (by omega)]; exact h) = c.srcs[k] := by
 unfold frK
 rw [List.getElem_append_right (by simp [freshF]; omega)]
 simp [freshF, Nat.min_eq_left (Nat.le_of_lt h)]
theorem frK_succ {c : Cl} {k : Nat} (h : k < c.srcs.length) : frK c (k + 1) = (frK c k).set k { c.srcs[k] with fl := ⟨c.cf.tol, []⟩ } := by
 unfold frK
 rw [List.set_append_right _ _ (by simp [freshF]; omega), show k - ((freshF c).take k).length = 0 by simp [freshF]; omega, List.drop_eq_getElem_cons h, List.set_cons_zero, take_snoc _ (by simpa [freshF] using h)]
 simp [freshF]
theorem frK_end (c : Cl) : frK c c.srcs.length = freshF c := by
 unfold frK
 rw [List.take_of_length_le (by simp [freshF]), List.drop_of_length_le (Nat.le_refl _), List.append_nil]
def FrI (w : World) (B : Nat) (P : Pl) (c : Cl) (vi : Value) (wr : World) : Prop :=
 ∃ (k : Nat) (P' : Pl), k ≤ P.ps.length ∧ vi = .int .i64 k ∧ P'.bc = P.bc ∧ P'.g = P.g ∧ P'.ps.map (·.1) = P.ps.map (·.1) ∧ ClAt wr P' { c with srcs := frK c k } ∧ (∀ b ∈ P'.all, b ∈ P.all ∨ B ≤ b) ∧ Only P.bs w wr
set_option maxRecDepth 100000 in
set_option maxHeartbeats 8000000 in
theorem pSteer {w : World} {P : Pl} {c : Cl} {g cap : Nat} {kept : List Cd} (h : ClAt w P c) (hck : CkOk c.ck) (hsv : SvOk c.sv) (hn : P.ps.length ≤ 12) (htol : 0 ≤ c.cf.tol ∧ c.cf.tol ≤ 500000)
  (hr : RowAt cdC 126 5 w g cap kept) (hgo : g ∉ P.all) (hg : Gd kept) (h0 : 0 < kept.length) (hid : ∀ k ∈ kept, k.id < P.ps.length)
  (raw now off : Int) (r0 : -9223372036854775808 ≤ raw) (r1 : raw ≤ 9223372036854775807) (n0 : -4503599627370496 ≤ now ∧ now ≤ 4503599627370496) (n1 : -4503599627370496 ≤ c.rd ∧ c.rd ≤ 4503599627370496) (o0 : -112589990684262400 ≤ off ∧ off ≤ 112589990684262400) :
  Calls Tryz.prog 53 #[.pointer (some ⟨P.bc, 0, none⟩), .int .i64 raw, .int .i64 now, .int .i64 off, .slice (some ⟨g, 0, none⟩) kept.length cap] w fun e w' => e = .returned (.tuple #[acV (strC c raw now off kept).1, .int .i64 (strC c raw now off kept).2.1]) ∧ (∃ P', P'.bc = P.bc ∧ ClAt w' P' (strC c raw now off kept).2.2 ∧ (∀ b ∈ P'.all, b ∈ P.all ∨ w.heap.size ≤ b)) ∧ Only P.all w w' := by
 have HC := Lib.hid h; have HSV := Lib.hid hsv; have HR := Lib.hid hr; have HG := Lib.hid hg; have HCK := Lib.hid hck
 have hgl := hr.lt
 have hkl := hg.len
 obtain ⟨res, HE⟩ : ∃ q, Hid (strC c raw now off kept = q) := ⟨_, Lib.hid rfl⟩
 rw [HE.out]
 unfold strC at HE
 have q1 : IntKind.i64.wrap (now - c.rd) = now - c.rd := by rw [IntKind.wrap_i64]; omega
 obtain ⟨sp, hsp⟩ : ∃ sp, spnC c now = sp := ⟨_, rfl⟩
 rw [hsp] at HE
 have HSP := Lib.hid hsp
 unfold spnC at hsp
 have HBC := Lib.hid h.cl
 have HLT := Lib.hid h.lt
 have hsb : 1 ≤ sp ∧ sp ≤ 1125899906842624 := by rw [← hsp]; split <;> omega
 obtain ⟨st, hst⟩ : ∃ st, c.st = st := ⟨_, rfl⟩
 rw [hst] at hsp
 have HST := Lib.hid hst
 have hcl := h.cl
 unfold ClB at hcl
 rw [hst] at hcl
 clear hst h hsv hr hg hck
 obtain ⟨wo, hwo⟩ : ∃ wo : World, wo = w := ⟨_, rfl⟩
 subst hwo
 have m := mm1 hcl; have k := m.out.k
 clear hcl
 have HS := Lib.hid (fun (w2 : World) (hs : SvAt w2 P.bv c.sv) => pSample hs HSV.out off sp)
 have HM := Lib.hid (show strM c now off kept = { c with st := true, rd := now, sv := (smpE c.sv off sp).2.2, srcs := adR off (jitC kept) kept c.srcs, rt := rootC (adR off (jitC kept) kept c.srcs) kept } by unfold strM; rw [HSP.out])
 have HB := Lib.hid (fun (he : (smpE c.sv off sp).2.1 = 0) => smpE_bd HSV.out he)
 have HNO := Lib.hid (fun (he : (smpE c.sv off sp).2.1 ≠ 0) => smpE_no he)
 generalize strM c now off kept = cm at HE HM
 generalize smpE c.sv off sp = se at HS HE HM HB HNO
 obtain ⟨⟨ak, av⟩, er, sv2⟩ := se
 unfold acV at HS ⊢
 dsimp only at HS HE HM HB HNO
 have HND := Lib.hid (pl_nd HC.out)
 have hbv : P.bv ∉ [P.bc] := by simpa using HND.out.2.1.symm
 have hrb : ∀ b ∈ P.all, b < wo.heap.size := HLT.out
 have hrg : g ∉ [wo.heap.size] := by simp; omega
 have hgbc : g ∉ [P.bc] := fun hm => hgo (by rw [List.mem_singleton.1 hm]; simp [Pl.all])
 have hgbv : g ∉ [P.bv] := fun hm => hgo (by rw [List.mem_singleton.1 hm]; simp [Pl.all])
 have hrv : wo.heap.size ∉ [P.bv] := by have := hrb P.bv (by simp [Pl.all]); simp; omega
 have HRB := Lib.hid (show ∀ b ∈ P.all, b ∉ [wo.heap.size] from fun b hb hm => by have := hrb b hb; rw [List.mem_singleton.1 hm] at this; omega)
 cases st
 all_goals (try simp only [Bool.false_eq_true, if_false] at hsp)
 all_goals (try simp only [if_true] at hsp)
 all_goals subst hsp
 all_goals go_enter Tryz.func53, Tryz.ntmps53
 all_goals go_wp2_with (first | ((with_reducible refine cU ?_); clear k m; intro w m k) | ((with_reducible refine wU ?_); clear k m; intro w m k))
 all_goals refine (HS.out _ (m.out.only.got HC.out.sv hbv)).mono ?_
 all_goals rintro e w2 ⟨rfl, hsv2, ho2⟩
 all_goals have HC1 := Lib.hid (HC.out.putB (c' := { c with st := true, rd := now }) m.out.only (by unfold ClB; exact gB) rfl rfl rfl)
 all_goals have HLW : Hid (wo.heap.size < w.heap.size) := Lib.hid (got_lt (gB (w := w) (b := wo.heap.size)))
 all_goals have HLW2 : Hid (w.heap.size ≤ w2.heap.size) := Lib.hid ho2.size
 all_goals have HC2 := Lib.hid (HC1.out.putV ho2 hsv2)
 all_goals have O2 := Lib.hid ((m.out.only.weak (S' := P.all) (by simp [Pl.all])).trans ho2 (by simp [Pl.all]))
 all_goals have HR2 := Lib.hid ((HR.out.kept m.out.only hgbc).kept ho2 hgbv)
 all_goals have hb2 : w2.heap[wo.heap.size]? = some (.cells #[.int .i64 0, .int .i64 0] 73 (0, 0)) := ho2.got (gB (w := w)) hrv
 all_goals clear k m HC1 HS HC HR ho2 hsv2
 all_goals (obtain ⟨wq, hwq⟩ : ∃ wq : World, wq = w2 := ⟨_, rfl⟩; subst hwq)
 all_goals have m := mm1 hb2
 all_goals have k := m.out.k
 all_goals clear hb2
 all_goals have hrs : ∀ (x : Nat), x ∈ [wo.heap.size] → x ∈ P.all ∨ wo.heap.size ≤ x := fun x hx => .inr (by rw [List.mem_singleton.1 hx]; exact Nat.le_refl _)
 all_goals by_cases he : er = 0
 all_goals try (
  have hx := HNO.out he
  simp only [Prod.mk.injEq, Ac.mk.injEq] at hx
  obtain ⟨⟨rfl, rfl⟩, rfl, rfl⟩ := hx
  have he2 := HE.out
  rw [if_neg he] at he2
  subst he2
  go_wp2_with (first | ((with_reducible refine wU ?_); clear k m; intro w m k) | ((with_reducible refine lE (fun w o g k K hK => ⟨rfl, ?_⟩)); simp [results, Tryz.results53, go_sem, k]; refine hK _ ?_; clear hK K k; skip; exact ⟨rfl, ⟨P, rfl, HC2.out.off o HRB.out, fun b hb => .inl hb⟩, O2.out.trans o hrs⟩))
  done)
 all_goals subst he
 all_goals have HJ := Lib.hid (fun w' (o : Only [wo.heap.size] wq w') => pJitter ((HR2.out.kept o hrg).vrow cdC_len rfl) HG.out h0)
 all_goals go_wp2_with (first | ((with_reducible refine cU ?_); clear k m; intro w m k) | ((with_reducible first | refine cM (HJ.out _ gO) ?_); clear k m; intro w m k) | ((with_reducible refine wU ?_); clear k m; intro w m k))
 all_goals have OA := Lib.hid (O2.out.trans m.out.only hrs)
 all_goals (obtain ⟨wl, hwl⟩ : ∃ wl : World, wl = w := ⟨_, rfl⟩; subst hwl)
 all_goals have HC3 := Lib.hid (HC2.out.off m.out.only HRB.out)
 all_goals have HR3 := Lib.hid (HR2.out.kept m.out.only hrg)
 all_goals have M3 := Lib.hid m
 all_goals have hgbs : g ∉ P.bs := fun hm => hgo (by obtain ⟨p, h1, h2⟩ := List.mem_map.1 hm; unfold Pl.all; simp only [List.mem_cons]; exact .inr (.inr (.inr (.inr (List.mem_flatMap.2 ⟨p, h1, by rw [← h2]; simp⟩)))))
 all_goals clear k m HC2 HR2 HJ HRB
 all_goals (obtain ⟨c1, hc1⟩ : ∃ c1, ({ c with st := true, rd := now, sv := sv2 } : Cl) = c1 := ⟨_, rfl⟩)
 all_goals have HC1 := Lib.hid hc1
 all_goals rw [hc1] at HC3
 all_goals clear hc1
 all_goals have hjb := jit_bd HG.out h0
 all_goals (generalize jitC kept = jit at HM hjb ⊢)
 all_goals have hjb : 0 ≤ jit ∧ jit ≤ 9223372036854775807 := by omega
 all_goals go_loopw [60] (fun vi wr => AdI wl P c1 off jit kept vi wr) (fun vi _ => kept.length - (intOf vi).toNat)
 all_goals try (case atStart => exact ⟨0, Nat.zero_le _, rfl, HC3.out, Only.refl _ _⟩)
 all_goals (
  obtain ⟨j, hk, rfl, hcl, ho⟩ := hrel
  by_cases hlt : j < kept.length
  ·have hkd := hid _ (List.getElem_mem hlt)
   have hkp := (okC_bd (HG.out.ok _ (List.getElem_mem hlt))).1
   have HSN := Lib.hid (show adR off jit (kept.take (j + 1)) c1.srcs = (adR off jit (kept.take j) c1.srcs).modify kept[j].id.toNat (adS off jit) by rw [take_snoc kept hlt, adR_snoc])
   have HKC := fun (pb : Nat) (hpb : g ∉ [pb]) w' (o : Only [pb] wr w') => row_cd ((HR3.out.kept ho hgbs).kept o hpb) hlt
   generalize kept[j] = kd at hkd hkp HSN HKC
   obtain ⟨kid, ko, kd2, kj, ks⟩ := kd
   dsimp only at hkd hkp HSN HKC
   obtain ⟨i, rfl⟩ : ∃ i : Nat, kid = (i : Int) := ⟨kid.toNat, by omega⟩
   rw [Int.toNat_natCast] at HSN
   have hi : i < P.ps.length := by omega
   have OO := Lib.hid ho
   generalize adR off jit (kept.take j) c1.srcs = sl at hcl HSN
   have hic : i < sl.length := by have := hcl.len; dsimp only at this; omega
   have hsb := (hcl.src i hi hic).b
   have HPR := Lib.hid (fun w' s' => hcl.putR (w' := w') (s' := s') i hi)
   have HND2 := (pl_nd hcl).2.2.2.2.2.2 _ (List.getElem_mem hi)
   have hbm : P.ps[i].1 ∈ P.bs := List.mem_map.2 ⟨_, List.getElem_mem hi, rfl⟩
   have hpg : g ≠ P.ps[i].1 := fun e => hgbs (e ▸ hbm)
   have cg : wr.cell? ⟨P.g, i, none⟩ = some (.pointer (some ⟨P.ps[i].1, 0, none⟩)) := by
    have := hcl.row.cell ptrC_len (i := i) (j := 0) (x := P.ps[i].1) (by rw [List.getElem?_map, List.getElem?_eq_getElem hi]; rfl) (by decide)
    simpa [ptrC] using this
   have lg := hcl.row.lt
   have hcb := hcl.cl
   have HSN2 := Lib.hid (show adR off jit (kept.take (j + 1)) c1.srcs = sl.set i (adS off jit sl[i]) by rw [HSN.out, modify_set hic])
   dsimp only at hsb HPR
   generalize P.ps[i] = pp at hsb HPR HND2 hbm hpg cg
   obtain ⟨pb, pa, pf⟩ := pp
   generalize sl[i] = sv0 at hsb HPR HSN2
   dsimp only at hsb HPR HND2 hbm hpg cg
   have hn1 := (HND2 pb (by simp)).1
   have hn2 := (HND2 pb (by simp)).2.2.2
   have HX := Lib.hid (fun w' (o : Only [pb] wr w') => And.intro (c_25 (o.got hcb (by simpa using hn1))) (And.intro (Nat.lt_of_lt_of_le lg o.size) (And.intro ((o.cell lg (by simpa using hn2)).trans cg) (HKC pb (by simpa using hpg) w' o))))
   unfold SrB at hsb HPR
   dsimp only [adS] at HPR HSN2
   obtain ⟨sa, fl, hr, hp, ⟨b1, b2, b3, b4, b5⟩, sent, ⟨e1, e2, e3, e4, e5, e6, e7, e8, e9, ea, eb, ec, ed⟩, ⟨t1, t2, t3, t4⟩, ⟨v1, v2⟩, pat⟩ := sv0
   have HA := Lib.hid (pAdapt ⟨b1, b2, b3, b4, b5⟩ off jit (by omega) (by omega) hjb.2)
   dsimp only at hsb HPR HSN2
   generalize radapt ⟨b1, b2, b3, b4, b5⟩ off jit = rn at HA HSN2
   obtain ⟨y1, y2, y3, y4, y5⟩ := rn
   unfold rcV at HA
   dsimp only at HA HSN2
   have HPR := Lib.hid (fun w' ho hb => HPR.out w' ⟨sa, fl, hr, hp, ⟨y1, y2, y3, y4, y5⟩, sent, ⟨e1, e2, e3, e4, e5, e6, e7, e8, e9, ea, eb, ec, ed⟩, ⟨t1, t2, t3, t4⟩, ⟨v1, v2⟩, pat⟩ ho hb rfl rfl)
   have HBM := Lib.hid hbm
   have m := mm1 hsb; have k := m.out.k; have c := HX.out wr (Only.refl _ wr)
   have hi2 : (i : Int) < (P.ps.length : Int) := by omega
   clear hsb hcb lg cg hn1 hn2 hpg hbm HND2 hcl ho hkd hkp hic HKC
   go_wp2_with (first | ((with_reducible refine cU ?_); clear k m c; intro w m k; have c := HX.out w m.out.only) | ((with_reducible first | refine cM (HA.out _) ?_); clear k m c; intro w m k; have c := HX.out w m.out.only) | ((with_reducible refine rG (id := 12) [0, 1, 2, 3, 4, 5, 6, 7, 8] [] (by kernel_rfl) (by kernel_rfl) ?_); simp only [pick, List.map_cons, List.map_nil, List.getD_cons_succ, List.getD_cons_zero]; (repeat' (first | go_big_quiet_step (fail) | (refine wpQuiet_step (fun K hK => ?_); go_simp; (first | (refine hK _ ?_; clear hK K) | (split <;> (refine hK _ ?_; clear hK K)))))); all_goals (refine wpQuiet_nil ?_; clear k m c; intro w m k; have c := HX.out w m.out.only)) | ((with_reducible refine wU ?_); clear k m c; intro w m k; have c := HX.out w m.out.only) | (go_roundw; (case rel => exact ⟨j + 1, by omega, by go_num, by rw [HSN2.out]; exact HPR.out _ gO gB, OO.out.trans gO (fun x hx => .inl (by rw [List.mem_singleton.1 hx]; exact HBM.out))⟩); (case measure => first | (simp [intOf]; done) | (simp [intOf]; omega))))
  ·obtain rfl : j = kept.length := by omega
   rw [List.take_length] at hcl
   have HC4 := Lib.hid hcl
   have HR4 := Lib.hid (HR3.out.kept ho hgbs)
   have OO := Lib.hid ho
   have HJS : True := trivial
   have hid0 : ((ordC kept).headD default) ∈ kept := (ordC_perm kept).subset (by
    have hl := (ordC_perm kept).length_eq
    rw [headD_get (show 0 < (ordC kept).length by omega)]
    exact List.getElem_mem _)
   have hkd := hid _ hid0
   have hkp := (okC_bd (HG.out.ok _ hid0)).1
   obtain ⟨i, hie⟩ : ∃ i : Nat, ((ordC kept).headD default).id = (i : Int) := ⟨((ordC kept).headD default).id.toNat, by omega⟩
   rw [hie] at hkd
   clear HJS
   have hi : i < P.ps.length := by omega
   have hi2 : (i : Int) < (P.ps.length : Int) := hkd
   obtain ⟨sl, hsl⟩ : ∃ sl, adR off jit kept c1.srcs = sl := ⟨_, rfl⟩
   rw [hsl] at HC4 hcl
   have hic : i < sl.length := by have := hcl.len; dsimp only at this; omega
   have HRT := Lib.hid (show rootC sl kept = sl[i].rt by unfold rootC; rw [hie, Int.toNat_natCast, List.getElem?_eq_getElem hic])
   have hsb := (hcl.src i hi hic).b
   have HND2 := (pl_nd hcl).2.2.2.2.2.2 _ (List.getElem_mem hi) P.ps[i].1 (by simp)
   have hbm : P.ps[i].1 ∈ P.all := bs_all (List.mem_map.2 ⟨_, List.getElem_mem hi, rfl⟩)
   have cg : wr.cell? ⟨P.g, i, none⟩ = some (.pointer (some ⟨P.ps[i].1, 0, none⟩)) := by
    have := hcl.row.cell ptrC_len (i := i) (j := 0) (x := P.ps[i].1) (by rw [List.getElem?_map, List.getElem?_eq_getElem hi]; rfl) (by decide)
    simpa [ptrC] using this
   have lg := hcl.row.lt
   have hcb := hcl.cl
   have hbr : wo.heap.size ∉ P.bs := fun hm => by have := hrb _ (bs_all hm); omega
   have hba : wq.heap.size ∉ P.bs := fun hm => by have := hrb _ (bs_all hm); have := HLW.out; have := HLW2.out; omega
   have hx1 := ho.got M3.out.out.got.1 hba
   have hx2 := ho.got M3.out.out.got.2.1 hbr
   have hgl2 := hrb P.g (by simp [Pl.all])
   have hbl2 := hrb P.bc (by simp [Pl.all])
   have hpl2 := hrb _ hbm
   have hq1 := HLW.out
   have hq2 := HLW2.out
   have hq3 := HND2.1
   have hq4 := HND2.2.2.2
   have hq5 := HND.out.2.2.1
   dsimp only at hsb
   generalize P.ps[i] = pp at hsb HND2 hbm cg hpl2 hq3 hq4
   obtain ⟨pb, pa, pf⟩ := pp
   generalize sl[i] = sv0 at hsb HRT
   dsimp only at hsb hbm cg hpl2 hq3 hq4
   unfold SrB at hsb
   obtain ⟨sa, fl, hr, hp, ⟨b1, b2, b3, b4, b5⟩, sent, ⟨e1, e2, e3, e4, e5, e6, e7, e8, e9, ea, eb, ec, ed⟩, ⟨t1, t2, t3, t4⟩, ⟨v1, v2⟩, pat⟩ := sv0
   unfold ClB at hcb
   dsimp only at hsb HRT hcb
   have HX := Lib.hid (fun w' (o : Only [P.bc, wo.heap.size] wr w') => And.intro (Nat.lt_of_lt_of_le lg o.size) ((o.cell lg (by simp; exact ⟨Ne.symm hq5, by omega⟩)).trans cg))
   have m : Mm wr [P.bc, wo.heap.size] wr _ := ⟨((((Mem.start wr [P.bc, wo.heap.size]).ext true hcb (by simp) (by simp)).ext false hsb (by simpa using Ne.symm hq3) (by simp)).ext false hx1 (by simp; omega) (by simp)).ext true hx2 (by simp; omega) (by simp)⟩
   have k := m.out.k; have c := HX.out wr (Only.refl _ wr)
   clear hcl ho hlt hk HC3 hsb hcb hx1 hx2 cg lg HND2 hbr hba hid0
   have HJS := Lib.hid (fun w' (o : Only [P.bc, wo.heap.size] wr w') => (pSystem ((HR4.out.kept o (by simp; exact ⟨fun e => hgo (e ▸ by simp [Pl.all]), by omega⟩)).vrow cdC_len rfl) HG.out h0))
   rw [hie] at HJS
   rcases HB.out (by simp) with ⟨hsv3, ⟨hak, ha1, ha2⟩ | ⟨hak, ha1, ha2⟩⟩
   all_goals subst hak
   all_goals go_wp2_with (first | ((with_reducible refine cU ?_); clear k m c; intro w m k; have c := HX.out w m.out.only) | ((with_reducible first | refine cM (HJS.out _ gO) ?_); clear k m c; intro w m k; have c := HX.out w m.out.only) | ((with_reducible refine rG (id := 20) [0, 1, 2, 3, 4, 5, 6] [7, 8] (by kernel_rfl) (by kernel_rfl) ?_); simp only [pick, List.map_cons, List.map_nil, List.getD_cons_succ, List.getD_cons_zero]; (repeat' (first | go_big_quiet_step (fail) | (refine wpQuiet_step (fun K hK => ?_); go_simp; (first | (refine hK _ ?_; clear hK K) | (split <;> (refine hK _ ?_; clear hK K)))))); all_goals (refine wpQuiet_nil ?_; clear k m c; intro w m k; have c := HX.out w m.out.only)) | ((with_reducible refine rG (id := 22) [0, 1, 2, 3, 4, 5, 6] [7, 8] (by kernel_rfl) (by kernel_rfl) ?_); simp only [pick, List.map_cons, List.map_nil, List.getD_cons_succ, List.getD_cons_zero]; (repeat' (first | go_big_quiet_step (fail) | (refine wpQuiet_step (fun K hK => ?_); go_simp; (first | (refine hK _ ?_; clear hK K) | (split <;> (refine hK _ ?_; clear hK K)))))); all_goals (refine wpQuiet_nil ?_; clear k m c; intro w m k; have c := HX.out w m.out.only)) | ((with_reducible refine wU ?_); clear k m c; intro w m k; have c := HX.out w m.out.only))
   all_goals (
    have hcm : cm = { c1 with srcs := sl, rt := ⟨t1, t2, t3, t4⟩ } := by
     have h1 := HC1.out
     have h2 := HRT.out
     have h3 := HM.out
     clear m k c HX HJS HC4 HC1 HRT HM
     subst h1
     rw [h3, ← h2, ← hsl]
    subst hcm
    have HCK1 : Hid (CkOk c1.ck) := Lib.hid (by rw [← HC1.out]; exact HCK.out)
    have HC5 := Lib.hid (HC4.out.putB2 (c' := { c1 with srcs := sl, rt := ⟨t1, t2, t3, t4⟩ }) m.out.only (fun b hb hm => by
     rcases List.mem_cons.1 hm with e | hm
     ·exact e
     ·have := hrb b hb; rw [List.mem_singleton.1 hm] at this; omega) (by unfold ClB; exact gB) rfl rfl rfl)
    have OB := Lib.hid ((OA.out.trans OO.out (fun x hx => .inl (bs_all hx))).trans m.out.only (fun x hx => by
     rcases List.mem_cons.1 hx with e | hx
     ·exact .inl (by rw [e]; simp [Pl.all])
     ·exact hrs x hx))
    have hbk := hrb P.bk (by simp [Pl.all])
    have g1 : w.heap[wo.heap.size]? = some (.cells #[.int .i64 0, .int .i64 0] 73 (0, 0)) := gB
    have g2 := gB (w := w) (b := wq.heap.size)
    unfold strK at HE
    clear m k c HX HJS HC4 HR4 HRT HM
    simp only [if_true, Int.reduceEq, if_false] at HE)
   all_goals first
    | (refine (pClkStep (w := w) HC5.out.ck HCK1.out raw r0 r1 av (by omega) (by omega)).mono ?_; generalize cStep c1.ck raw av = cr at HE ⊢)
    | (refine (pClkFreq (w := w) HC5.out.ck HCK1.out raw r0 r1 av (by omega) (by omega)).mono ?_; generalize cFreq c1.ck raw av = cr at HE ⊢)
   all_goals (
    obtain ⟨e2', ck2⟩ := cr
    dsimp only at HE ⊢
    rintro e w3 ⟨rfl, hck3, ho3⟩)
   all_goals (
    have HC6 := Lib.hid (HC5.out.putK ho3 hck3)
    have O6 := Lib.hid (OB.out.trans ho3 (fun x hx => .inl (by rw [List.mem_singleton.1 hx]; simp [Pl.all])))
    have f1 := ho3.got g1 (by simp; omega)
    have f2 := ho3.got g2 (by simp; omega)
    have HRB2 := Lib.hid (show ∀ b ∈ P.all, b ∉ [wo.heap.size] from fun b hb hm => by have := hrb b hb; rw [List.mem_singleton.1 hm] at this; omega)
    clear HC5 OB ho3 hck3 g1 g2
    obtain ⟨wk, hwk⟩ : ∃ wk : World, wk = w3 := ⟨_, rfl⟩
    subst hwk
    have m : Mm wk [wo.heap.size] wk _ := ⟨((Mem.start wk [wo.heap.size]).ext false f2 (by simp) (by simp)).ext true f1 (by simp; omega) (by simp)⟩
    have k := m.out.k
    clear f1 f2
    by_cases he2 : e2' = 0)
   all_goals try (
    have he3 := HE.out
    rw [if_neg he2] at he3
    subst he3
    go_wp2_with (first | ((with_reducible refine wU ?_); clear k m; intro w m k) | ((with_reducible refine lE (fun w o g k K hK => ⟨rfl, ?_⟩)); simp [results, Tryz.results53, go_sem, k]; refine hK _ ?_; clear hK K k; skip; exact ⟨rfl, ⟨P, rfl, HC6.out.off o HRB2.out, fun b hb => .inl hb⟩, O6.out.trans o hrs⟩))
    done)
   all_goals (
    subst he2
    rw [if_pos rfl] at HE)
   all_goals try (
    have he3 := HE.out
    subst he3
    go_wp2_with (first | ((with_reducible refine wU ?_); clear k m; intro w m k) | ((with_reducible refine lE (fun w o g k K hK => ⟨rfl, ?_⟩)); simp [results, Tryz.results53, go_sem, k]; refine hK _ ?_; clear hK K k; skip; exact ⟨rfl, ⟨P, rfl, HC6.out.off o HRB2.out, fun b hb => .inl hb⟩, O6.out.trans o hrs⟩))
    done)
   all_goals (
    obtain ⟨cz, hcz⟩ : ∃ cz, ({ cf := c1.cf, ck := ck2, sv := c1.sv, srcs := sl, last := c1.last, own := c1.own, owned := c1.owned, rt := ⟨t1, t2, t3, t4⟩, st := c1.st, rd := c1.rd } : Cl) = cz := ⟨_, rfl⟩
    have HZ := Lib.hid hcz
    have HC7 : Hid (ClAt wk P cz) := Lib.hid (by rw [← hcz]; exact HC6.out)
    have HCT : Hid (cz.cf = c.cf) := Lib.hid (by rw [← hcz]; dsimp only; rw [← HC1.out])
    have HX := Lib.hid (fun w' (o : Only [wo.heap.size] wk w') => c_25 (HC7.out.off o HRB2.out).cl)
    have c := HX.out wk (Only.refl _ wk)
    clear hcz HC6
    go_wp2_with (first | ((with_reducible refine wU ?_); clear k m c; intro w m k; have c := HX.out w m.out.only))
    have Y1 := Lib.hid m.out.got.1
    have Y2 := Lib.hid m.out.got.2.1
    have HFN := Lib.hid (pFNew cz.cf.tol (by rw [HCT.out]; exact htol.1) (by rw [HCT.out]; exact htol.2))
    have HCL8 := Lib.hid HC7.out.len
    have hks := O6.out.size
    clear k m c HX
    go_loopw [136] (fun vi wr => FrI wk wk.heap.size P cz vi wr) (fun vi _ => P.ps.length - (intOf vi).toNat)
    case atStart => exact ⟨0, P, Nat.zero_le _, rfl, rfl, rfl, rfl, HC7.out, fun b hb => .inl hb, Only.refl _ _⟩
    case round =>
     obtain ⟨j, Q, hk, rfl, hQ1, hQ2, hQ3, hcl, hQa, ho⟩ := hrel
     have hln : Q.ps.length = P.ps.length := by have := congrArg List.length hQ3; simpa using this
     by_cases hlt : j < P.ps.length
     ·have hj : j < Q.ps.length := by omega
      have hjc : j < cz.srcs.length := by have := HCL8.out; omega
      have HFL := Lib.hid (frK_len cz j (by have := HCL8.out; omega))
      have hsb := (hcl.src j hj (by have := HFL.out; dsimp only; omega)).b
      dsimp only at hsb
      rw [frK_at hjc] at hsb
      have HPF := Lib.hid (fun w' b => hcl.putF (w' := w') (b := b) (s' := { cz.srcs[j] with fl := ⟨cz.cf.tol, []⟩ }) hj)
      have HAL := Lib.hid (fun b => newF_all (P := Q) (b := b) hj)
      have HMP := Lib.hid (fun b => (map_set1 (b := b) hj).trans hQ3)
      have HSU := Lib.hid (frK_succ hjc)
      have HSA := Lib.hid (show (frK cz j)[j]'(by have := HFL.out; omega) = cz.srcs[j] from frK_at hjc)
      have HND2 := (pl_nd hcl).2.2.2.2.2.2 _ (List.getElem_mem hj) Q.ps[j].1 (by simp)
      have hbm : Q.ps[j].1 ∈ P.bs := by unfold Pl.bs; rw [← hQ3]; exact List.mem_map.2 ⟨_, List.getElem_mem hj, rfl⟩
      have cg : wr.cell? ⟨P.g, j, none⟩ = some (.pointer (some ⟨Q.ps[j].1, 0, none⟩)) := by
       have := hcl.row.cell ptrC_len (i := j) (j := 0) (x := Q.ps[j].1) (by rw [List.getElem?_map, List.getElem?_eq_getElem hj]; rfl) (by decide)
       rw [← hQ2]
       simpa [ptrC] using this
      have lg := hcl.row.lt
      have hcb := hcl.cl
      unfold ClB at hcb
      rw [hQ1] at hcb HND2
      rw [hQ2] at lg HND2
      dsimp only at hcb
      have hpl := got_lt hsb
      have OO := Lib.hid ho
      have HX := Lib.hid (fun w' (o : Only [Q.ps[j].1] wr w') => And.intro (c_25 (o.got hcb (by simpa using HND2.1))) (And.intro (Nat.lt_of_lt_of_le lg o.size) ((o.cell lg (by simpa using HND2.2.2.2)).trans cg)))
      have HBM := Lib.hid hbm; have HPL := Lib.hid hpl; have HQA := Lib.hid hQa; have HQ := Lib.hid (And.intro hQ1 hQ2)
      generalize Q.ps[j] = pp at hsb HPF HX HBM HPL cg
      obtain ⟨pb, pa, pf⟩ := pp
      generalize cz.srcs[j] = sv0 at hsb HPF HSU HSA
      obtain ⟨sa, fl, hr, hp, ⟨b1, b2, b3, b4, b5⟩, sent, ⟨e1, e2, e3, e4, e5, e6, e7, e8, e9, ea, eb, ec, ed⟩, ⟨u1, u2, u3, u4⟩, ⟨v1', v2'⟩, pat⟩ := sv0
      unfold SrB at hsb HPF
      dsimp only at hsb HPF HX HBM HPL HSU cg
      have hws := ho.size
      have hlt2 : (j : Int) < (P.ps.length : Int) := by omega
      clear hcb lg cg HND2 hbm hpl hQ1 hQ2 hQ3 hQa ho
      have m := mm1 hsb; have k := m.out.k; have c := HX.out wr (Only.refl _ wr)
      clear hsb
      go_wp2_with (first | ((with_reducible refine cX (HFN.out _) ?_); intro w5 x c2 o m5 k5; have hz := Nat.le_trans m.out.only.size c2.1; have hf5 := Lib.hid c2.2; clear k m c c2 o; have m := m5; have k := k5; clear m5 k5; have c := HX.out w5 m.out.only) | (go_roundw; (case rel => exact ⟨j + 1, Q.newF j x hj, by omega, by go_num, HQ.out.1, HQ.out.2, HMP.out x, by rw [HSU.out]; exact HPF.out _ x gO hz gB (by rw [HSA.out]) (hf5.out.kept ((Only.refl [pb] w5).setCell (.inl (by simp)) _) (by have := HPL.out; simp; omega)), fun b hb => (HAL.out x b hb).elim (HQA.out b) (fun e => .inr (by rw [e]; omega)), OO.out.trans gO (fun y hy => .inl (by rw [List.mem_singleton.1 hy]; exact HBM.out))⟩); (case measure => first | (simp [intOf]; done) | (simp [intOf]; omega))))
     ·obtain rfl : j = P.ps.length := by omega
      have he3 := HE.out
      have hfe := frK_end cz
      rw [← HCL8.out] at hfe
      rw [hfe] at hcl
      have HCQ := Lib.hid hcl
      have hbs : ∀ b, wo.heap.size ≤ b → b ∉ P.bs := fun b hb hm => by have := hrb b (bs_all hm); omega
      have z1 := ho.got Y1.out (hbs _ (Nat.le_refl _))
      have z2 := ho.got Y2.out (hbs _ (by have := HLW.out; have := HLW2.out; omega))
      have hy1 := got_lt Y1.out
      have hws := ho.size
      have HRBQ := Lib.hid (show ∀ b ∈ Q.all, b ∉ [wo.heap.size] from fun b hb hm => by
       rw [List.mem_singleton.1 hm] at hb
       rcases hQa _ hb with h | h
       ·have := hrb _ h; omega
       ·omega)
      have HQA := Lib.hid (show ∀ b ∈ Q.all, b ∈ P.all ∨ wo.heap.size ≤ b from fun b hb => (hQa b hb).imp_right (fun h => by omega))
      have O9 := Lib.hid (O6.out.trans ho (fun x hx => .inl (bs_all hx)))
      have HQ1 := Lib.hid hQ1
      have m : Mm wr [wo.heap.size] wr _ := ⟨((Mem.start wr [wo.heap.size]).ext false z2 (by simp) (by simp)).ext true z1 (by have := HLW.out; have := HLW2.out; simp; omega) (by simp)⟩
      have k := m.out.k
      subst he3
      have hz2 := HZ.out
      clear z1 z2 hcl ho hQa hQ1 hQ2 hQ3
      go_wp2_with (first | ((with_reducible refine wU ?_); clear k m; intro w m k) | ((with_reducible refine lE (fun w o g k K hK => ⟨rfl, ?_⟩)); simp [results, Tryz.results53, go_sem, k]; refine hK _ ?_; clear hK K k; skip; exact ⟨rfl, ⟨Q, HQ1.out, (by have h := HCQ.out.off o HRBQ.out; rw [← hz2] at h; exact h), HQA.out⟩, O9.out.trans o hrs⟩))))
end Go.Proofs.YtikjdmbfjkbndaaGreat

namespace Go.Proofs.YtikjdmbfjkbndaaGreat
open Go.RowKit Go.Sort

/-- the chosen candidates -/
def chsC (l : List Cd) (ins : List Int) : List Cd := ins.map fun i => l[i.toNat]?.getD default
theorem pk_map (fit : Cd → Bool) (L : List Cd) : ∀ (r : List Cd) (i : Nat), L.drop i = r → (pkX fit r i).map (fun j => L[j.toNat]?.getD default) = r.filter fit
 | [], _, _ => rfl
 | c :: r, i, h => by
  have hr : L.drop (i + 1) = r := by rw [← List.drop_drop, h]; rfl
  have hc : L[i]? = some c := by
   have := congrArg (fun q => q[0]?) h
   simpa using this
  unfold pkX
  by_cases hf : fit c = true
  ·rw [if_pos hf, List.map_cons, pk_map fit L r (i + 1) hr, List.filter_cons_of_pos hf, Int.toNat_natCast, hc]
   rfl
  ·rw [if_neg hf, pk_map fit L r (i + 1) hr, List.filter_cons_of_neg hf]
theorem pk_lt (fit : Cd → Bool) : ∀ (r : List Cd) (i : Nat), ∀ x ∈ pkX fit r i, (i : Int) ≤ x ∧ x < (i : Int) + r.length
 | [], _, x, h => by simp [pkX] at h
 | c :: r, i, x, h => by
  unfold pkX at h
  have ih := pk_lt fit r (i + 1) x
  split at h
  ·rcases List.mem_cons.1 h with rfl | h
   ·simp; omega
   ·have := ih h; simp; omega
  ·have := ih h; simp; omega
theorem selF_in {l : List Cd} {ins : List Int} {h : Iv} : ∀ (f a : Nat), selF l f a = some (ins, h) → ∃ b, 2 * b < l.length ∧ selAt l b = some (ins, h)
 | 0, _, e => by simp [selF] at e
 | f + 1, a, e => by
  unfold selF at e
  split at e
  ·rename_i hb
   split at e
   ·rename_i x hx
    cases e
    exact ⟨a, hb, hx⟩
   ·exact selF_in f (a + 1) e
  ·cases e
/-- what is chosen: a part of the candidates, not empty -/
theorem sel_in {l : List Cd} {ins : List Int} {h : Iv} (hs : sel l = some (ins, h)) : 0 < ins.length ∧ ins.length ≤ l.length ∧ (∀ x ∈ ins, 0 ≤ x ∧ x < l.length) ∧ (chsC l ins).Sublist l ∧ (chsC l ins).length = ins.length := by
 obtain ⟨b, hb, h1⟩ := selF_in _ _ hs
 unfold selAt at h1
 split at h1
 ·cases h1
 ·rename_i h2 _
  split at h1
  ·rename_i hle
   simp only [Option.some.injEq, Prod.mk.injEq] at h1
   obtain ⟨rfl, rfl⟩ := h1
   have hl := pkX_len (inH h2) l 0
   refine ⟨by omega, hl, fun x hx => ?_, ?_, by simp [chsC]⟩
   ·have := pk_lt (inH h2) l 0 x hx; simp at this; omega
   ·have := pk_map (inH h2) l l 0 rfl
    unfold chsC
    rw [this]
    exact List.filter_sublist
  ·cases h1
/-- the client behind enter and renewed -/
def updB (c : Cl) (raw : Int) : Cl := { (clEnter c raw).2.2 with own := renC (clEnter c raw).2.2 raw, owned := raw }
def updK (c : Cl) (raw : Int) (ins : List Int) : List Cd := prnC c.cf.keep (chsC (cndC (updB c raw) raw) ins)
/-- what Update does -/
def UpdR (c : Cl) (raw : Int) (a : Ac) (er : Int) (c' : Cl) : Prop :=
 ((clEnter c raw).2.1 ≠ 0 ∧ a = ⟨0, 0⟩ ∧ er = (clEnter c raw).2.1 ∧ c' = (clEnter c raw).2.2) ∨
 ((clEnter c raw).2.1 = 0 ∧ ((er ≠ 0 ∧ a = ⟨0, 0⟩ ∧ c' = updB c raw ∧ (¬ Gd (cndC (updB c raw) raw) ∨ sel (cndC (updB c raw) raw) = none)) ∨
  (∃ ins hv, Gd (cndC (updB c raw) raw) ∧ sel (cndC (updB c raw) raw) = some (ins, hv) ∧ (a, er, c') = strC (updB c raw) raw (clEnter c raw).1 (meanC (updK c raw ins)) (updK c raw ins))))
/-- what is kept of the candidates -/
theorem keep_gd {c : Cl} {raw : Int} {ins : List Int} {hv : Iv} (hk : 1 ≤ c.cf.keep) (hg : Gd (cndC (updB c raw) raw)) (hs : sel (cndC (updB c raw) raw) = some (ins, hv)) :
  Gd (chsC (cndC (updB c raw) raw) ins) ∧ 0 < (chsC (cndC (updB c raw) raw) ins).length ∧ Gd (updK c raw ins) ∧ 0 < (updK c raw ins).length ∧ ∀ k ∈ updK c raw ins, 0 ≤ k.id ∧ k.id < (updB c raw).srcs.length := by
 obtain ⟨h0, h1, h2, h3, h4⟩ := sel_in hs
 have hgc := hg.sub h3
 have hp := ordC_perm (chsC (cndC (updB c raw) raw) ins)
 obtain ⟨q1, q2, q3⟩ := prune_gd hk (chsC (cndC (updB c raw) raw) ins).length (hgc.perm hp) (by rw [hp.length_eq]; omega)
 refine ⟨hgc, by omega, q1, q2, fun k hk2 => ?_⟩
 have hm := h3.subset (hp.subset (q3 k hk2))
 unfold cndC at hm
 split at hm
 ·exact cndR_id _ k hm
 ·cases hm
end Go.Proofs.YtikjdmbfjkbndaaGreat

namespace Go.Proofs.YtikjdmbfjkbndaaGreat
open Go.RowKit Go.Sort

def ChI (w : World) (l : List Cd) (ins : List Int) (vo vi : Value) (wr : World) : Prop :=
 ∃ k : Nat, k ≤ ins.length ∧ vi = .int .i64 k ∧ Own cdC 126 5 w.heap.size wr vo (chsC l (ins.take k)) ∧ Only [] w wr
theorem clNow_bd {c : Cl} {raw : Int} (h : (clNow c raw).2 = 0) : -4503599627370496 ≤ (clNow c raw).1 ∧ (clNow c raw).1 ≤ 4503599627370496 := by
 unfold clNow at h ⊢
 split at h
 ·rename_i h1
  rw [if_pos h1]
  split at h
  ·cases h
  ·rename_i h2
   rw [if_neg h2]
   unfold cNow at h ⊢
   split at h
   ·cases h
   ·rename_i h3
    rw [if_neg h3]
    split at h
    ·cases h
    ·rename_i h4
     rw [if_neg h4]
     split at h
     ·rename_i h5
      rw [if_pos h5]
      unfold isT wth at h5
      simpa using h5
     ·cases h
 ·rename_i h1
  exact absurd h h1
theorem enter_same (c : Cl) (raw : Int) : (clEnter c raw).2.2.ck = c.ck ∧ (clEnter c raw).2.2.sv = c.sv ∧ (clEnter c raw).2.2.srcs = c.srcs ∧ (clEnter c raw).2.2.cf = c.cf ∧ (clEnter c raw).2.2.rd = c.rd ∧ (clEnter c raw).2.2.owned = c.owned := by
 unfold clEnter
 split <;> exact ⟨rfl, rfl, rfl, rfl, rfl, rfl⟩
set_option maxRecDepth 100000 in
set_option maxHeartbeats 8000000 in
theorem pUpdate {w : World} {P : Pl} {c : Cl} (h : ClAt w P c) (hok : ClOk c) (hsv : SvOk c.sv) (hg : ∀ s ∈ c.srcs, SrG s) (htol : 0 ≤ c.cf.tol ∧ c.cf.tol ≤ 500000) (hkp : 1 ≤ c.cf.keep) (hrd : -4503599627370496 ≤ c.rd ∧ c.rd ≤ 4503599627370496) (raw : Int) (r0 : -9223372036854775808 ≤ raw) (r1 : raw ≤ 9223372036854775807) :
  Calls Tryz.prog 23 #[.pointer (some ⟨P.bc, 0, none⟩), .int .i64 raw] w fun e w' => ∃ a er c', e = .returned (.tuple #[acV a, .int .i64 er]) ∧ UpdR c raw a er c' ∧ (∃ P', P'.bc = P.bc ∧ ClAt w' P' c' ∧ (∀ b ∈ P'.all, b ∈ P.all ∨ w.heap.size ≤ b)) ∧ Only P.all w w' := by
 have HN12 : P.ps.length ≤ 12 := by have := h.len; have := hok.len; have := hok.s1; omega
 have HC := Lib.hid h
 have HEN := Lib.hid (fun w' (o : Only [] w w') => pClEnter (h.kept o) hok.ck raw r0 r1)
 have HSM := Lib.hid (enter_same c raw)
 have HBD := Lib.hid (fun (he : (clEnter c raw).2.1 = 0) => And.intro (enter_bd he hok.ck) (show -4503599627370496 ≤ (clEnter c raw).1 ∧ (clEnter c raw).1 ≤ 4503599627370496 by
  have h1 := clNow_bd (enter_now he)
  unfold clEnter
  split <;> exact h1))
 obtain ⟨R, HR⟩ : ∃ R, Hid (R = UpdR c raw) := ⟨_, Lib.hid rfl⟩
 rw [← HR.out]
 have HRE := Lib.hid (show (clEnter c raw).2.1 ≠ 0 → R ⟨0, 0⟩ (clEnter c raw).2.1 (clEnter c raw).2.2 from fun he => by rw [HR.out]; exact .inl ⟨he, rfl, rfl, rfl⟩)
 have HRS := Lib.hid (show (clEnter c raw).2.1 = 0 → ∀ er, er ≠ 0 → (¬ Gd (cndC (updB c raw) raw) ∨ sel (cndC (updB c raw) raw) = none) → R ⟨0, 0⟩ er (updB c raw) from fun he er h1 h2 => by rw [HR.out]; exact .inr ⟨he, .inl ⟨h1, rfl, rfl, h2⟩⟩)
 have HRG := Lib.hid (show (clEnter c raw).2.1 = 0 → ∀ ins hv, Gd (cndC (updB c raw) raw) → sel (cndC (updB c raw) raw) = some (ins, hv) → R (strC (updB c raw) raw (clEnter c raw).1 (meanC (updK c raw ins)) (updK c raw ins)).1 (strC (updB c raw) raw (clEnter c raw).1 (meanC (updK c raw ins)) (updK c raw ins)).2.1 (strC (updB c raw) raw (clEnter c raw).1 (meanC (updK c raw ins)) (updK c raw ins)).2.2 from fun he ins hv h1 h2 => by rw [HR.out]; exact .inr ⟨he, .inr ⟨ins, hv, h1, h2, rfl⟩⟩)
 have HKG := Lib.hid (fun ins hv => keep_gd (c := c) (raw := raw) (ins := ins) (hv := hv) hkp)
 have HCB := Lib.hid (show updB c raw = { (clEnter c raw).2.2 with own := renC (clEnter c raw).2.2 raw, owned := raw } from rfl)
 have HUK := Lib.hid (fun ins => show updK c raw ins = prnC c.cf.keep (chsC (cndC (updB c raw) raw) ins) from rfl)
 generalize updK c raw = uk at HRG HKG HUK
 generalize updB c raw = cb at HRS HRG HKG HCB HUK
 generalize clEnter c raw = ce at HEN HSM HBD HRE HRS HRG HCB
 obtain ⟨now, er, c1⟩ := ce
 dsimp only at HEN HSM HBD HRE HRS HRG HCB
 have HOK := Lib.hid hok; have HSV := Lib.hid hsv; have HG := Lib.hid hg; have HLT := Lib.hid h.lt; have HKP := Lib.hid hkp
 clear h hok hsv hg HR hkp
 obtain ⟨wo, hwo⟩ : ∃ wo : World, wo = w := ⟨_, rfl⟩
 subst hwo
 have m := mm0 wo []; have k := m.out.k
 go_enter Tryz.func23, Tryz.ntmps23
 go_wp2_with (first | ((with_reducible refine cU ?_); clear k m; intro w m k) | ((with_reducible refine wU ?_); clear k m; intro w m k))
 refine (HEN.out _ m.out.only).mono ?_
 rintro e w2 ⟨rfl, hcb, ho2⟩
 have hrb : ∀ b ∈ P.all, b < wo.heap.size := HLT.out
 have hbl := hrb P.bc (by simp [Pl.all])
 have hrs : ∀ (x : Nat), x ∈ [wo.heap.size] → x ∈ P.all ∨ wo.heap.size ≤ x := fun x hx => .inr (by rw [List.mem_singleton.1 hx]; exact Nat.le_refl _)
 have HRB := Lib.hid (show ∀ b ∈ P.all, b ∉ [wo.heap.size] from fun b hb hm => by have := hrb b hb; rw [List.mem_singleton.1 hm] at this; omega)
 have HLW : Hid (wo.heap.size < w.heap.size) := Lib.hid (got_lt (gB (w := w) (b := wo.heap.size)))
 have hb2 : w2.heap[wo.heap.size]? = some (.cells #[.int .i64 0, .int .i64 0] 73 (0, 0)) := ho2.got (gB (w := w)) (by simp; omega)
 have HC2 := Lib.hid ((HC.out.kept m.out.only).putB ho2 hcb HSM.out.1 HSM.out.2.1 HSM.out.2.2.1)
 have O2 := Lib.hid ((m.out.only.weak (S' := P.all) (by simp)).trans ho2 (by simp [Pl.all]))
 clear k m HC HEN hcb ho2
 obtain ⟨wq, hwq⟩ : ∃ wq : World, wq = w2 := ⟨_, rfl⟩
 subst hwq
 by_cases he : er = 0
 rotate_left
 ·have m := mm1 hb2; have k := m.out.k
  clear hb2
  go_wp2_with (first | ((with_reducible refine wU ?_); clear k m; intro w m k) | ((with_reducible refine lE (fun w o g k K hK => ⟨rfl, ?_⟩)); simp [results, Tryz.results23, go_sem, k]; refine hK _ ?_; clear hK K k; skip; exact ⟨⟨0, 0⟩, er, c1, rfl, HRE.out he, ⟨P, rfl, HC2.out.off o HRB.out, fun b hb => .inl hb⟩, O2.out.trans o hrs⟩))
 ·subst he
  obtain ⟨⟨hb0, hb1⟩, hn0⟩ := HBD.out rfl
  have HRN := Lib.hid (fun w' (o : Only [] wq w') => pClRenewed (HC2.out.kept o) HN12 (by rw [HSM.out.2.2.2.1]; exact HOK.out.s0) (by rw [HSM.out.2.2.2.1]; exact HOK.out.s1) raw (fun s hs => by have := (HOK.out.src s (by rw [← HSM.out.2.2.1]; exact hs)).2; omega) (by have := HOK.out.own; rw [HSM.out.2.2.2.2.2]; omega) (by have := HOK.out.own; rw [HSM.out.2.2.2.2.2]; omega))
  have m := mmR hb2; have k := m.out.k
  have HB2 := Lib.hid hb2
  clear hb2
  go_wp2_with (first | ((with_reducible refine cU ?_); clear k m; intro w m k) | ((with_reducible refine wU ?_); clear k m; intro w m k))
  refine (HRN.out _ m.out.only).mono ?_
  rintro e w3 ⟨rfl, ho3⟩
  obtain ⟨wp, hwp⟩ : ∃ wp : World, wp = w3 := ⟨_, rfl⟩
  subst hwp
  have hb3 := ho3.got HB2.out (by simp)
  have HC3 := Lib.hid (HC2.out.kept ho3)
  have O3 := Lib.hid (O2.out.trans ho3 (by simp))
  obtain ⟨⟨x1, x2⟩, hx⟩ : ∃ x, renC c1 raw = x := ⟨_, rfl⟩
  rw [hx] at HCB
  rw [hx]
  unfold ivV
  have hcb3 := HC3.out.cl
  unfold ClB at hcb3
  clear k m ho3 HRN HB2 hx
  have m : Mm wp [P.bc, wo.heap.size] wp _ := ⟨((Mem.start wp [P.bc, wo.heap.size]).ext true hb3 (by simp) (by simp)).ext true hcb3 (by simp; omega) (by simp)⟩
  have k := m.out.k
  clear hb3 hcb3
  go_wp2_with (first | ((with_reducible refine cU ?_); clear k m; intro w m k) | ((with_reducible refine wU ?_); clear k m; intro w m k))
  have HC4 := Lib.hid (HC3.out.putB2 (c' := cb) m.out.only (fun b hb hm => by
   rcases List.mem_cons.1 hm with e | hm
   ·exact e
   ·exact absurd hm (HRB.out b hb)) (by rw [HCB.out]; unfold ClB; exact gB) (by rw [HCB.out]) (by rw [HCB.out]) (by rw [HCB.out]))
  have O4 := Lib.hid (O3.out.trans m.out.only (fun x hx => by
   rcases List.mem_cons.1 hx with e | hx
   ·exact .inl (by rw [e]; simp [Pl.all])
   ·exact hrs x hx))
  have hb4 := gB (w := w) (b := wo.heap.size)
  have hln : (cndC cb raw).length ≤ 12 := by
   unfold cndC
   split
   ·have := cndR_len cb.srcs (clNow cb raw).1 cb.srcs.length
    have := HC4.out.len
    omega
   ·simp
  clear k m HC3 HC2 O2 O3
  refine (pCands HC4.out (by rw [HCB.out]; dsimp only; rw [HSM.out.1]; exact HOK.out.ck) HN12 (by rw [HCB.out]; dsimp only; rw [HSM.out.2.2.1]; exact HG.out) raw r0 r1).mono ?_
  rintro e w4 ⟨⟨v, rfl, hown⟩, hcl4, ho4⟩
  have hbf : wo.heap.size ∉ P.fs := fun hm => by
   obtain ⟨p, h1, h2⟩ := List.mem_map.1 hm
   have := hrb p.2.2 (by unfold Pl.all; simp only [List.mem_cons]; exact .inr (.inr (.inr (.inr (List.mem_flatMap.2 ⟨p, h1, by simp⟩)))))
   omega
  have hb4 := ho4.got hb4 hbf
  have HC5 := Lib.hid hcl4
  have O5 := Lib.hid (O4.out.trans ho4 (fun x hx => .inl (by
   obtain ⟨p, h1, h2⟩ := List.mem_map.1 hx
   unfold Pl.all; simp only [List.mem_cons]; exact .inr (.inr (.inr (.inr (List.mem_flatMap.2 ⟨p, h1, by rw [← h2]; simp⟩)))))))
  generalize cndC cb raw = l at HRS HRG HKG HUK hown hln ⊢
  obtain ⟨pp, cap', rfl, hv⟩ := Own.vrow (enc := cdC) (s := 5) cdC_len hown
  have HV := Lib.hid hv
  have HCF : Hid (CkOk cb.ck ∧ cb.sv = c.sv ∧ cb.cf = c.cf ∧ cb.rd = c.rd) := Lib.hid (by
   rw [HCB.out]; dsimp only; rw [HSM.out.1, HSM.out.2.1, HSM.out.2.2.2.1, HSM.out.2.2.2.2.1]; exact ⟨HOK.out.ck, rfl, rfl, rfl⟩)
  clear hcl4 ho4 hown hv O4 HC4 HCB
  obtain ⟨wp2, hwp2⟩ : ∃ wp2 : World, wp2 = w4 := ⟨_, rfl⟩
  subst hwp2
  have m := mm1 hb4; have k := m.out.k
  clear hb4
  go_wp2_with (first | ((with_reducible refine cU ?_); clear k m; intro w m k) | ((with_reducible refine wU ?_); clear k m; intro w m k))
  refine (pSelect HV.out (by omega)).mono ?_
  rintro e w5 ⟨⟨v5, ⟨i1, i2⟩, ins, er, rfl, hown5, hcase⟩, ho5⟩
  unfold ivV
  have hb5 := ho5.got (gB (w := wp2) (b := wo.heap.size)) (by simp)
  have HC6 := Lib.hid (HC5.out.kept ho5)
  have O6 := Lib.hid (O5.out.trans ho5 (by simp))
  have HV6 := Lib.hid (HV.out.kept ho5)
  obtain ⟨pq, capq, rfl, hv5⟩ := Own.vrow (enc := intC) (s := 1) intC_len hown5
  have HI6 := Lib.hid hv5
  clear k m HC5 O5 HV ho5 hown5 hv5
  obtain ⟨wp3, hwp3⟩ : ∃ wp3 : World, wp3 = w5 := ⟨_, rfl⟩
  subst hwp3
  by_cases he : er = 0
  rotate_left
  ·have m := mm1 hb5; have k := m.out.k
   clear hb5
   have HCA := Lib.hid hcase
   clear hcase
   go_wp2_with (first | ((with_reducible refine cU ?_); clear k m; intro w m k) | ((with_reducible refine wU ?_); clear k m; intro w m k) | ((with_reducible refine lE (fun w o g k K hK => ⟨rfl, ?_⟩)); simp [results, Tryz.results23, go_sem, k]; refine hK _ ?_; clear hK K k; skip; exact ⟨⟨0, 0⟩, er, cb, rfl, HRS.out trivial er he (HCA.out.elim (fun h => absurd h.1 he) (fun h => h.2)), ⟨P, rfl, HC6.out.off o HRB.out, fun b hb => .inl hb⟩, O6.out.trans o hrs⟩))
  ·subst he
   obtain ⟨hgd, hsel⟩ := hcase.elim (fun h => h.2) (fun h => absurd rfl h.1)
   obtain ⟨hgc, hc0, hgk, hk0, hkid⟩ := HKG.out ins _ hgd hsel
   obtain ⟨hi0, hi1, hi2, hi3, hi4⟩ := sel_in hsel
   have HRG2 := Lib.hid (HRG.out trivial ins _ hgd hsel)
   have HGC := Lib.hid hgc; have HGK := Lib.hid hgk; have HKI := Lib.hid hkid; have HIN := Lib.hid hi2
   have m := mmR hb5; have k := m.out.k
   clear hb5 hcase HRS HRG HKG hgd hsel hgc hgk hkid hi2 hi3
   go_wp2_with (first | ((with_reducible refine cU ?_); clear k m; intro w m k) | ((with_reducible refine wU ?_); clear k m; intro w m k))
   have M6 := Lib.hid m
   have HC7 := Lib.hid (HC6.out.kept m.out.only)
   have O7 := Lib.hid (O6.out.trans m.out.only (by simp))
   have HV7 := Lib.hid (HV6.out.kept m.out.only)
   have HI7 := Lib.hid (HI6.out.kept m.out.only)
   have hb7 := gB (w := w) (b := wo.heap.size)
   obtain ⟨wl, hwl⟩ : ∃ wl : World, wl = w := ⟨_, rfl⟩
   subst hwl
   clear k m HC6 O6 HV6 HI6 M6
   obtain ⟨bl, ol, rfl, hbl2, hcl2⟩ := HV7.out.at (by omega)
   have HCL := Lib.hid hcl2
   clear hcl2
   go_loopw [11, 51] (fun vo vi wr => ChI wl l ins vo vi wr) (fun _ vi _ => ins.length - (intOf vi).toNat)
   case atStart => exact ⟨0, Nat.zero_le _, rfl, own_nil _ _, Only.refl _ _⟩
   case round =>
    obtain ⟨k, hk, rfl, hown, ho⟩ := hrel
    have OW := Lib.hid hown; have OO := Lib.hid ho
    by_cases hlt : k < ins.length
    ·have hik := HIN.out _ (List.getElem_mem hlt)
     have HSN : Hid (chsC l (ins.take (k + 1)) = chsC l (ins.take k) ++ [l[ins[k].toNat]?.getD default]) := Lib.hid (by unfold chsC; rw [take_snoc ins hlt, List.map_append]; rfl)
     have hcn : (chsC l (ins.take k)).length ≤ 12 := by unfold chsC; rw [List.length_map, List.length_take]; omega
     obtain ⟨bi, oi, rfl, hbi, hci⟩ := HI7.out.i64 ho hlt
     have hlw := Nat.lt_of_lt_of_le hbi ho.size
     generalize ins[k] = x at HSN hik hci
     obtain ⟨i, rfl⟩ : ∃ i : Nat, x = (i : Int) := ⟨x.toNat, by omega⟩
     have hil : i < l.length := by omega
     have hil2 : (i : Int) < (l.length : Int) := by omega
     rw [Int.toNat_natCast, List.getElem?_eq_getElem hil, Option.getD_some] at HSN
     have hcd := fun w' (o : Only [] wl w') => HCL.out i hil w' o
     generalize l[i] = d at HSN hcd
     obtain ⟨d1, d2, d3, d4, d5⟩ := d
     simp only [CdF] at hcd
     generalize chsC l (ins.take k) = acc at OW HSN hcn
     have HX := Lib.hid (fun w' (o : Only [] wr w') => And.intro (Nat.lt_of_lt_of_le hlw o.size) (And.intro ((o.cell hlw (by simp)).trans hci) (hcd w' (OO.out.nil_trans o))))
     clear hcd hci hik hown ho hbi hlw
     obtain ⟨pa, cap2, rfl, -⟩ := Own.vrow (enc := cdC) (s := 5) cdC_len OW.out
     have HKL := Lib.hid hlt
     have hlt2 : (k : Int) < (ins.length : Int) := by omega
     have c := HX.out wr (Only.refl _ wr)
     have m := mm0 wr []
     go_wp2_with (at_builtin; refine stop_here ?_)
     refine alloc_abs (G := fun w0 => Stop (wpList _ _ _ _ _ w0)) ?_
     intro w5 hb5 ho5 hs5
     have B5 := Lib.hid hb5; have O5 := Lib.hid (OO.out.nil_trans ho5); have R5 := Lib.hid (OW.out.kept ho5)
     clear hb5 ho5 hs5
     refine stop_go ?_
     refine wpList_append_oneS (S := []) (w0 := wl) rfl _ _ 85 rfl 126 cdZ 5 40 Tryz.underlying85 cd_info rfl (by decide) cdC cdC_len cdC_one acc (.slice pa acc.length cap2) rfl R5.out wr.heap.size ⟨d1, d2, d3, d4, d5⟩ rfl (fun j u hj => ?_) (by simp [maxLen]; omega) (by omega) O5.out ?_
     ·rw [cell_got B5.out, ← hj]; simp [cdC]
     intro v6 w6 hown6 ho6 _
     have W6 := Lib.hid hown6; have O6 := Lib.hid ho6
     clear hown6 ho6
     go_wp2
     go_roundw
     case rel => exact ⟨_, Nat.succ_le_of_lt HKL.out, by go_num, by rw [HSN.out]; exact W6.out, O6.out⟩
     case measure => first | (simp [intOf]; done) | (simp [intOf]; omega)
    ·obtain rfl : k = ins.length := by omega
     rw [List.take_length] at OW
     obtain ⟨wp5, hwp5⟩ : ∃ wp5 : World, wp5 = wr := ⟨_, rfl⟩
     subst hwp5
     have huk : prnC cb.cf.keep (chsC l ins) = uk ins := by rw [HCF.out.2.2.1, HUK.out]
     obtain ⟨pa, cap2, rfl, hvt⟩ := Own.vrow (enc := cdC) (s := 5) cdC_len OW.out
     have HPR := Lib.hid (fun w' (o : Only [] wp5 w') => pPruneX (hvt.kept o) HGC.out hc0 cb.cf.keep (by rw [HCF.out.2.2.1]; exact HKP.out))
     rw [huk] at HPR
     have hcb9 := (HC7.out.kept ho).cl
     unfold ClB at hcb9
     have hb9 := ho.got hb7 (by simp)
     have HC9 := Lib.hid (HC7.out.kept ho)
     have O9 := Lib.hid (O7.out.trans ho (by simp))
     generalize uk ins = kp at HPR HGK HKI HRG2 hk0
     generalize chsC l ins = tc at HPR
     clear OW OO HC7 O7 hvt HI7 HCL huk
     have m : Mm wp5 [] wp5 _ := ⟨((Mem.start wp5 []).ext false hb9 (by simp) (by simp)).ext false hcb9 (by simp; omega) (by simp)⟩
     have k := m.out.k
     have HB9 := Lib.hid hb9
     clear hcb9 hb9 ho
     go_wp2_with (first | ((with_reducible refine cU ?_); clear k m; intro w m k) | ((with_reducible refine wU ?_); clear k m; intro w m k))
     refine (HPR.out _ m.out.only).mono ?_
     rintro e w7 ⟨⟨g, gcap, rfl, hgs, hrow⟩, ho7⟩
     have O10 := Lib.hid (O9.out.trans ho7 (by simp))
     have HC10 := Lib.hid (HC9.out.kept ho7)
     have hb10 := ho7.got HB9.out (by simp)
     have HR10 := Lib.hid hrow
     have hgo : g ∉ P.all := fun hm => by have := HC9.out.lt g hm; omega
     clear k m HC9 O9 ho7 HPR HB9 hrow
     obtain ⟨wp6, hwp6⟩ : ∃ wp6 : World, wp6 = w7 := ⟨_, rfl⟩
     subst hwp6
     have HB10 := Lib.hid hb10
     have m := mmR hb10; have k := m.out.k
     clear hb10
     go_wp2_with (first | ((with_reducible refine cU ?_); clear k m; intro w m k) | ((with_reducible refine wU ?_); clear k m; intro w m k))
     refine (pMean ((HR10.out.kept m.out.only (by simp)).vrow cdC_len rfl) HGK.out hk0).mono ?_
     rintro e w8 ⟨rfl, ho8⟩
     have O11 := Lib.hid (O10.out.trans ho8 (by simp))
     have HC11 := Lib.hid (HC10.out.kept ho8)
     have hb11 := ho8.got HB10.out (by simp)
     have HR11 := Lib.hid (HR10.out.kept ho8 (by simp))
     clear k m HC10 O10 ho8 HB10 HR10
     obtain ⟨wp7, hwp7⟩ : ∃ wp7 : World, wp7 = w8 := ⟨_, rfl⟩
     subst hwp7
     have HB11 := Lib.hid hb11
     have m := mmR hb11; have k := m.out.k
     clear hb11
     go_wp2_with (first | ((with_reducible refine cU ?_); clear k m; intro w m k) | ((with_reducible refine wU ?_); clear k m; intro w m k))
     obtain ⟨o0, o1, -⟩ := mean_bd HGK.out hk0
     refine (pSteer HC11.out HCF.out.1 (by rw [HCF.out.2.1]; exact HSV.out) HN12 (by rw [HCF.out.2.2.1]; exact htol) HR11.out hgo HGK.out hk0 (fun k hk => by have := (HKI.out k hk).2; have := HC11.out.len; omega) raw now _ r0 r1 hn0 (by rw [HCF.out.2.2.2]; exact hrd) ⟨o0, o1⟩).mono ?_
     rintro e w9 ⟨rfl, ⟨P', hP, hcl, hpa⟩, ho9⟩
     have hb12 := ho9.got HB11.out (fun hm => by have := hrb _ hm; omega)
     have hlw := got_lt HB11.out
     have HPA := Lib.hid (show ∀ b ∈ P'.all, b ∈ P.all ∨ wo.heap.size ≤ b from fun b hb => (hpa b hb).imp_right (fun h => by omega))
     have HRBQ := Lib.hid (show ∀ b ∈ P'.all, b ∉ [wo.heap.size] from fun b hb hm => by
      rw [List.mem_singleton.1 hm] at hb
      rcases hpa _ hb with h | h
      ·have := hrb _ h; omega
      ·omega)
     have O12 := Lib.hid (O11.out.trans ho9 (fun x hx => .inl hx))
     generalize strC cb raw now (meanC kp) kp = st at HRG2 hcl ⊢
     obtain ⟨⟨sa, sv⟩, se, sc⟩ := st
     unfold acV
     dsimp only at HRG2 hcl ⊢
     have HC12 := Lib.hid hcl
     have HPP := Lib.hid hP
     clear k m HC11 O11 ho9 HB11 HR11 hcl hpa hP
     obtain ⟨wp8, hwp8⟩ : ∃ wp8 : World, wp8 = w9 := ⟨_, rfl⟩
     subst hwp8
     have m := mm1 hb12; have k := m.out.k
     clear hb12
     go_wp2_with (first | ((with_reducible refine cU ?_); clear k m; intro w m k) | ((with_reducible refine wU ?_); clear k m; intro w m k) | ((with_reducible refine lE (fun w o g k K hK => ⟨rfl, ?_⟩)); simp [results, Tryz.results23, go_sem, k]; refine hK _ ?_; clear hK K k; skip; exact ⟨⟨sa, sv⟩, se, sc, rfl, HRG2.out, ⟨P', HPP.out, HC12.out.off o HRBQ.out, HPA.out⟩, O12.out.trans o hrs⟩))
end Go.Proofs.YtikjdmbfjkbndaaGreat
