/- Texts of one chain: F3, F4, F6. Conditions: those named in each theorem. -/
import Derived.Test.YtikjdmbfjkbndaaGreatWa0
import Derived.Test.YtikjdmbfjkbndaaGreatV6
namespace Go.Proofs.YtikjdmbfjkbndaaGreat
open Go.RowKit Go.Sort

def sgC (s : Sgm) : List Value := [.int .i64 s.a, .int .i64 s.p]
theorem VRow.sgm {w : World} {p : Option Addr} {n cap : Nat} {l : List Sgm} (hv : VRow sgC 2 w p n cap l) {k : Nat} (hk : k < l.length) : ∃ b off, p = some ⟨b, off, none⟩ ∧ ∀ w', Only [] w w' → b < w'.heap.size ∧ w'.cell? ⟨b, off + k * 2, none⟩ = some (.int .i64 l[k].a) ∧ w'.cell? ⟨b, off + k * 2 + 1, none⟩ = some (.int .i64 l[k].p) := by
 obtain ⟨b, off, hp, hb, h⟩ := hv.cell k l[k] (List.getElem?_eq_getElem hk)
 refine ⟨b, off, hp, fun w' ho => ⟨Nat.lt_of_lt_of_le hb ho.size, ?_, ?_⟩⟩
 ·rw [ho.cell hb (by simp)]; exact h 0 _ rfl
 ·rw [ho.cell hb (by simp), Nat.add_assoc]; exact h 1 _ rfl
/-- the error of a segment -/
def segE (l : List Sgm) (k : Nat) : Int := if (l.getD k ⟨0, 0⟩).a < 0 ∨ 1125899906842624 < (l.getD k ⟨0, 0⟩).a ∨ (l.getD k ⟨0, 0⟩).p < -500000 ∨ 500000 < (l.getD k ⟨0, 0⟩).p then 3 else if k = 0 ∧ (l.getD k ⟨0, 0⟩).a ≠ 0 then 7 else if 0 < k ∧ (l.getD k ⟨0, 0⟩).a ≤ (l.getD (k - 1) ⟨0, 0⟩).a then 12 else 0
set_option maxRecDepth 100000 in
set_option maxHeartbeats 4000000 in
theorem pSegE {w : World} {p : Option Addr} {n cap : Nat} {l : List Sgm} (ph : Int) (k0 : Nat) (hk : k0 < l.length) (hn : l.length ≤ 16) (hv : VRow sgC 2 w p n cap l) :
  Calls Tryz.prog 45 #[.agg #[.int .i64 ph, .slice p n cap], .int .i64 k0] w fun e w' => e = .returned (.int .i64 (segE l k0)) ∧ Only [] w w' := by
 have hln := hv.len
 subst hln
 have hk2 : (k0 : Int) < (l.length : Int) := by omega
 obtain ⟨res, HE⟩ : ∃ r, Hid (segE l k0 = r) := ⟨_, Lib.hid rfl⟩
 rw [HE.out]
 unfold segE at HE
 obtain ⟨b, off, rfl, hX⟩ := hv.sgm hk
 have hg : l.getD k0 ⟨0, 0⟩ = l[k0] := by rw [List.getD_eq_getElem?_getD, List.getElem?_eq_getElem hk]; rfl
 rw [hg] at HE
 clear hg
 by_cases hz : k0 = 0
 ·generalize l[k0] = s at hX HE
  obtain ⟨sa, sp⟩ := s
  dsimp only at hX HE
  subst hz
  simp only [Nat.zero_mul, Nat.add_zero] at hX
  have HX := Lib.hid hX
  clear hX hv
  obtain ⟨wo, hwo⟩ : ∃ wo : World, wo = w := ⟨_, rfl⟩
  subst hwo
  have m := mm0 wo []; have k := m.out.k
  have c := HX.out wo (Only.refl _ wo)
  go_enter Tryz.func45, Tryz.ntmps45
  go_wp2_with (first | ((with_reducible refine cU ?_); clear k m c; intro w m k; have c := HX.out w m.out.only) | ((with_reducible refine rG (id := 6) [0, 1, 2, 3, 4, 5, 6, 7, 8, 9, 10, 11, 12, 13] [] (by kernel_rfl) (by kernel_rfl) ?_); simp only [pick, List.map_cons, List.map_nil, List.getD_cons_succ, List.getD_cons_zero]; (repeat' (first | go_big_quiet_step (fail) | (refine wpQuiet_step (fun K hK => ?_); go_simp; (first | (refine hK _ ?_; clear hK K) | (split <;> (refine hK _ ?_; clear hK K)))))); all_goals (refine wpQuiet_nil ?_; clear k m c; intro w m k; have c := HX.out w m.out.only)) | ((with_reducible refine wU ?_); clear k m c; intro w m k; have c := HX.out w m.out.only) | ((with_reducible refine lE (fun w o g k K hK => ⟨rfl, ?_⟩)); simp [results, Tryz.results45, go_sem]; refine hK _ ?_; clear hK K k; rw [← HE.out]; (go_tidy; grind)))
 ·have hk1 : k0 - 1 < l.length := by omega
  obtain ⟨b', off', hp', hY⟩ := hv.sgm hk1
  cases hp'
  have hg : l.getD (k0 - 1) ⟨0, 0⟩ = l[k0 - 1] := by rw [List.getD_eq_getElem?_getD, List.getElem?_eq_getElem hk1]; rfl
  rw [hg] at HE
  clear hg
  generalize l[k0] = s at hX HE
  generalize l[k0 - 1] = t at hY HE
  obtain ⟨sa, sp⟩ := s
  obtain ⟨ta, tp⟩ := t
  dsimp only at hX hY HE
  have r1 : IntKind.i64.wrap ((k0 : Int) - 1) = ((k0 - 1 : Nat) : Int) := by rw [IntKind.wrap_i64]; omega
  have r2 : ((k0 - 1 : Nat) : Int) < (l.length : Int) := by omega
  have d1 : ((k0 : Int) == 0) = false := by rw [beq_eq_false_iff_ne]; omega
  have d2 : decide ((k0 : Int) > 0) = true := by simp; omega
  have d3 : decide (0 < (k0 : Int)) = true := by simp; omega
  have d4 : decide (0 < k0) = true := by simp; omega
  have HX := Lib.hid (fun w' o => And.intro (hX w' o) (hY w' o))
  clear hX hY hv
  obtain ⟨wo, hwo⟩ : ∃ wo : World, wo = w := ⟨_, rfl⟩
  subst hwo
  have m := mm0 wo []; have k := m.out.k
  have c := HX.out wo (Only.refl _ wo)
  go_enter Tryz.func45, Tryz.ntmps45
  go_wp2_with (first | ((with_reducible refine cU ?_); clear k m c; intro w m k; have c := HX.out w m.out.only) | ((with_reducible refine rG (id := 6) [0, 1, 2, 3, 4, 5, 6, 7, 8, 9, 10, 11, 12, 13] [] (by kernel_rfl) (by kernel_rfl) ?_); simp only [pick, List.map_cons, List.map_nil, List.getD_cons_succ, List.getD_cons_zero]; (repeat' (first | go_big_quiet_step (fail) | (refine wpQuiet_step (fun K hK => ?_); go_simp; (first | (refine hK _ ?_; clear hK K) | (split <;> (refine hK _ ?_; clear hK K)))))); all_goals (refine wpQuiet_nil ?_; clear k m c; intro w m k; have c := HX.out w m.out.only)) | ((with_reducible refine wU ?_); clear k m c; intro w m k; have c := HX.out w m.out.only) | ((with_reducible refine lE (fun w o g k K hK => ⟨rfl, ?_⟩)); simp [results, Tryz.results45, go_sem]; refine hK _ ?_; clear hK K k; rw [← HE.out]; (go_tidy; grind)))
/-- a valid oscillator -/
def OscOk (ph : Int) (l : List Sgm) : Prop := l.length ≠ 0 ∧ l.length ≤ 16 ∧ -1125899906842624 ≤ ph ∧ ph ≤ 1125899906842624 ∧ ∀ k < l.length, segE l k = 0
set_option maxRecDepth 100000 in
set_option maxHeartbeats 4000000 in
theorem pOscChk {w : World} {p : Option Addr} {n cap : Nat} {l : List Sgm} (ph : Int) (hv : VRow sgC 2 w p n cap l) :
  Calls Tryz.prog 14 #[.agg #[.int .i64 ph, .slice p n cap]] w fun e w' => (∃ er : Int, e = .returned (.int .i64 er) ∧ (er = 0 ↔ OscOk ph l)) ∧ Only [] w w' := by
 have HV := Lib.hid hv
 have hln := hv.len
 have hcap := Nat.le_trans hv.le hv.cm
 subst hln
 obtain ⟨V, HE⟩ : ∃ V : Prop, Hid (OscOk ph l = V) := ⟨_, Lib.hid rfl⟩
 rw [HE.out]
 unfold OscOk at HE
 clear hv
 by_cases h0 : l.length = 0
 ·have HN : Hid (¬ V) := Lib.hid (by rw [← HE.out]; exact fun q => q.1 h0)
  have d1 : ((l.length : Int) == 0) = true := by rw [beq_iff_eq]; omega
  have m := mm0 w []; have k := m.out.k
  go_enter Tryz.func14, Tryz.ntmps14
  go_wp2_with (first | ((with_reducible refine cU ?_); clear k m; intro w m k) | ((with_reducible refine wU ?_); clear k m; intro w m k) | ((with_reducible refine lR (fun K hK => ⟨rfl, ?_⟩)); simp [results, Tryz.results14, go_sem]; refine hK _ ?_; clear hK K; exact ⟨⟨14, rfl, ⟨fun h => absurd h (by decide), fun h => absurd h HN.out⟩⟩, gO⟩))
 ·have d1 : ((l.length : Int) == 0) = false := by rw [beq_eq_false_iff_ne]; omega
  by_cases h1 : 16 < l.length
  ·have HN : Hid (¬ V) := Lib.hid (by rw [← HE.out]; exact fun q => by omega)
   have d2 : (16 : Int) < (l.length : Int) := by omega
   have m := mm0 w []; have k := m.out.k
   go_enter Tryz.func14, Tryz.ntmps14
   go_wp2_with (first | ((with_reducible refine cU ?_); clear k m; intro w m k) | ((with_reducible refine wU ?_); clear k m; intro w m k) | ((with_reducible refine lR (fun K hK => ⟨rfl, ?_⟩)); simp [results, Tryz.results14, go_sem]; refine hK _ ?_; clear hK K; exact ⟨⟨6, rfl, ⟨fun h => absurd h (by decide), fun h => absurd h HN.out⟩⟩, gO⟩))
  ·have d2 : ¬ (16 : Int) < (l.length : Int) := by omega
   by_cases h2 : ph < -1125899906842624
   ·have HN : Hid (¬ V) := Lib.hid (by rw [← HE.out]; exact fun q => by omega)
    have d3 : decide (ph < -1125899906842624) = true := decide_eq_true h2
    have m := mm0 w []; have k := m.out.k
    go_enter Tryz.func14, Tryz.ntmps14
    go_wp2_with (first | ((with_reducible refine cU ?_); clear k m; intro w m k) | ((with_reducible refine wU ?_); clear k m; intro w m k) | ((with_reducible refine lR (fun K hK => ⟨rfl, ?_⟩)); simp [results, Tryz.results14, go_sem]; refine hK _ ?_; clear hK K; exact ⟨⟨3, rfl, ⟨fun h => absurd h (by decide), fun h => absurd h HN.out⟩⟩, gO⟩))
   ·have d3 : decide (ph < -1125899906842624) = false := decide_eq_false h2
    by_cases h3 : 1125899906842624 < ph
    ·have HN : Hid (¬ V) := Lib.hid (by rw [← HE.out]; exact fun q => by omega)
     have d4 : decide (1125899906842624 < ph) = true := decide_eq_true h3
     have m := mm0 w []; have k := m.out.k
     go_enter Tryz.func14, Tryz.ntmps14
     go_wp2_with (first | ((with_reducible refine cU ?_); clear k m; intro w m k) | ((with_reducible refine wU ?_); clear k m; intro w m k) | ((with_reducible refine lR (fun K hK => ⟨rfl, ?_⟩)); simp [results, Tryz.results14, go_sem]; refine hK _ ?_; clear hK K; exact ⟨⟨3, rfl, ⟨fun h => absurd h (by decide), fun h => absurd h HN.out⟩⟩, gO⟩))
    ·have d4 : decide (1125899906842624 < ph) = false := decide_eq_false h3
     have HQ : Hid (V = ∀ k < l.length, segE l k = 0) := Lib.hid (by rw [← HE.out]; exact propext ⟨fun q => q.2.2.2.2, fun q => ⟨h0, by omega, by omega, by omega, q⟩⟩)
     have HSG := Lib.hid (fun w' (o : Only [] w w') k hk => pSegE (k0 := k) ph hk (by omega) (HV.out.kept o))
     clear HE h0 h1 h2 h3
     obtain ⟨wo, hwo⟩ : ∃ wo : World, wo = w := ⟨_, rfl⟩
     subst hwo
     have m := mm0 wo []; have k := m.out.k
     go_enter Tryz.func14, Tryz.ntmps14
     go_wp2_with (first | ((with_reducible refine cU ?_); clear k m; intro w m k) | ((with_reducible refine wU ?_); clear k m; intro w m k))
     have OB := Lib.hid m.out.only
     have hbx := gB (w := w) (b := wo.heap.size)
     clear k m
     obtain ⟨wl, hwl⟩ : ∃ wl : World, wl = w := ⟨_, rfl⟩
     subst hwl
     go_loopw [3] (fun vi wr => ∃ j : Nat, j ≤ l.length ∧ vi = .int .i64 j ∧ (∀ i < j, segE l i = 0) ∧ Only [] wl wr) (fun vi _ => l.length - (intOf vi).toNat)
     case atStart => exact ⟨0, Nat.zero_le _, rfl, fun i hi => absurd hi (Nat.not_lt_zero i), Only.refl _ _⟩
     case round =>
      obtain ⟨j, hj, rfl, hz, ho⟩ := hrel
      have HZ := Lib.hid hz
      have OO := Lib.hid (OB.out.nil_trans ho); have HO := Lib.hid ho
      have hb := ho.got hbx (by simp)
      clear hz ho
      by_cases hlt : j < l.length
      ·have hlt2 : (j : Int) < (l.length : Int) := by omega
       have HSJ := Lib.hid (fun w' (o : Only [] wr w') => HSG.out w' (OO.out.nil_trans o) j hlt)
       obtain ⟨er, her⟩ : ∃ er, segE l j = er := ⟨_, rfl⟩
       rw [her] at HSJ
       by_cases hez : er = 0
       ·subst hez
        have HZ2 := Lib.hid (show ∀ i < j + 1, segE l i = 0 from fun i hi => by
         by_cases hij : i = j
         ·rw [hij]; exact her
         ·exact HZ.out i (by omega))
        clear her
        have m := mmR hb; have k := m.out.k
        go_wp2_with (first | ((with_reducible refine cU ?_); clear k m; intro w m k) | ((with_reducible first | refine cM (HSJ.out _ gO) ?_); clear k m; intro w m k) | ((with_reducible refine wU ?_); clear k m; intro w m k) | (go_roundw; (case rel => exact ⟨j + 1, by omega, by go_num, HZ2.out, HO.out.nil_trans gO⟩); (case measure => first | (simp [intOf]; done) | (simp [intOf]; omega))))
       ·have HN : Hid (¬ V) := Lib.hid (by rw [HQ.out]; exact fun q => hez (by rw [← her]; exact q j hlt))
        have d5 : (er != 0) = true := by simpa using hez
        clear her
        have HEZ := Lib.hid hez
        have m := mmR hb; have k := m.out.k
        go_wp2_with (first | ((with_reducible refine cU ?_); clear k m; intro w m k) | ((with_reducible first | refine cM (HSJ.out _ gO) ?_); clear k m; intro w m k) | ((with_reducible refine wU ?_); clear k m; intro w m k) | ((with_reducible refine lR (fun K hK => ⟨rfl, ?_⟩)); simp [results, Tryz.results14, go_sem]; refine hK _ ?_; clear hK K; exact ⟨⟨er, rfl, ⟨fun h => absurd h HEZ.out, fun h => absurd h HN.out⟩⟩, OO.out.nil_trans gO⟩))
      ·obtain rfl : j = l.length := by omega
       have HY : Hid V := Lib.hid (by rw [HQ.out]; exact HZ.out)
       have hge : ¬ (l.length : Int) < (l.length : Int) := by omega
       have m := mmR hb; have k := m.out.k
       go_wp2_with (first | ((with_reducible refine cU ?_); clear k m; intro w m k) | ((with_reducible refine wU ?_); clear k m; intro w m k) | ((with_reducible refine lR (fun K hK => ⟨rfl, ?_⟩)); simp [results, Tryz.results14, go_sem]; refine hK _ ?_; clear hK K; exact ⟨⟨0, rfl, ⟨fun _ => HY.out, fun _ => rfl⟩⟩, OO.out.nil_trans gO⟩))
end Go.Proofs.YtikjdmbfjkbndaaGreat

namespace Go.Proofs.YtikjdmbfjkbndaaGreat
open Go.RowKit Go.Sort

set_option maxRecDepth 100000 in
set_option maxHeartbeats 4000000 in
theorem pRFloor (a : Int) (h0 : -4611686018427387904 ≤ a) (h1 : a ≤ 4611686018427387904) (w : World) :
  Calls Tryz.prog 84 #[.int .i64 a, .int .i64 1000000000] w fun e w' => e = .returned (.int .i64 (a / 1000000000)) ∧ Only [] w w' := by
 obtain ⟨hfl, hneg⟩ := floor_of_tdiv a 1000000000 (by omega)
 have hrm := Int.tmod_add_mul_tdiv a 1000000000
 have hr1 : a.tmod 1000000000 < 1000000000 := Int.tmod_lt_of_pos a (by omega)
 have hr0 : -1000000000 < a.tmod 1000000000 := by have := Int.lt_tmod_of_pos a (show (0 : Int) < 1000000000 by omega); omega
 obtain ⟨q, hq⟩ : ∃ q, a.tdiv 1000000000 = q := ⟨_, rfl⟩
 obtain ⟨r, hr⟩ : ∃ r, a.tmod 1000000000 = r := ⟨_, rfl⟩
 rw [hq, hr] at hrm
 rw [hr] at hr0 hr1 hfl
 rw [hq] at hfl
 have r1 : IntKind.i64.wrap q = q := by rw [IntKind.wrap_i64]; omega
 have r2 : IntKind.i64.wrap r = r := by rw [IntKind.wrap_i64]; omega
 have r3 : IntKind.i64.wrap (q - 1) = q - 1 := by rw [IntKind.wrap_i64]; omega
 by_cases hs : r < 0
 ·rw [if_pos hs] at hfl
  have d1 : decide (r < 0) = true := decide_eq_true hs
  have HQ := Lib.hid (show q - 1 = a / 1000000000 by omega)
  clear hfl hneg hrm hr0 hr1 hs
  have m := mm0 w []; have k := m.out.k
  go_enter Tryz.func84, Tryz.ntmps84
  go_wp2_with (first | ((with_reducible refine wU ?_); clear k m; intro w m k) | ((with_reducible refine lE (fun w o g k K hK => ⟨rfl, ?_⟩)); simp [results, Tryz.results84, go_sem]; refine hK _ ?_; clear hK K k; skip; exact ⟨by rw [HQ.out], o⟩))
 ·rw [if_neg hs] at hfl
  have d1 : decide (r < 0) = false := decide_eq_false hs
  have HQ := Lib.hid (show q = a / 1000000000 by omega)
  clear hfl hneg hrm hr0 hr1 hs
  have m := mm0 w []; have k := m.out.k
  go_enter Tryz.func84, Tryz.ntmps84
  go_wp2_with (first | ((with_reducible refine wU ?_); clear k m; intro w m k) | ((with_reducible refine lE (fun w o g k K hK => ⟨rfl, ?_⟩)); simp [results, Tryz.results84, go_sem]; refine hK _ ?_; clear hK K k; skip; exact ⟨by rw [HQ.out], o⟩))
theorem gn_last (s : Sgm) (t : Int) : gn [s] t = max 0 (t - s.a) * s.p := rfl
theorem gn_cons (s s' : Sgm) (r : List Sgm) (t : Int) : gn (s :: s' :: r) t = max 0 (min t s'.a - s.a) * s.p + gn (s' :: r) t := rfl
/-- where segment k of the reading at t ends -/
def endO (l : List Sgm) (k : Nat) (t : Int) : Int := if k + 1 < l.length ∧ (l.getD (k + 1) ⟨0, 0⟩).a < t then (l.getD (k + 1) ⟨0, 0⟩).a else t
theorem gn_step {l : List Sgm} {k : Nat} {t : Int} (hk : k < l.length) : gn (l.drop k) t = max 0 (endO l k t - l[k].a) * l[k].p + gn (l.drop (k + 1)) t := by
 rw [List.drop_eq_getElem_cons hk]
 by_cases h : k + 1 < l.length
 ·rw [List.drop_eq_getElem_cons h, gn_cons, ← List.drop_eq_getElem_cons h]
  have hg : l.getD (k + 1) ⟨0, 0⟩ = l[k + 1] := by rw [List.getD_eq_getElem?_getD, List.getElem?_eq_getElem h]; rfl
  unfold endO
  rw [hg]
  congr 3
  by_cases h2 : l[k + 1].a < t
  ·rw [if_pos ⟨h, h2⟩]; omega
  ·rw [if_neg (fun q => h2 q.2)]; omega
 ·rw [List.drop_eq_nil_of_le (by omega), gn_last]
  unfold endO
  rw [if_neg (fun q => h q.1)]
  show _ = _ + 0
  omega
/-- before segment k -/
structure RdS (l : List Sgm) (t : Int) (k : Nat) (wh rs : Int) : Prop where
 sum : wh * 1000000000 + rs + gn (l.drop k) t = gn l t
 w0 : -(k * 600000000000) ≤ wh
 w1 : wh ≤ k * 600000000000
 r0 : -(k * 500000000000000) ≤ rs
 r1 : rs ≤ k * 500000000000000
theorem pr_bd {a p A : Int} (a0 : 0 ≤ a) (a1 : a ≤ A) (p0 : -500000 ≤ p) (p1 : p ≤ 500000) : -(A * 500000) ≤ a * p ∧ a * p ≤ A * 500000 := by
 have h1 := Int.mul_le_mul_of_nonneg_left p1 a0
 have h2 := Int.mul_le_mul_of_nonneg_left p0 a0
 have h3 := Int.mul_le_mul_of_nonneg_right a1 (show (0 : Int) ≤ 500000 by decide)
 rw [Int.mul_neg] at h2
 omega
theorem RdS.skip {l : List Sgm} {t : Int} {k : Nat} {wh rs : Int} (h : RdS l t k wh rs) (hk : k < l.length) (hn : endO l k t - l[k].a ≤ 0) : RdS l t (k + 1) wh rs := by
 have hs := h.sum
 rw [gn_step hk, show max 0 (endO l k t - l[k].a) = 0 by omega, Int.zero_mul, Int.zero_add] at hs
 have := h.w0; have := h.w1; have := h.r0; have := h.r1
 exact ⟨hs, by omega, by omega, by omega, by omega⟩
theorem RdS.add {l : List Sgm} {t : Int} {k : Nat} {wh rs n q r : Int} (h : RdS l t k wh rs) (hk : k < l.length) (hn : endO l k t - l[k].a = n) (h0 : 0 < n) (h1 : n ≤ 1125899906842624) (hq : n = q * 1000000000 + r) (r0 : 0 ≤ r) (r1 : r < 1000000000) (p0 : -500000 ≤ l[k].p) (p1 : l[k].p ≤ 500000) :
  RdS l t (k + 1) (wh + q * l[k].p) (rs + r * l[k].p) ∧ (-562949953500000 ≤ q * l[k].p ∧ q * l[k].p ≤ 562949953500000) ∧ (-500000000000000 ≤ r * l[k].p ∧ r * l[k].p ≤ 500000000000000) := by
 have hs := h.sum
 rw [gn_step hk, hn, show max 0 n = n by omega] at hs
 generalize l[k].p = p at hs p0 p1 ⊢
 have e : n * p = q * p * 1000000000 + r * p := by rw [hq, Int.add_mul, Int.mul_right_comm]
 rw [e] at hs
 have b1 := pr_bd (a := q) (A := 1125900) (by omega) (by omega) p0 p1
 have b2 := pr_bd (a := r) (A := 1000000000) r0 (by omega) p0 p1
 have := h.w0; have := h.w1; have := h.r0; have := h.r1
 generalize q * p = x at *
 generalize r * p = y at *
 refine ⟨⟨by omega, by omega, by omega, by omega, by omega⟩, ⟨by omega, by omega⟩, by omega, by omega⟩
def RdI (l : List Sgm) (t : Int) (wl : World) (vw vr vi : Value) (wr : World) : Prop :=
 ∃ (k : Nat) (wh rs : Int), k ≤ l.length ∧ vw = .int .i64 wh ∧ vr = .int .i64 rs ∧ vi = .int .i64 k ∧ RdS l t k wh rs ∧ Only [] wl wr
theorem seg_ok {l : List Sgm} {k : Nat} (hk : k < l.length) (h : segE l k = 0) : (0 ≤ l[k].a ∧ l[k].a ≤ 1125899906842624) ∧ (-500000 ≤ l[k].p ∧ l[k].p ≤ 500000) ∧ (k = 0 → l[k].a = 0) ∧ (∀ h1 : 0 < k, (l[k - 1]'(by omega)).a < l[k].a) := by
 have hg : l.getD k ⟨0, 0⟩ = l[k] := by rw [List.getD_eq_getElem?_getD, List.getElem?_eq_getElem hk]; rfl
 unfold segE at h
 rw [hg] at h
 split at h
 ·exact absurd h (by decide)
 ·rename_i h1
  split at h
  ·exact absurd h (by decide)
  ·rename_i h2
   split at h
   ·exact absurd h (by decide)
   ·rename_i h3
    refine ⟨by omega, by omega, fun hz => ?_, fun h1 => ?_⟩
    ·exact Classical.byContradiction fun q => h2 ⟨hz, q⟩
    ·have hg2 : l.getD (k - 1) ⟨0, 0⟩ = l[k - 1] := by rw [List.getD_eq_getElem?_getD, List.getElem?_eq_getElem (by omega)]; rfl
     rw [hg2] at h3
     omega
theorem srt_of : ∀ (l : List Sgm), (∀ k (hk : k < l.length) (h1 : 0 < k), (l[k - 1]'(by omega)).a < l[k].a) → Srt l
 | [], _ => trivial
 | [_], _ => trivial
 | s :: s' :: r, h => ⟨h 1 (by simp) (by decide), srt_of (s' :: r) fun k hk h1 => by
  have := h (k + 1) (by simpa using hk) (by omega)
  obtain ⟨j, rfl⟩ : ∃ j, k = j + 1 := ⟨k - 1, by omega⟩
  simpa using this⟩
theorem OscOk.srt {ph : Int} {l : List Sgm} (h : OscOk ph l) : Srt l := srt_of l fun k hk h1 => (seg_ok hk (h.2.2.2.2 k hk)).2.2.2 h1
theorem OscOk.msr {ph : Int} {l : List Sgm} (h : OscOk ph l) {a b : Int} (ha : 0 ≤ a) (hb : a ≤ b) : msr l b - msr l a = b - a := by
 have h0 : 0 < l.length := by have := h.1; omega
 have := (seg_ok h0 (h.2.2.2.2 0 h0)).2.2.1 rfl
 cases l with
 | nil => simp at h0
 | cons s r =>
  simp only [List.getElem_cons_zero] at this
  show max 0 (b - s.a) - max 0 (a - s.a) = b - a
  rw [this]; omega
theorem OscOk.p {ph : Int} {l : List Sgm} (h : OscOk ph l) : ∀ s ∈ l, -500000 ≤ s.p ∧ s.p ≤ 500000 := fun s hs => by
 obtain ⟨k, hk, rfl⟩ := List.getElem_of_mem hs
 exact (seg_ok hk (h.2.2.2.2 k hk)).2.1
theorem OscOk.r0 {ph : Int} {l : List Sgm} (h : OscOk ph l) : rdO ph l 0 = ph := by
 have key : ∀ (l : List Sgm), (∀ s ∈ l, 0 ≤ s.a) → gn l 0 = 0 := by
  intro l
  induction l with
  | nil => exact fun _ => rfl
  | cons s r ih =>
   intro hs
   have h1 := hs s (by simp)
   cases r with
   | nil => rw [gn_last, show max 0 (0 - s.a) = 0 by omega, Int.zero_mul]
   | cons s' r =>
    have h2 := hs s' (by simp)
    rw [gn_cons, show max 0 (min 0 s'.a - s.a) = 0 by omega, Int.zero_mul, Int.zero_add]
    exact ih fun x hx => hs x (List.mem_cons_of_mem _ hx)
 have := key l fun s hs => by
  obtain ⟨k, hk, rfl⟩ := List.getElem_of_mem hs
  exact (seg_ok hk (h.2.2.2.2 k hk)).1.1
 unfold rdO
 rw [this]
 simp
set_option maxRecDepth 100000 in
set_option maxHeartbeats 8000000 in
theorem pRead0 {w : World} {p : Option Addr} {n cap : Nat} {l : List Sgm} (ph t : Int) (hv : VRow sgC 2 w p n cap l) (hok : OscOk ph l) (t0 : 0 ≤ t) (t1 : t ≤ 1125899906842624) :
  Calls Tryz.prog 46 #[.agg #[.int .i64 ph, .slice p n cap], .int .i64 t] w fun e w' => e = .returned (.int .i64 (rdO ph l t)) ∧ Only [] w w' := by
 have HV := Lib.hid hv
 have hln := hv.len
 have hcap := Nat.le_trans hv.le hv.cm
 subst hln
 have HK := Lib.hid hok
 have h16 := hok.2.1
 clear hv hok
 obtain ⟨wo, hwo⟩ : ∃ wo : World, wo = w := ⟨_, rfl⟩
 subst hwo
 have m := mm0 wo []; have k := m.out.k
 go_enter Tryz.func46, Tryz.ntmps46
 go_wp2_with (first | ((with_reducible refine cU ?_); clear k m; intro w m k) | ((with_reducible refine wU ?_); clear k m; intro w m k))
 have OB := Lib.hid m.out.only
 have hbx := gB (w := w) (b := wo.heap.size)
 clear k m
 obtain ⟨wl, hwl⟩ : ∃ wl : World, wl = w := ⟨_, rfl⟩
 subst hwl
 go_loopw [5, 6, 7] (fun vw vr vi wr => RdI l t wl vw vr vi wr) (fun _ _ vi _ => l.length - (intOf vi).toNat)
 case atStart => exact ⟨0, 0, 0, Nat.zero_le _, rfl, rfl, rfl, ⟨by simp, by simp, by simp, by simp, by simp⟩, Only.refl _ _⟩
 case round =>
  obtain ⟨j, wh, rs, hj, rfl, rfl, rfl, hs, ho⟩ := hrel
  have HS := Lib.hid hs
  have OO := Lib.hid (OB.out.nil_trans ho); have HO := Lib.hid ho
  have hb := ho.got hbx (by simp)
  clear hs ho
  by_cases hlt : j < l.length
  ·have hlt2 : (j : Int) < (l.length : Int) := by omega
   obtain ⟨b, off, rfl, hX⟩ := HV.out.sgm hlt
   have hsk := seg_ok hlt (HK.out.2.2.2.2 j hlt)
   have ha0 := hsk.1; have hp0 := hsk.2.1
   have HNX := Lib.hid (fun (h1 : j + 1 < l.length) => HV.out.sgm h1)
   have HEN := Lib.hid (show endO l j t = if j + 1 < l.length ∧ (l.getD (j + 1) ⟨0, 0⟩).a < t then (l.getD (j + 1) ⟨0, 0⟩).a else t from rfl)
   have HSK := Lib.hid (HS.out.skip hlt)
   have HAD := Lib.hid (fun n q r => HS.out.add (n := n) (q := q) (r := r) hlt)
   have r0 : IntKind.i64.wrap ((j : Int) + 1) = ((j + 1 : Nat) : Int) := by rw [IntKind.wrap_i64]; omega
   have hbd := HS.out.w0; have hbd1 := HS.out.w1; have hbd2 := HS.out.r0; have hbd3 := HS.out.r1
   have HBD := Lib.hid (And.intro (And.intro hbd hbd1) (And.intro hbd2 hbd3))
   obtain ⟨e, he⟩ : ∃ e, endO l j t = e := ⟨_, rfl⟩
   have hec : (j + 1 < l.length ∧ (l.getD (j + 1) ⟨0, 0⟩).a < t ∧ e = (l.getD (j + 1) ⟨0, 0⟩).a) ∨ (j + 1 < l.length ∧ ¬ (l.getD (j + 1) ⟨0, 0⟩).a < t ∧ e = t) ∨ (¬ j + 1 < l.length ∧ e = t) := by
    rw [← he, HEN.out]
    by_cases q1 : j + 1 < l.length
    ·by_cases q2 : (l.getD (j + 1) ⟨0, 0⟩).a < t
     ·exact .inl ⟨q1, q2, if_pos ⟨q1, q2⟩⟩
     ·exact .inr (.inl ⟨q1, q2, if_neg (fun q => q2 q.2)⟩)
    ·exact .inr (.inr ⟨q1, if_neg (fun q => q1 q.1)⟩)
   rw [he] at HSK HAD
   clear HEN he hsk HS hbd hbd1 hbd2 hbd3
   generalize l[j] = s at hX ha0 hp0 HSK HAD
   obtain ⟨sa, sp⟩ := s
   dsimp only at hX ha0 hp0 HSK HAD
   have hwin : ∃ d, IntKind.i64.wrap (e - sa) = d ∧ e - sa = d ∧ -1125899906842624 ≤ d ∧ d ≤ 1125899906842624 ∧ e ≤ t := by
    refine ⟨e - sa, ?_, rfl, ?_⟩
    ·rw [IntKind.wrap_i64]
     rcases hec with ⟨q1, q2, q3⟩ | ⟨q1, q2, q3⟩ | ⟨q1, q3⟩
     ·have := (seg_ok q1 (HK.out.2.2.2.2 (j + 1) q1)).1
      have hg : l.getD (j + 1) ⟨0, 0⟩ = l[j + 1] := by rw [List.getD_eq_getElem?_getD, List.getElem?_eq_getElem q1]; rfl
      rw [hg] at q3
      omega
     ·omega
     ·omega
    ·rcases hec with ⟨q1, q2, q3⟩ | ⟨q1, q2, q3⟩ | ⟨q1, q3⟩
     ·have := (seg_ok q1 (HK.out.2.2.2.2 (j + 1) q1)).1
      have hg : l.getD (j + 1) ⟨0, 0⟩ = l[j + 1] := by rw [List.getD_eq_getElem?_getD, List.getElem?_eq_getElem q1]; rfl
      rw [hg] at q2 q3
      omega
     ·omega
     ·omega
   obtain ⟨d, hd1, hd2, hd3, hd4, -⟩ := hwin
   have hqr : ∃ q r, d.tdiv 1000000000 = q ∧ d.tmod 1000000000 = r ∧ (0 < d → d = q * 1000000000 + r ∧ 0 ≤ r ∧ r < 1000000000) := by
    refine ⟨_, _, rfl, rfl, fun hp => ?_⟩
    rw [Int.tdiv_eq_ediv_of_nonneg (by omega), Int.tmod_eq_emod_of_nonneg (by omega)]
    omega
   obtain ⟨q, r, hq1, hq2, hq3⟩ := hqr
   have hfin : 0 < d → (IntKind.i64.wrap (wh + q * sp) = wh + q * sp ∧ IntKind.i64.wrap (q * sp) = q * sp ∧ IntKind.i64.wrap (rs + r * sp) = rs + r * sp ∧ IntKind.i64.wrap (r * sp) = r * sp ∧ IntKind.i64.wrap q = q ∧ IntKind.i64.wrap r = r) := by
    intro hp
    obtain ⟨z1, z2, z3⟩ := hq3 hp
    obtain ⟨-, y1, y2⟩ := HAD.out d q r hd2 hp hd4 z1 z2 z3 hp0.1 hp0.2
    obtain ⟨⟨v1, v2⟩, v3, v4⟩ := HBD.out
    simp only [IntKind.wrap_i64]
    omega
   have HQ3 := Lib.hid hq3; have HFI := Lib.hid hfin; have HD2 := Lib.hid (And.intro hd2 (And.intro hd4 hp0))
   have HBK := Lib.hid hec
   clear hq3 hfin hd2 hd3 hd4 hp0 ha0 hec HBD
   have key : ∀ (C : World → Prop) , True := fun _ => trivial
   clear key
   rcases HBK.out with ⟨q1, q2, q3⟩ | ⟨q1, q2, q3⟩ | ⟨q1, q3⟩
   ·obtain ⟨b', off', hp', hY⟩ := HNX.out q1
    cases hp'
    have hg : l.getD (j + 1) ⟨0, 0⟩ = l[j + 1] := by rw [List.getD_eq_getElem?_getD, List.getElem?_eq_getElem q1]; rfl
    rw [hg] at q2 q3
    subst q3
    have q4 : ((j + 1 : Nat) : Int) < (l.length : Int) := by omega
    generalize l[j + 1] = s2 at *
    obtain ⟨ta, tp⟩ := s2
    dsimp only at *
    have HX := Lib.hid (fun w' (o : Only [] wr w') => And.intro (hX w' (OO.out.nil_trans o)) (hY w' (OO.out.nil_trans o)))
    clear hX hY
    by_cases hd : 0 < d
    ·obtain ⟨u1, u2, u3, u4, u5, u6⟩ := HFI.out hd
     have hdd : ¬ d ≤ 0 := by omega
     have m := mmR hb; have k := m.out.k
     have c := HX.out wr (Only.refl _ wr)
     go_wp2_with (first | ((with_reducible refine wU ?_); clear k m c; intro w m k; have c := HX.out w m.out.only) | (go_roundw; (case rel => exact ⟨j + 1, wh + q * sp, rs + r * sp, by omega, rfl, rfl, by go_num, (HAD.out d q r HD2.out.1 hd HD2.out.2.1 (HQ3.out hd).1 (HQ3.out hd).2.1 (HQ3.out hd).2.2 HD2.out.2.2.1 HD2.out.2.2.2).1, HO.out.nil_trans gO⟩); (case measure => first | (simp [intOf]; done) | (simp [intOf]; omega))))
    ·have hdd : d ≤ 0 := by omega
     have m := mmR hb; have k := m.out.k
     have c := HX.out wr (Only.refl _ wr)
     go_wp2_with (first | ((with_reducible refine wU ?_); clear k m c; intro w m k; have c := HX.out w m.out.only) | (go_roundw; (case rel => exact ⟨j + 1, wh, rs, by omega, rfl, rfl, by go_num, HSK.out (by rw [HD2.out.1]; exact hdd), HO.out.nil_trans gO⟩); (case measure => first | (simp [intOf]; done) | (simp [intOf]; omega))))
   ·obtain ⟨b', off', hp', hY⟩ := HNX.out q1
    cases hp'
    have hg : l.getD (j + 1) ⟨0, 0⟩ = l[j + 1] := by rw [List.getD_eq_getElem?_getD, List.getElem?_eq_getElem q1]; rfl
    rw [hg] at q2
    subst q3
    have q4 : ((j + 1 : Nat) : Int) < (l.length : Int) := by omega
    generalize l[j + 1] = s2 at *
    obtain ⟨ta, tp⟩ := s2
    dsimp only at *
    have HX := Lib.hid (fun w' (o : Only [] wr w') => And.intro (hX w' (OO.out.nil_trans o)) (hY w' (OO.out.nil_trans o)))
    clear hX hY
    by_cases hd : 0 < d
    ·obtain ⟨u1, u2, u3, u4, u5, u6⟩ := HFI.out hd
     have hdd : ¬ d ≤ 0 := by omega
     have m := mmR hb; have k := m.out.k
     have c := HX.out wr (Only.refl _ wr)
     go_wp2_with (first | ((with_reducible refine wU ?_); clear k m c; intro w m k; have c := HX.out w m.out.only) | (go_roundw; (case rel => exact ⟨j + 1, wh + q * sp, rs + r * sp, by omega, rfl, rfl, by go_num, (HAD.out d q r HD2.out.1 hd HD2.out.2.1 (HQ3.out hd).1 (HQ3.out hd).2.1 (HQ3.out hd).2.2 HD2.out.2.2.1 HD2.out.2.2.2).1, HO.out.nil_trans gO⟩); (case measure => first | (simp [intOf]; done) | (simp [intOf]; omega))))
    ·have hdd : d ≤ 0 := by omega
     have m := mmR hb; have k := m.out.k
     have c := HX.out wr (Only.refl _ wr)
     go_wp2_with (first | ((with_reducible refine wU ?_); clear k m c; intro w m k; have c := HX.out w m.out.only) | (go_roundw; (case rel => exact ⟨j + 1, wh, rs, by omega, rfl, rfl, by go_num, HSK.out (by rw [HD2.out.1]; exact hdd), HO.out.nil_trans gO⟩); (case measure => first | (simp [intOf]; done) | (simp [intOf]; omega))))
   ·subst q3
    have q4 : ¬ ((j + 1 : Nat) : Int) < (l.length : Int) := by omega
    have HX := Lib.hid (fun w' (o : Only [] wr w') => hX w' (OO.out.nil_trans o))
    clear hX
    by_cases hd : 0 < d
    ·obtain ⟨u1, u2, u3, u4, u5, u6⟩ := HFI.out hd
     have hdd : ¬ d ≤ 0 := by omega
     have m := mmR hb; have k := m.out.k
     have c := HX.out wr (Only.refl _ wr)
     go_wp2_with (first | ((with_reducible refine wU ?_); clear k m c; intro w m k; have c := HX.out w m.out.only) | (go_roundw; (case rel => exact ⟨j + 1, wh + q * sp, rs + r * sp, by omega, rfl, rfl, by go_num, (HAD.out d q r HD2.out.1 hd HD2.out.2.1 (HQ3.out hd).1 (HQ3.out hd).2.1 (HQ3.out hd).2.2 HD2.out.2.2.1 HD2.out.2.2.2).1, HO.out.nil_trans gO⟩); (case measure => first | (simp [intOf]; done) | (simp [intOf]; omega))))
    ·have hdd : d ≤ 0 := by omega
     have m := mmR hb; have k := m.out.k
     have c := HX.out wr (Only.refl _ wr)
     go_wp2_with (first | ((with_reducible refine wU ?_); clear k m c; intro w m k; have c := HX.out w m.out.only) | (go_roundw; (case rel => exact ⟨j + 1, wh, rs, by omega, rfl, rfl, by go_num, HSK.out (by rw [HD2.out.1]; exact hdd), HO.out.nil_trans gO⟩); (case measure => first | (simp [intOf]; done) | (simp [intOf]; omega))))
  ·obtain rfl : j = l.length := by omega
   have hge : ¬ (l.length : Int) < (l.length : Int) := by omega
   have hsum := HS.out.sum
   rw [List.drop_length] at hsum
   have hgn : gn [] t = 0 := rfl
   have hb0 := HS.out.w0; have hb1 := HS.out.w1; have hb2 := HS.out.r0; have hb3 := HS.out.r1
   have hph := HK.out.2.2
   have HFL := Lib.hid (fun w' => pRFloor rs (by omega) (by omega) w')
   obtain ⟨fr, hfr⟩ : ∃ fr, rs / 1000000000 = fr := ⟨_, rfl⟩
   rw [hfr] at HFL
   have HRS := Lib.hid (show ph + t + wh + fr = rdO ph l t by unfold rdO; omega)
   have u1 : IntKind.i64.wrap (ph + t) = ph + t := by rw [IntKind.wrap_i64]; omega
   have u2 : IntKind.i64.wrap (ph + t + wh) = ph + t + wh := by rw [IntKind.wrap_i64]; omega
   have u3 : IntKind.i64.wrap (ph + t + wh + fr) = ph + t + wh + fr := by rw [IntKind.wrap_i64]; omega
   clear hsum hgn hb0 hb1 hb2 hb3 hph hfr
   have m := mmR hb; have k := m.out.k
   go_wp2_with (first | ((with_reducible first | refine cM (HFL.out _) ?_); clear k m; intro w m k) | ((with_reducible refine rG (id := 12) [0, 1, 2, 3, 4, 5, 6, 7, 8, 9] [] (by kernel_rfl) (by kernel_rfl) ?_); simp only [pick, List.map_cons, List.map_nil, List.getD_cons_succ, List.getD_cons_zero]; (repeat' (first | go_big_quiet_step (with_reducible first | exact gX (HFL.out _)) | (refine wpQuiet_step (fun K hK => ?_); go_simp; (first | (refine hK _ ?_; clear hK K) | (split <;> (refine hK _ ?_; clear hK K)))))); all_goals (refine wpQuiet_nil ?_; clear k m; intro w m k)) | ((with_reducible refine wU ?_); clear k m; intro w m k) | ((with_reducible refine lE (fun w o g k K hK => ⟨rfl, ?_⟩)); simp [results, Tryz.results46, go_sem]; refine hK _ ?_; clear hK K k; skip; exact ⟨by rw [HRS.out], OO.out.nil_trans o⟩))
set_option maxRecDepth 100000 in
set_option maxHeartbeats 4000000 in
theorem pRead {w : World} {p : Option Addr} {n cap : Nat} {l : List Sgm} (ph t : Int) (hv : VRow sgC 2 w p n cap l) (hok : OscOk ph l) (t0 : 0 ≤ t) (t1 : t ≤ 1125899906842624) :
  Calls Tryz.prog 16 #[.agg #[.int .i64 ph, .slice p n cap], .int .i64 t] w fun e w' => e = .returned (.tuple #[.int .i64 (rdO ph l t), .int .i64 0]) ∧ Only [] w w' := by
 have HCK := Lib.hid (fun w' (o : Only [] w w') => (show Calls Tryz.prog 14 #[.agg #[.int .i64 ph, .slice p n cap]] w' fun e w2 => e = .returned (.int .i64 0) ∧ Only [] w' w2 from (pOscChk ph (hv.kept o)).mono (by rintro e w2 ⟨⟨er, rfl, h1⟩, ho⟩; rw [h1.2 hok]; exact ⟨rfl, ho⟩)))
 have HRD := Lib.hid (fun w' (o : Only [] w w') => pRead0 ph t (hv.kept o) hok t0 t1)
 have d1 : decide (t < 0) = false := decide_eq_false (by omega)
 have d2 : decide (1125899906842624 < t) = false := decide_eq_false (by omega)
 clear hv hok t0 t1
 generalize rdO ph l t = res at HRD ⊢
 obtain ⟨wo, hwo⟩ : ∃ wo : World, wo = w := ⟨_, rfl⟩
 subst hwo
 have m := mm0 wo []; have k := m.out.k
 go_enter Tryz.func16, Tryz.ntmps16
 go_wp2_with (first | ((with_reducible first | refine cM (HCK.out _ gO) ?_ | refine cM (HRD.out _ gO) ?_); clear k m; intro w m k) | ((with_reducible refine cU ?_); clear k m; intro w m k) | ((with_reducible refine wU ?_); clear k m; intro w m k) | ((with_reducible refine lE (fun w o g k K hK => ⟨rfl, ?_⟩)); simp [results, Tryz.results16, go_sem]; refine hK _ ?_; clear hK K k; skip; exact ⟨rfl, o⟩))
end Go.Proofs.YtikjdmbfjkbndaaGreat

namespace Go.Proofs.YtikjdmbfjkbndaaGreat
open Go.RowKit Go.Sort

theorem takeS {α : Type} (l : List α) {j : Nat} (h : j < l.length) : l.take (j + 1) = l.take j ++ [l[j]] := by
 rw [List.take_add_one, List.getElem?_eq_getElem h]; rfl
set_option maxRecDepth 100000 in
set_option maxHeartbeats 4000000 in
theorem pBoundO {w : World} {p : Option Addr} {n cap : Nat} {l : List Sgm} (ph : Int) (hv : VRow sgC 2 w p n cap l) (hok : OscOk ph l) :
  Calls Tryz.prog 15 #[.agg #[.int .i64 ph, .slice p n cap]] w fun e w' => (∃ B : Int, e = .returned (.int .i64 B) ∧ 0 ≤ B ∧ B ≤ 500000 ∧ ∀ s ∈ l, -B ≤ s.p ∧ s.p ≤ B) ∧ Only [] w w' := by
 have HCK := Lib.hid (fun w' (o : Only [] w w') => (show Calls Tryz.prog 14 #[.agg #[.int .i64 ph, .slice p n cap]] w' fun e w2 => e = .returned (.int .i64 0) ∧ Only [] w' w2 from (pOscChk ph (hv.kept o)).mono (by rintro e w2 ⟨⟨er, rfl, h1⟩, ho⟩; rw [h1.2 hok]; exact ⟨rfl, ho⟩)))
 have HV := Lib.hid hv
 have hln := hv.len
 have hcap := Nat.le_trans hv.le hv.cm
 subst hln
 have HP := Lib.hid hok.p
 have h16 := hok.2.1
 clear hv hok
 obtain ⟨wo, hwo⟩ : ∃ wo : World, wo = w := ⟨_, rfl⟩
 subst hwo
 have m := mm0 wo []; have k := m.out.k
 go_enter Tryz.func15, Tryz.ntmps15
 go_wp2_with (first | ((with_reducible first | refine cM (HCK.out _ gO) ?_); clear k m; intro w m k) | ((with_reducible refine cU ?_); clear k m; intro w m k) | ((with_reducible refine wU ?_); clear k m; intro w m k))
 have OB := Lib.hid m.out.only
 have hbx := gB (w := w) (b := wo.heap.size)
 clear k m
 obtain ⟨wl, hwl⟩ : ∃ wl : World, wl = w := ⟨_, rfl⟩
 subst hwl
 go_loopw [3, 4] (fun vm vi wr => ∃ (j : Nat) (B : Int), j ≤ l.length ∧ vm = .int .i64 B ∧ vi = .int .i64 j ∧ 0 ≤ B ∧ B ≤ 500000 ∧ (∀ s ∈ l.take j, -B ≤ s.p ∧ s.p ≤ B) ∧ Only [] wl wr) (fun _ vi _ => l.length - (intOf vi).toNat)
 case atStart => exact ⟨0, 0, Nat.zero_le _, rfl, rfl, Int.le_refl _, by decide, by simp, Only.refl _ _⟩
 case round =>
  obtain ⟨j, B, hj, rfl, rfl, hB0, hB1, hall, ho⟩ := hrel
  have HA := Lib.hid hall
  have OO := Lib.hid (OB.out.nil_trans ho); have HO := Lib.hid ho
  have hb := ho.got hbx (by simp)
  clear hall ho
  by_cases hlt : j < l.length
  ·have hlt2 : (j : Int) < (l.length : Int) := by omega
   obtain ⟨b, off, rfl, hX⟩ := HV.out.sgm hlt
   have hp := HP.out l[j] (List.getElem_mem hlt)
   have HT := Lib.hid (takeS l hlt)
   generalize l[j] = s at hX hp HT
   obtain ⟨sa, sp⟩ := s
   dsimp only at hX hp
   have HX := Lib.hid (fun w' (o : Only [] wr w') => hX w' (OO.out.nil_trans o))
   have u1 : IntKind.i64.wrap (-sp) = -sp := by rw [IntKind.wrap_i64]; omega
   have HM : Hid (∀ M : Int, M = (if (if B < sp then sp else B) < -sp then -sp else if B < sp then sp else B) → 0 ≤ M ∧ M ≤ 500000 ∧ ∀ s ∈ l.take (j + 1), -M ≤ s.p ∧ s.p ≤ M) := Lib.hid (by
    intro M hM
    have hM2 : M ≤ 500000 ∧ B ≤ M ∧ sp ≤ M ∧ -sp ≤ M := by
     by_cases h1 : B < sp
     ·by_cases h2 : sp < -sp
      ·simp only [h1, h2, if_true] at hM; omega
      ·simp only [h1, h2, if_true, if_false] at hM; omega
     ·by_cases h2 : B < -sp
      ·simp only [h1, h2, if_true, if_false] at hM; omega
      ·simp only [h1, h2, if_false] at hM; omega
    refine ⟨by omega, by omega, fun s hs => ?_⟩
    rw [HT.out] at hs
    rcases List.mem_append.1 hs with hs | hs
    ·have := HA.out s hs; omega
    ·rw [List.mem_singleton.1 hs]; dsimp only; omega)
   clear hX hp hB0 hB1
   have m := mmR hb; have k := m.out.k
   have c := HX.out wr (Only.refl _ wr)
   go_wp2_with (first | ((with_reducible refine rG (id := 7) [0, 1, 2, 3, 4, 5, 6, 7, 8, 9, 10, 11, 12, 13, 14, 15] [] (by kernel_rfl) (by kernel_rfl) ?_); simp only [pick, List.map_cons, List.map_nil, List.getD_cons_succ, List.getD_cons_zero]; (repeat' (first | go_big_quiet_step (fail) | (refine wpQuiet_step (fun K hK => ?_); go_simp; (first | (refine hK _ ?_; clear hK K) | (split <;> (refine hK _ ?_; clear hK K)))))); all_goals (refine wpQuiet_nil ?_; clear k m c; intro w m k; have c := HX.out w m.out.only)) | ((with_reducible refine wU ?_); clear k m c; intro w m k; have c := HX.out w m.out.only) | (go_roundw; (case rel => exact ⟨j + 1, _, by omega, rfl, by go_num, (HM.out _ rfl).1, (HM.out _ rfl).2.1, (HM.out _ rfl).2.2, HO.out.nil_trans gO⟩); (case measure => first | (simp [intOf]; done) | (simp [intOf]; omega))))
  ·obtain rfl : j = l.length := by omega
   have hge : ¬ (l.length : Int) < (l.length : Int) := by omega
   have hl := HA.out
   rw [List.take_length] at hl
   have HL := Lib.hid (And.intro hB0 (And.intro hB1 hl))
   clear hl hB0 hB1
   have m := mmR hb; have k := m.out.k
   go_wp2_with (first | ((with_reducible refine wU ?_); clear k m; intro w m k) | ((with_reducible refine lR (fun K hK => ⟨rfl, ?_⟩)); simp [results, Tryz.results15, go_sem]; refine hK _ ?_; clear hK K; exact ⟨⟨B, rfl, HL.out⟩, OO.out.nil_trans gO⟩))
theorem osc_of {ph B : Int} {l : List Sgm} (h : OscOk ph l) (b0 : 0 ≤ B) (b1 : B ≤ 500000) (hB : ∀ s ∈ l, -B ≤ s.p ∧ s.p ≤ B) : ∀ a b, 0 ≤ a → a ≤ b →
  (elLo (rdO ph l b - rdO ph l a) B ≤ b - a ∧ b - a ≤ elHi (rdO ph l b - rdO ph l a) B) ∧ rdO ph l a ≤ rdO ph l b ∧ rdO ph l b - rdO ph l a ≤ 2 * (b - a) := by
 intro a b ha hab
 obtain ⟨h1, h2⟩ := rd_el (ph := ph) hab hB h.srt (h.msr ha hab)
 refine ⟨el_has b0 b1 (by omega) h1 h2, ?_⟩
 have h3 := Int.mul_le_mul_of_nonneg_right b1 (show 0 ≤ b - a by omega)
 have h4 := Int.mul_nonneg b0 (show 0 ≤ b - a by omega)
 generalize B * (b - a) = x at *
 by_cases hz : b = a
 ·subst hz; omega
 ·omega
end Go.Proofs.YtikjdmbfjkbndaaGreat
