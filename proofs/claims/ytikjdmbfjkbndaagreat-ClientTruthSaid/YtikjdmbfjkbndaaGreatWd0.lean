/- ClientTruth, walked. Conditions: those named in each theorem. -/
import Derived.Test.YtikjdmbfjkbndaaGreatWc0
import Derived.Test.YtikjdmbfjkbndaaGreatWb0
namespace Go.Proofs.YtikjdmbfjkbndaaGreat
open Go.RowKit Go.Sort

theorem VRow.tp {w : World} {p : Option Addr} {n cap : Nat} {l : List Tp} (hv : VRow tpC 7 w p n cap l) {k : Nat} (hk : k < l.length) : ∃ b off, p = some ⟨b, off, none⟩ ∧ ∀ w', Only [] w w' → b < w'.heap.size ∧ w'.cell? ⟨b, off + k * 7, none⟩ = some (.int .i64 l[k].sv) ∧ w'.cell? ⟨b, off + k * 7 + 1, none⟩ = some (.int .i64 l[k].tm) ∧ w'.cell? ⟨b, off + k * 7 + 2, none⟩ = some (.int .i64 l[k].out) ∧ w'.cell? ⟨b, off + k * 7 + 3, none⟩ = some (.int .i64 l[k].back) ∧ w'.cell? ⟨b, off + k * 7 + 4, none⟩ = some (.int .i64 l[k].lo) ∧ w'.cell? ⟨b, off + k * 7 + 5, none⟩ = some (.int .i64 l[k].hi) ∧ w'.cell? ⟨b, off + k * 7 + 6, none⟩ = some (.bool l[k].upd) := by
 obtain ⟨b, off, hp, hb, h⟩ := hv.cell k l[k] (List.getElem?_eq_getElem hk)
 have g : ∀ w', Only [] w w' → ∀ j v, (tpC l[k])[j]? = some v → w'.cell? ⟨b, off + k * 7 + j, none⟩ = some v := fun w' ho j v hj => by
  rw [ho.cell hb (by simp), Nat.add_assoc]; exact h j v hj
 exact ⟨b, off, hp, fun w' ho => ⟨Nat.lt_of_lt_of_le hb ho.size, g w' ho 0 _ rfl, g w' ho 1 _ rfl, g w' ho 2 _ rfl, g w' ho 3 _ rfl, g w' ho 4 _ rfl, g w' ho 5 _ rfl, g w' ho 6 _ rfl⟩⟩
/-- before an exchange -/
structure TuS (wo wr : World) (bx bc : Nat) (ph : Int) (l : List Sgm) (tol : Int) (sv li k : Nat) (τ : Int) (P : Pl) (c : Cl) (xs : List Value) : Prop where
 bc : P.bc = bc
 cl : ClAt wr P c
 tr : TrI (rdO ph l) tol sv li k c τ
 t0 : 0 ≤ τ
 t1 : τ ≤ k * 19791209299968
 ge : ∀ b ∈ P.all, wo.heap.size ≤ b
 nb : bx ∉ P.all
 bo : wo.heap.size ≤ bx
 hx : wr.heap[bx]? = some (.cells xs.toArray 52 (0, 0))
 only : Only [] wo wr
def TuI (wo : World) (bx bc : Nat) (ph : Int) (l : List Sgm) (tol : Int) (sv li n : Nat) (xs : List Value) (va vi : Value) (wr : World) : Prop :=
 ∃ (k : Nat) (τ : Int) (P : Pl) (c : Cl), k ≤ n ∧ va = .int .i64 τ ∧ vi = .int .i64 k ∧ TuS wo wr bx bc ph l tol sv li k τ P c xs
theorem conf_ok {sv B : Int} (h0 : 1 ≤ sv) (h1 : sv ≤ 12) (b0 : 0 ≤ B) (b1 : B ≤ 500000) : ccheck ⟨sv, B, 1, 3, ⟨65536, 655, 500000, 0, 0⟩, 500000, 4, 6⟩ = 0 := by
 have e1 : wth sv 1 12 = true := by rw [wth_iff]; omega
 have e2 : wth B 0 500000 = true := by rw [wth_iff]; omega
 unfold ccheck
 dsimp only
 rw [e1, e2]
 rfl
/-- a new client -/
theorem TrI.new {f : Int → Int} {tol : Int} {n li : Nat} (hf : OscF f tol) (n0 : 1 ≤ n) (n1 : n ≤ 12) (t0 : 0 ≤ tol) (t1 : tol ≤ 500000) : TrI f tol n li 0 (cl0 ⟨n, tol, 1, 3, ⟨65536, 655, 500000, 0, 0⟩, 500000, 4, 6⟩ (f 0) (f 0)) 0 := by
 have s0 := hf.s0; have s1 := hf.s1
 have hT : isT (f 0) = true := by unfold isT; rw [wth_iff]; omega
 have hc := conf_ok (sv := n) (B := tol) (by omega) (by omega) t0 t1
 have hn : clNow (cl0 ⟨n, tol, 1, 3, ⟨65536, 655, 500000, 0, 0⟩, 500000, 4, 6⟩ (f 0) (f 0)) (f 0) = (f 0, 0) := by
  have h1 : cNow ⟨f 0, f 0, 0, 0⟩ (f 0) = (f 0, 0) := by
   unfold cNow
   dsimp only
   rw [if_neg (by omega), if_neg (by omega), show_at, if_pos hT]
  unfold clNow cl0
  dsimp only
  rw [h1]
  simp
 have hl : (cl0 ⟨n, tol, 1, 3, ⟨65536, 655, 500000, 0, 0⟩, 500000, 4, 6⟩ (f 0) (f 0)).srcs = List.replicate n (sr0 ⟨n, tol, 1, 3, ⟨65536, 655, 500000, 0, 0⟩, 500000, 4, 6⟩) := by
  unfold cl0; simp
 have hu := ClU.new hc
 refine ⟨⟨ClOk.new hT hT ⟨by dsimp only; omega, by dsimp only; omega⟩, hu.sv, hu.g, hu.tol, hu.kp, hu.rd⟩, rfl, rfl, by rw [hl, List.length_replicate], ⟨rfl, rfl⟩, by rw [hn], by rw [hn]; exact Int.le_refl _, by rw [hn]; dsimp only; omega, ?_, ⟨0, Int.le_refl _, Int.le_refl _, rfl, by show (-4503599627370496 : Int) ≤ 0; decide, by show (0 : Int) ≤ 4503599627370496; decide⟩, ?_⟩
 ·intro i s hs _ hp
  rw [hl] at hs
  have := List.mem_of_getElem? hs
  obtain rfl := (List.mem_replicate.1 this).2
  exact absurd hp (by simp [sr0])
 ·intro s hs
  rw [hl] at hs
  obtain rfl := (List.mem_replicate.1 hs).2
  show (0 : Int) ≤ 0 ∧ (0 : Int) % 64 ≤ ((0 : Nat) : Int)
  decide
set_option maxRecDepth 100000 in
set_option maxHeartbeats 16000000 in
theorem pTruth {w : World} {p q : Option Addr} {n cap n2 cap2 : Nat} {l : List Sgm} {ts : List Tp} (ph sv li : Int) (hv : VRow sgC 2 w p n cap l) (hq : VRow tpC 7 w q n2 cap2 ts) :
  Calls Tryz.prog 4 #[.agg #[.int .i64 ph, .slice p n cap, .int .i64 sv, .int .i64 li, .slice q n2 cap2]] w fun e w' => e = .returned (.bool true) ∧ Only [] w w' := by
 have HV := Lib.hid hv; have HQ := Lib.hid hq
 have HAW := Lib.hid (fun w' => pAwake w')
 have hl1 := hv.len; have hl2 := hq.len
 have hca := Nat.le_trans hq.le hq.cm
 subst hl1 hl2
 clear hv hq
 obtain ⟨wo, hwo⟩ : ∃ wo : World, wo = w := ⟨_, rfl⟩
 subst hwo
 by_cases hok : OscOk ph l
 rotate_left
 ·have HCK := Lib.hid (fun w' (o : Only [] wo w') => (show Calls Tryz.prog 14 #[.agg #[.int .i64 ph, .slice p l.length cap]] w' fun e w2 => (∃ er : Int, e = .returned (.int .i64 er) ∧ er ≠ 0) ∧ Only [] w' w2 from (pOscChk ph (HV.out.kept o)).mono (by rintro e w2 ⟨⟨er, rfl, h1⟩, ho⟩; exact ⟨⟨er, rfl, fun q => hok (h1.1 q)⟩, ho⟩)))
  have m := mm0 wo []; have k := m.out.k
  go_enter Tryz.func4, Tryz.ntmps4
  go_wp2_with (first | ((with_reducible refine cU ?_); clear k m; intro w m k) | ((with_reducible refine wU ?_); clear k m; intro w m k))
  refine (HCK.out _ m.out.only).mono ?_
  rintro e w2 ⟨⟨er, rfl, her⟩, ho2⟩
  have fe : (er != 0) = true := by simpa using her
  have fe2 : (er == 0) = false := by simpa using her
  have m2 : Mm wo [] w2 _ := ⟨m.out.call ho2⟩
  clear k m ho2
  have m := m2; have k := m.out.k
  clear m2
  go_wp2_with (first | ((with_reducible first | refine cM (HAW.out _) ?_); clear k m; intro w m k) | ((with_reducible refine cU ?_); clear k m; intro w m k) | ((with_reducible refine wU ?_); clear k m; intro w m k) | ((with_reducible refine lE (fun w o g k K hK => ⟨rfl, ?_⟩)); simp [results, Tryz.results4, go_sem]; refine hK _ ?_; clear hK K k; skip; exact ⟨rfl, o⟩))
 ·have HCK := Lib.hid (fun w' (o : Only [] wo w') => (show Calls Tryz.prog 14 #[.agg #[.int .i64 ph, .slice p l.length cap]] w' fun e w2 => e = .returned (.int .i64 0) ∧ Only [] w' w2 from (pOscChk ph (HV.out.kept o)).mono (by rintro e w2 ⟨⟨er, rfl, h1⟩, ho⟩; rw [h1.2 hok]; exact ⟨rfl, ho⟩)))
  have HOK := Lib.hid hok
  clear hok
  obtain ⟨mm, hmm⟩ : ∃ x, 2 * min li 100 = x := ⟨_, rfl⟩
  by_cases h1 : sv < 1
  ·have f1 : decide (sv < 1) = true := decide_eq_true h1
   have m := mm0 wo []; have k := m.out.k
   go_enter Tryz.func4, Tryz.ntmps4
   go_wp2_with (first | ((with_reducible first | refine cM (HCK.out _ gO) ?_ | refine cM (HAW.out _) ?_); clear k m; intro w m k) | ((with_reducible refine cU ?_); clear k m; intro w m k) | ((with_reducible refine wU ?_); clear k m; intro w m k) | ((with_reducible refine lE (fun w o g k K hK => ⟨rfl, ?_⟩)); simp [results, Tryz.results4, go_sem]; refine hK _ ?_; clear hK K k; skip; exact ⟨rfl, o⟩))
  ·have f1 : decide (sv < 1) = false := decide_eq_false h1
   by_cases h2 : 12 < sv
   ·have f2 : decide (12 < sv) = true := decide_eq_true h2
    have m := mm0 wo []; have k := m.out.k
    go_enter Tryz.func4, Tryz.ntmps4
    go_wp2_with (first | ((with_reducible first | refine cM (HCK.out _ gO) ?_ | refine cM (HAW.out _) ?_); clear k m; intro w m k) | ((with_reducible refine cU ?_); clear k m; intro w m k) | ((with_reducible refine wU ?_); clear k m; intro w m k) | ((with_reducible refine lE (fun w o g k K hK => ⟨rfl, ?_⟩)); simp [results, Tryz.results4, go_sem]; refine hK _ ?_; clear hK K k; skip; exact ⟨rfl, o⟩))
   ·have f2 : decide (12 < sv) = false := decide_eq_false h2
    by_cases h3 : li < 0
    ·have f3 : decide (li < 0) = true := decide_eq_true h3
     have m := mm0 wo []; have k := m.out.k
     go_enter Tryz.func4, Tryz.ntmps4
     go_wp2_with (first | ((with_reducible first | refine cM (HCK.out _ gO) ?_ | refine cM (HAW.out _) ?_); clear k m; intro w m k) | ((with_reducible refine cU ?_); clear k m; intro w m k) | ((with_reducible refine wU ?_); clear k m; intro w m k) | ((with_reducible refine lE (fun w o g k K hK => ⟨rfl, ?_⟩)); simp [results, Tryz.results4, go_sem]; refine hK _ ?_; clear hK K k; skip; exact ⟨rfl, o⟩))
    ·have f3 : decide (li < 0) = false := decide_eq_false h3
     have hmw : IntKind.i64.wrap (2 * min li 100) = mm := by rw [hmm, IntKind.wrap_i64]; omega
     by_cases h4 : sv ≤ mm
     ·have f4 : decide (sv ≤ mm) = true := decide_eq_true h4
      have f4b : decide (mm ≥ sv) = true := decide_eq_true h4
      have m := mm0 wo []; have k := m.out.k
      go_enter Tryz.func4, Tryz.ntmps4
      go_wp2_with (first | ((with_reducible first | refine cM (HCK.out _ gO) ?_ | refine cM (HAW.out _) ?_); clear k m; intro w m k) | ((with_reducible refine cU ?_); clear k m; intro w m k) | ((with_reducible refine wU ?_); clear k m; intro w m k) | ((with_reducible refine lE (fun w o g k K hK => ⟨rfl, ?_⟩)); simp [results, Tryz.results4, go_sem]; refine hK _ ?_; clear hK K k; skip; exact ⟨rfl, o⟩))
     ·have f4 : decide (sv ≤ mm) = false := decide_eq_false h4
      have f4b : decide (mm ≥ sv) = false := decide_eq_false h4
      by_cases h5 : (40 : Int) < (ts.length : Int)
      ·have f5 : decide ((40 : Int) < (ts.length : Int)) = true := decide_eq_true h5
       have m := mm0 wo []; have k := m.out.k
       go_enter Tryz.func4, Tryz.ntmps4
       go_wp2_with (first | ((with_reducible first | refine cM (HCK.out _ gO) ?_ | refine cM (HAW.out _) ?_); clear k m; intro w m k) | ((with_reducible refine cU ?_); clear k m; intro w m k) | ((with_reducible refine wU ?_); clear k m; intro w m k) | ((with_reducible refine lE (fun w o g k K hK => ⟨rfl, ?_⟩)); simp [results, Tryz.results4, go_sem]; refine hK _ ?_; clear hK K k; skip; exact ⟨rfl, o⟩))
      ·have f5 : decide ((40 : Int) < (ts.length : Int)) = false := decide_eq_false h5
       obtain ⟨svN, rfl⟩ : ∃ k : Nat, sv = (k : Int) := ⟨sv.toNat, by omega⟩
       obtain ⟨liN, rfl⟩ : ∃ k : Nat, li = (k : Int) := ⟨li.toNat, by omega⟩
       have hl2 : 2 * liN < svN := by omega
       have hsv : 1 ≤ svN ∧ svN ≤ 12 := by omega
       have HB := Lib.hid (fun w' (o : Only [] wo w') => pBoundO ph (HV.out.kept o) HOK.out)
       have HR0 := Lib.hid (fun w' (o : Only [] wo w') => pRead ph 0 (HV.out.kept o) HOK.out (by omega) (by omega))
       have HCO := Lib.hid (fun w' => pConf svN w')
       unfold cfV confC at HCO
       dsimp only at HCO
       clear hmm h1 h2 h3 h4
       have m := mm0 wo []; have k := m.out.k
       go_enter Tryz.func4, Tryz.ntmps4
       go_wp2_with (first | ((with_reducible first | refine cM (HCK.out _ gO) ?_ | refine cM (HCO.out _) ?_); clear k m; intro w m k) | ((with_reducible refine cU ?_); clear k m; intro w m k) | ((with_reducible refine wU ?_); clear k m; intro w m k))
       refine (HB.out _ m.out.only).mono ?_
       rintro e w2 ⟨⟨B, rfl, hB0, hB1, hBl⟩, ho2⟩
       have hos := osc_of (ph := ph) HOK.out hB0 hB1 hBl
       have hr0 := HOK.out.r0
       have hph := HOK.out.2.2
       have HF := Lib.hid (show OscF (rdO ph l) B from ⟨fun a b h0 h1 => (hos a b h0 h1).1, fun a b h0 h1 => (hos a b h0 h1).2.1, fun a b h0 h1 => (hos a b h0 h1).2.2, by rw [hr0]; exact hph.1, by rw [hr0]; exact hph.2.1⟩)
       have HT0 := Lib.hid (TrI.new (li := liN) HF.out hsv.1 hsv.2 hB0 hB1)
       have hcc := conf_ok (sv := svN) (B := B) (by omega) (by omega) hB0 hB1
       have HNW := Lib.hid (fun w' => pClNew ⟨svN, B, 1, 3, ⟨65536, 655, 500000, 0, 0⟩, 500000, 4, 6⟩ (rdO ph l 0) (rdO ph l 0) hcc rfl ⟨by dsimp only; omega, by dsimp only; omega⟩ ⟨hB0, hB1⟩ w')
       have hiT : (isT (rdO ph l 0) && isT (rdO ph l 0)) = true := by rw [hr0]; unfold isT; rw [Bool.and_self, wth_iff]; omega
       have m2 : Mm wo [] w2 _ := ⟨m.out.call ho2⟩
       clear k m ho2 hos hr0 hph hcc hBl
       have m := m2; have k := m.out.k
       clear m2
       unfold cfV NewR at HNW
       dsimp only at HNW
       generalize cl0 ⟨svN, B, 1, 3, ⟨65536, 655, 500000, 0, 0⟩, 500000, 4, 6⟩ (rdO ph l 0) (rdO ph l 0) = c0 at HNW HT0
       go_wp2_with (first | ((with_reducible first | refine cM (HR0.out _ gO) ?_); clear k m; intro w m k) | ((with_reducible refine cU ?_); clear k m; intro w m k) | ((with_reducible refine wU ?_); clear k m; intro w m k))
       refine (HNW.out _).mono ?_
       rintro e w3 ⟨hN, ho3⟩
       obtain ⟨P, rfl, hcl, hge⟩ : ∃ P : Pl, e = .returned (.pointer (some ⟨P.bc, 0, none⟩)) ∧ ClAt w3 P c0 ∧ ∀ b ∈ P.all, w.heap.size ≤ b := by
        rcases hN with ⟨h, _⟩ | ⟨_, h⟩
        ·rw [hiT] at h; exact absurd h (by decide)
        ·exact h
       have hsz := m.out.only.size
       have hbx0 := gB (w := w) (b := wo.heap.size)
       have hlt0 := got_lt hbx0
       have hbx := ho3.got hbx0 (by simp)
       obtain ⟨bx, hbxe⟩ : ∃ b, wo.heap.size = b := ⟨_, rfl⟩
       obtain ⟨bc0, hbc0⟩ : ∃ b, P.bc = b := ⟨_, rfl⟩
       rw [hbc0]
       have O2 := Lib.hid (m.out.only.nil_trans ho3)
       have HI := Lib.hid (show TuS wo w3 bx bc0 ph l B svN liN 0 0 P c0 [.int .i64 ph, .slice p l.length cap, .int .i64 svN, .int .i64 liN, .slice q ts.length cap2] from ⟨hbc0, hcl, HT0.out, Int.le_refl _, by omega, fun b hb => Nat.le_trans hsz (hge b hb), fun hm => by have := hge bx hm; omega, by omega, by rw [← hbxe]; exact hbx, O2.out⟩)
       rw [hbxe] at hbx hlt0 ⊢
       clear k m hcl hge hN ho3 hsz hbx0 hlt0 HNW hiT HT0
       obtain ⟨wb, hwb⟩ : ∃ wb : World, wb = w3 := ⟨_, rfl⟩
       subst hwb
       have m : Mm wb [] wb _ := ⟨(Mem.start wb []).ext false hbx (by simp) (by simp)⟩
       have k := m.out.k
       clear hbx
       go_wp2_with (first | ((with_reducible refine cU ?_); clear k m; intro w m k) | ((with_reducible refine wU ?_); clear k m; intro w m k))
       have HI2 := HI
       clear k m HI
       go_loopw [7, 73] (fun va vi wr => TuI wo bx bc0 ph l B svN liN ts.length [.int .i64 ph, .slice p l.length cap, .int .i64 svN, .int .i64 liN, .slice q ts.length cap2] va vi wr) (fun _ vi _ => ts.length - (intOf vi).toNat)
       case atStart => exact ⟨0, 0, P, c0, Nat.zero_le _, rfl, rfl, HI2.out⟩
       case round =>
        obtain ⟨j, τ, P2, c, hj, rfl, rfl, hs⟩ := hrel
        have HS := Lib.hid hs
        clear hs
        by_cases hlt : j < ts.length
        rotate_left
        ·obtain rfl : j = ts.length := by omega
         have hge : ¬ (ts.length : Int) < (ts.length : Int) := by omega
         have m := mm0 wr []; have k := m.out.k
         go_wp2_with (first | ((with_reducible first | refine cM (HAW.out _) ?_); clear k m; intro w m k) | ((with_reducible refine cU ?_); clear k m; intro w m k) | ((with_reducible refine wU ?_); clear k m; intro w m k) | ((with_reducible refine lE (fun w o g k K hK => ⟨rfl, ?_⟩)); simp [results, Tryz.results4, go_sem]; refine hK _ ?_; clear hK K k; skip; exact ⟨rfl, HS.out.only.nil_trans o⟩))
        ·have hlt2 : (j : Int) < (ts.length : Int) := by omega
         obtain ⟨b, off, rfl, hX⟩ := HQ.out.tp hlt
         have HX := Lib.hid (fun w' (o : Only [] wr w') => hX w' (HS.out.only.nil_trans o))
         have HFT := Lib.hid (fun w' => pFits ts[j] svN w')
         obtain ⟨fb, hfb⟩ : ∃ b, fitsB ts[j] svN = b := ⟨_, rfl⟩
         rw [hfb] at HFT
         clear hX
         generalize ts[j] = t at HX HFT hfb
         cases fb with
         | false =>
          obtain ⟨a1, a2, a3, a4, a5, a6, a7⟩ := t
          unfold tpV at HFT
          dsimp only at HX HFT
          have m := mmR HS.out.hx; have k := m.out.k
          have c := HX.out wr (Only.refl _ wr)
          go_wp2_with (first | ((with_reducible first | refine cM (HFT.out _) ?_ | refine cM (HAW.out _) ?_); clear k m c; intro w m k; have c := HX.out w m.out.only) | ((with_reducible refine cU ?_); clear k m c; intro w m k; have c := HX.out w m.out.only) | ((with_reducible refine wU ?_); clear k m c; intro w m k; have c := HX.out w m.out.only) | ((with_reducible refine lE (fun w o g k K hK => ⟨rfl, ?_⟩)); simp [results, Tryz.results4, go_sem]; refine hK _ ?_; clear hK K k; skip; exact ⟨rfl, HS.out.only.nil_trans o⟩))
         | true =>
          have hfit := fitsB_iff.1 hfb
          have hfz := hfit
          unfold FitsP at hfz
          have ht1 := HS.out.t1
          have ht0 := HS.out.t0
          have HEX := Lib.hid (fun w' (o : Only [] wr w') => pExch (q := some ⟨b, off, none⟩) (n2 := ts.length) (cap2 := cap2) (HS.out.cl.kept o) (fun w2 o2 => HV.out.kept ((HS.out.only.nil_trans o).trans o2 (fun x hx => .inr (HS.out.ge x hx)))) HOK.out HF.out HS.out.tr hfit HS.out.t0 (by omega) hl2 (by omega))
          rw [HS.out.bc] at HEX
          have hw1 : IntKind.i64.wrap (τ + t.tm) = τ + t.tm := by rw [IntKind.wrap_i64]; omega
          obtain ⟨en, hen⟩ : ∃ e, τ + t.tm + t.out + t.back = e := ⟨_, rfl⟩
          rw [hen] at HEX
          have hen0 : 0 ≤ en ∧ en ≤ ((j + 1 : Nat) : Int) * 19791209299968 := by omega
          have hen1 : en ≤ 791648371998720 := by omega
          have HR := Lib.hid (fun w' (o : Only [] wo w') => pRead ph en (HV.out.kept o) HOK.out hen0.1 (by omega))
          clear hfit hfz hfb hen
          obtain ⟨a1, a2, a3, a4, a5, a6, a7⟩ := t
          unfold tpV at HFT HEX
          dsimp only at HX HFT HEX hw1
          have m := mmR HS.out.hx; have k := m.out.k
          have c' := HX.out wr (Only.refl _ wr)
          go_wp2_with (first | ((with_reducible first | refine cM (HFT.out _) ?_); clear k m c'; intro w m k; have c' := HX.out w m.out.only) | ((with_reducible refine cU ?_); clear k m c'; intro w m k; have c' := HX.out w m.out.only) | ((with_reducible refine wU ?_); clear k m c'; intro w m k; have c' := HX.out w m.out.only))
          refine (HEX.out _ m.out.only).mono ?_
          rintro e w4 ⟨rfl, ⟨P3, c3, hb3, hcl3, htr3, hge3⟩, ho4⟩
          have hsz4 := m.out.only.size
          have O4 := Lib.hid ((HS.out.only.nil_trans m.out.only).trans ho4 (fun x hx => .inr (HS.out.ge x hx)))
          have hx4 := ho4.got (m.out.only.got HS.out.hx (by simp)) HS.out.nb
          have hbl := got_lt HS.out.hx
          have hnn : bx ∉ P3.all := fun hm => by
           rcases hge3 bx hm with q | q
           ·exact HS.out.nb q
           ·omega
          have hgg : ∀ b ∈ P3.all, wo.heap.size ≤ b := fun b hb => by
           rcases hge3 b hb with q | q
           ·exact HS.out.ge b q
           ·exact Nat.le_trans (Nat.le_trans HS.out.only.size hsz4) q
          obtain ⟨hit, hlo, hhi⟩ := htr3.itv HF.out hen0.1 hen1 hl2
          have hrb := HF.out.bd hen0.1 hen1
          have HC3 := Lib.hid hcl3
          have HIT := Lib.hid (fun w' (o : Only [] w4 w') => dInterval (HC3.out.kept o) htr3.u.ok (rdO ph l en) (by omega) (by omega))
          rw [hit, hb3] at HIT
          have HRR := Lib.hid (fun w' (o : Only [] w4 w') => HR.out w' (O4.out.nil_trans o))
          have HFI := Lib.hid (fun (w' : World) (o : Only [] w4 w') => (⟨hb3, HC3.out.kept o, htr3, hen0.1, hen0.2, hgg, hnn, HS.out.bo, o.got hx4 (by simp), O4.out.nil_trans o⟩ : TuS wo w' bx bc0 ph l B svN liN (j + 1) en P3 c3 [.int .i64 ph, .slice p l.length cap, .int .i64 svN, .int .i64 liN, .slice (some ⟨b, off, none⟩) ts.length cap2]))
          generalize renC c3 (rdO ph l en) = iv at HIT hlo hhi
          obtain ⟨v1, v2⟩ := iv
          unfold ivV at HIT
          dsimp only at HIT hlo hhi
          have d1 : decide (en < v1) = false := decide_eq_false (by omega)
          have d2 : decide (v2 < en) = false := decide_eq_false (by omega)
          generalize rdO ph l en = ren at HIT HRR
          clear k m c' hcl3 htr3 hge3 ho4 hsz4 hbl hnn hgg hit hlo hhi hb3
          have m := mmR hx4; have k := m.out.k
          clear hx4
          go_wp2_with (first | ((with_reducible first | refine cM (HRR.out _ gO) ?_ | refine cM (HIT.out _ gO) ?_); clear k m; intro w m k) | ((with_reducible refine cU ?_); clear k m; intro w m k) | ((with_reducible refine wU ?_); clear k m; intro w m k) | (go_roundw; (case rel => exact ⟨j + 1, en, P3, c3, by omega, rfl, by go_num, HFI.out _ gO⟩); (case measure => first | (simp [intOf]; done) | (simp [intOf]; omega))))
end Go.Proofs.YtikjdmbfjkbndaaGreat
