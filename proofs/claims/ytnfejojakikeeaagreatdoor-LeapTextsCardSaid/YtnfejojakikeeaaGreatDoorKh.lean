/- The chapter's examples: awake returns true; small. Condition: the library's variables and the table of the months are laid. -/
import Derived.Test.YtnfejojakikeeaaGreatDoorKf
import Derived.Test.YtnfejojakikeeaaGreatDoorKg
import Derived.Test.YtnfejojakikeeaaGreatDoorK7
namespace Go.Proofs.YtnfejojakikeeaaGreatDoor
open Go.RowKit

theorem wpQuiet_enter_w {P : Program} {ops : Array Oper} {C : World → Prop} {Q : Act → Prop} {a : Act} {o : Oper} {rest : List Oper} (hg : Region.wanted o (yielded ops a.tmps) = true) (f : FuncId) (args : Array Value)
    (hrun : ∀ w, (execOp a.eval o).run P w = .ok (.enter f args) w) (v : Value) (hcall : ∀ w', C w' → Calls P f args w' fun e w'' => e = .returned v ∧ C w'')
    (h : wpQuiet P ops C Q rest (a.put o.dst v)) : wpQuiet P ops C Q (o :: rest) a := by
  refine wpQuiet_step fun K hK => ?_
  rw [hg]
  simp only [if_true]
  refine ⟨v, fun w' hw' => ?_, hK _ h⟩
  unfold Oper.quietAt
  rw [hrun w']
  exact ⟨rfl, hcall w' hw'⟩
theorem ksmall {w : World} (b x : Int) (p : Option Addr) (n cap : Nat) (hn : n ≤ 9223372036854775807) :
    Calls Tryz.prog 6 #[.agg #[.int .i64 b, .int .i64 x, .slice p n cap]] w fun e w' => e = .returned (.bool (decide (n ≤ 70))) ∧ Only [] w w' := by
  have hd : decide ((n : Int) ≤ 70) = decide (n ≤ 70) := by rw [Bool.eq_iff_iff]; simp only [decide_eq_true_eq]; omega
  generalize decide (n ≤ 70) = r at hd ⊢
  go_enter Tryz.func6, Tryz.ntmps6
  go_wp2
  go_ret
  exact ⟨rfl, (Only.refl _ _).alloc _⟩
def awTab (w : World) (sb tb : Nat) (o : Int) : Prop := w.heap[sb]? = some (.cells #[.int .i64 3692217600, .int .i64 o] 42 (0, 0)) ∧ w.heap[tb]? = some (.cells #[.int .i64 36, .int .i64 3900000000, .slice (some ⟨sb, 0, none⟩) 1 1] 24 (0, 0))
theorem awTab.kept {w w' : World} {sb tb : Nat} {o : Int} (h : awTab w sb tb o) (ho : Only [] w w') : awTab w' sb tb o := ⟨ho.got h.1 (by simp), ho.got h.2 (by simp)⟩
theorem awTab.row {w : World} {sb tb : Nat} {o : Int} (h : awTab w sb tb o) : VRow leC 2 w (some ⟨sb, 0, none⟩) 1 1 [⟨3692217600, o⟩] :=
  RowAt.vrow (e := 42) leC_len ⟨_, h.1, rfl, Nat.le_refl _, by decide, rfl⟩ rfl
theorem awk_T {w : World} {sb tb : Nat} (h : awTab w sb tb 37) (hd : Mdy w) :
    Calls Tryz.prog 10 #[.agg #[.int .i64 36, .int .i64 3900000000, .slice (some ⟨sb, 0, none⟩) 1 1], .int .i64 3692217599, .bool true] w fun e w' => e = .returned (.tuple #[.int .i64 3692217636, .int .i64 0]) ∧ Only [] w w' := by
  have := kTAI 36 3900000000 3692217599 true h.row (by decide) hd
  rw [show ([⟨3692217600, 37⟩] : List Le) = awE from rfl, aw_t] at this
  exact this
theorem awk_T5 {w : World} {sb tb : Nat} (h : awTab w sb tb 35) (hd : Mdy w) :
    Calls Tryz.prog 10 #[.agg #[.int .i64 36, .int .i64 3900000000, .slice (some ⟨sb, 0, none⟩) 1 1], .int .i64 3692217599, .bool false] w fun e w' => e = .returned (.tuple #[.int .i64 0, .int .i64 11]) ∧ Only [] w w' := by
  have := kTAI 36 3900000000 3692217599 false h.row (by decide) hd
  rw [show ([⟨3692217600, 35⟩] : List Le) = awE5 from rfl, aw_t5] at this
  exact this
theorem awk_U {w : World} {sb tb : Nat} (h : awTab w sb tb 37) (hd : Mdy w) :
    Calls Tryz.prog 12 #[.agg #[.int .i64 36, .int .i64 3900000000, .slice (some ⟨sb, 0, none⟩) 1 1], .int .i64 3692217636] w fun e w' => e = .returned (.tuple #[.int .i64 3692217599, .bool true, .int .i64 0]) ∧ Only [] w w' := by
  have := kUTC 36 3900000000 3692217636 (by decide) (by decide) h.row (by decide) hd
  rw [show ([⟨3692217600, 37⟩] : List Le) = awE from rfl, aw_u] at this
  exact this
theorem awk_C {w : World} {sb tb : Nat} (h : awTab w sb tb 37) (hd : Mdy w) :
    Calls Tryz.prog 8 #[.agg #[.int .i64 36, .int .i64 3900000000, .slice (some ⟨sb, 0, none⟩) 1 1]] w fun e w' => e = .returned (.int .i64 0) ∧ Only [] w w' := by
  have := kcheck 36 3900000000 h.row (by decide) hd
  rw [show ([⟨3692217600, 37⟩] : List Le) = awE from rfl, aw_c] at this
  exact this
theorem awk_O6 {w : World} {sb tb : Nat} (h : awTab w sb tb 37) (hd : Mdy w) :
    Calls Tryz.prog 19 #[.agg #[.int .i64 36, .int .i64 3900000000, .slice (some ⟨sb, 0, none⟩) 1 1], .int .i64 3692217599] w fun e w' => e = .returned (.int .i64 36) ∧ Only [] w w' := by
  have := kOffset 36 3900000000 3692217599 h.row (by decide) hd
  rw [show ([⟨3692217600, 37⟩] : List Le) = awE from rfl, aw_o6] at this
  exact this
theorem awk_O7 {w : World} {sb tb : Nat} (h : awTab w sb tb 37) (hd : Mdy w) :
    Calls Tryz.prog 19 #[.agg #[.int .i64 36, .int .i64 3900000000, .slice (some ⟨sb, 0, none⟩) 1 1], .int .i64 3692217600] w fun e w' => e = .returned (.int .i64 37) ∧ Only [] w w' := by
  have := kOffset 36 3900000000 3692217600 h.row (by decide) hd
  rw [show ([⟨3692217600, 37⟩] : List Le) = awE from rfl, aw_o7] at this
  exact this
theorem awk_N {w : World} {sb tb : Nat} (h : awTab w sb tb 37) (hd : Mdy w) :
    Calls Tryz.prog 21 #[.agg #[.int .i64 36, .int .i64 3900000000, .slice (some ⟨sb, 0, none⟩) 1 1], .int .i64 0] w fun e w' => e = .returned (.tuple #[.agg #[.int .i64 3692217600, .int .i64 37], .bool true]) ∧ Only [] w w' := by
  have := kNext 36 3900000000 0 h.row (by decide) hd
  rw [show ([⟨3692217600, 37⟩] : List Le) = awE from rfl, aw_n] at this
  exact this
theorem awk_X {w : World} {sb tb : Nat} (h : awTab w sb tb 37) (hd : Mdy w) (ht : Tab w) :
    Calls Tryz.prog 16 #[.agg #[.int .i64 36, .int .i64 3900000000, .slice (some ⟨sb, 0, none⟩) 1 1]] w fun e w' => e = .returned (.string (bstr awT)) ∧ Only [] w w' := by
  have := kText 36 3900000000 h.row (by decide) hd ht
  rw [show ([⟨3692217600, 37⟩] : List Le) = awE from rfl, aw_txt] at this
  exact this
set_option maxRecDepth 100000
theorem awk_I1 {w : World} {sb tb : Nat} (h : awTab w sb tb 37) (hd : Mdy w) :
    Calls Tryz.prog 20 #[.agg #[.int .i64 36, .int .i64 3900000000, .slice (some ⟨sb, 0, none⟩) 1 1], .int .i64 3692217599] w fun e w' => e = .returned (.int .i64 1) ∧ Only [] w w' := by
  refine (kInd 36 3900000000 3692217599 h.row (by decide) hd).mono ?_
  rintro e w' ⟨⟨v, rfl, hv⟩, ho⟩
  rw [show ([⟨3692217600, 37⟩] : List Le) = awE from rfl] at hv
  obtain rfl := aw_i1 hv
  exact ⟨rfl, ho⟩
theorem awk_I2 {w : World} {sb tb : Nat} (h : awTab w sb tb 37) (hd : Mdy w) :
    Calls Tryz.prog 20 #[.agg #[.int .i64 36, .int .i64 3900000000, .slice (some ⟨sb, 0, none⟩) 1 1], .int .i64 3689539200] w fun e w' => e = .returned (.int .i64 1) ∧ Only [] w w' := by
  refine (kInd 36 3900000000 3689539200 h.row (by decide) hd).mono ?_
  rintro e w' ⟨⟨v, rfl, hv⟩, ho⟩
  rw [show ([⟨3692217600, 37⟩] : List Le) = awE from rfl] at hv
  obtain rfl := aw_i2 hv
  exact ⟨rfl, ho⟩
theorem awk_I3 {w : World} {sb tb : Nat} (h : awTab w sb tb 37) (hd : Mdy w) :
    Calls Tryz.prog 20 #[.agg #[.int .i64 36, .int .i64 3900000000, .slice (some ⟨sb, 0, none⟩) 1 1], .int .i64 3689539199] w fun e w' => e = .returned (.int .i64 0) ∧ Only [] w w' := by
  refine (kInd 36 3900000000 3689539199 h.row (by decide) hd).mono ?_
  rintro e w' ⟨⟨v, rfl, hv⟩, ho⟩
  rw [show ([⟨3692217600, 37⟩] : List Le) = awE from rfl] at hv
  obtain rfl := aw_i3 hv
  exact ⟨rfl, ho⟩
theorem awk_I4 {w : World} {sb tb : Nat} (h : awTab w sb tb 37) (hd : Mdy w) :
    Calls Tryz.prog 20 #[.agg #[.int .i64 36, .int .i64 3900000000, .slice (some ⟨sb, 0, none⟩) 1 1], .int .i64 3692217600] w fun e w' => e = .returned (.int .i64 0) ∧ Only [] w w' := by
  refine (kInd 36 3900000000 3692217600 h.row (by decide) hd).mono ?_
  rintro e w' ⟨⟨v, rfl, hv⟩, ho⟩
  rw [show ([⟨3692217600, 37⟩] : List Le) = awE from rfl] at hv
  obtain rfl := aw_i4 hv
  exact ⟨rfl, ho⟩
theorem awk_I5 {w : World} {sb tb : Nat} (h : awTab w sb tb 37) (hd : Mdy w) :
    Calls Tryz.prog 20 #[.agg #[.int .i64 36, .int .i64 3900000000, .slice (some ⟨sb, 0, none⟩) 1 1], .int .i64 3900000000] w fun e w' => e = .returned (.int .i64 3) ∧ Only [] w w' := by
  refine (kInd 36 3900000000 3900000000 h.row (by decide) hd).mono ?_
  rintro e w' ⟨⟨v, rfl, hv⟩, ho⟩
  rw [show ([⟨3692217600, 37⟩] : List Le) = awE from rfl] at hv
  obtain rfl := aw_i5 hv
  exact ⟨rfl, ho⟩
theorem awk_P {w : World} (he : Env w) (hd : Mdy w) :
    Calls Tryz.prog 14 #[.string ⟨#[35, 32, 108, 101, 97, 112, 32, 115, 101, 99, 111, 110, 100, 115, 10, 35, 64, 9, 51, 57, 48, 48, 48, 48, 48, 48, 48, 48, 10, 35, 61, 32, 51, 54, 32, 10, 10, 51, 54, 57, 50, 50, 49, 55, 54, 48, 48, 9, 51, 55, 32, 35, 32, 50, 48, 49, 55]⟩] w fun e w' => (∃ p cap, e = .returned (.tuple #[.agg #[.int .i64 36, .int .i64 3900000000, .slice p 1 cap], .int .i64 0]) ∧ VRow leC 2 w' p 1 cap awE) ∧ Only [] w w' := by
  have := kParse ⟨#[35, 32, 108, 101, 97, 112, 32, 115, 101, 99, 111, 110, 100, 115, 10, 35, 64, 9, 51, 57, 48, 48, 48, 48, 48, 48, 48, 48, 10, 35, 61, 32, 51, 54, 32, 10, 10, 51, 54, 57, 50, 50, 49, 55, 54, 48, 48, 9, 51, 55, 32, 35, 32, 50, 48, 49, 55]⟩ awS rfl (by decide) w he hd
  rw [aw_p] at this
  exact this
theorem VRow.keptS {α : Type} {ec : α → List Value} {s : Nat} {S : List Nat} {w w' : World} {p : Option Addr} {n cap : Nat} {l : List α} (h : VRow ec s w p n cap l) (ho : Only S w w') (hn : ∀ b off, p = some ⟨b, off, none⟩ → b ∉ S) : VRow ec s w' p n cap l := by
  refine ⟨h.len, h.le, h.cm, h.nil, fun i x hx => ?_⟩
  obtain ⟨b, off, hp, hb, hc⟩ := h.cell i x hx
  exact ⟨b, off, hp, Nat.lt_of_lt_of_le hb ho.size, fun j v hv => by rw [ho.cell hb (hn b off hp)]; exact hc j v hv⟩
theorem aw_apart {w : World} {sb tb b off pc : Nat} {o : Int} (h : awTab w sb tb o) (hv : VRow leC 2 w (some ⟨b, off, none⟩) 1 pc awE) : b ≠ tb ∧ b < w.heap.size := by
  obtain ⟨b', off', hp, hb, hc⟩ := hv.cell 0 _ rfl
  cases hp
  refine ⟨fun e => ?_, hb⟩
  subst e
  have h0 := hc 0 _ rfl
  rw [cell_got h.2] at h0
  rcases off with _ | _ | _ | off
  · simp at h0
  · simp at h0
  · simp at h0
  · simp at h0
def AwM (w0 : World) (sb tb pb nb pc : Nat) (o : Int) (pp : Option Addr) (P N : Obj) (w' : World) : Prop :=
  awTab w' sb tb o ∧ VRow leC 2 w' pp 1 pc awE ∧ w'.heap[pb]? = some P ∧ w'.heap[nb]? = some N ∧ Only [] w0 w' ∧ (∀ b off, pp = some ⟨b, off, none⟩ → b ≠ sb) ∧ pb ≠ sb ∧ nb ≠ sb
theorem aw_mid {w0 w : World} {sb tb pb nb pc : Nat} {pp : Option Addr} {P N : Obj} (h : awTab w sb tb 37) (hv : VRow leC 2 w pp 1 pc awE) (hp : w.heap[pb]? = some P) (hn : w.heap[nb]? = some N) (h1 : pb ≠ tb) (h2 : nb ≠ tb) (ho : Only [] w0 w) (ht : w0.heap.size ≤ tb) :
    AwM w0 w.heap.size tb pb nb pc 35 pp P N ((w.setCell ⟨tb, 2, none⟩ (.slice (some ⟨w.heap.size, 0, none⟩) 1 1)).alloc (.cells #[.int .i64 3692217600, .int .i64 35] 42)) := by
  have o1 : Only [tb] w ((w.setCell ⟨tb, 2, none⟩ (.slice (some ⟨w.heap.size, 0, none⟩) 1 1)).alloc (.cells #[.int .i64 3692217600, .int .i64 35] 42)) := ((Only.refl [tb] w).setCell (.inl (by simp)) _).alloc _
  have hsz : (w.setCell ⟨tb, 2, none⟩ (.slice (some ⟨w.heap.size, 0, none⟩) 1 1)).heap.size = w.heap.size := size_setCell _ _ _
  refine ⟨⟨?_, ?_⟩, hv.keptS o1 ?_, o1.got hp (by simpa using h1), o1.got hn (by simpa using h2), (ho.setCell (.inr ht) _).alloc _, ?_, ?_, ?_⟩
  · have := alloc_new (w.setCell ⟨tb, 2, none⟩ (.slice (some ⟨w.heap.size, 0, none⟩) 1 1)) (.cells #[.int .i64 3692217600, .int .i64 35] 42)
    rw [hsz] at this
    exact this
  · exact alloc_old (setCell_got _ h.2)
  · rintro b off rfl
    simpa using (aw_apart h hv).1
  · rintro b off rfl
    have := (aw_apart h hv).2
    omega
  · have := got_lt hp; omega
  · have := got_lt hn; omega
theorem aw_end {w0 w : World} {sb tb pb nb pc : Nat} {pp : Option Addr} {P N : Obj} (h : awTab w sb tb 35) (hst : sb ≠ tb) (hv : VRow leC 2 w pp 1 pc awE) (hb : ∀ b off, pp = some ⟨b, off, none⟩ → b ≠ sb) (hp : w.heap[pb]? = some P) (hn : w.heap[nb]? = some N) (h1 : pb ≠ sb) (h2 : nb ≠ sb) (ho : Only [] w0 w) (ht : w0.heap.size ≤ sb) :
    AwM w0 sb tb pb nb pc 37 pp P N (w.setCell ⟨sb, 1, none⟩ (.int .i64 37)) := by
  have o1 : Only [sb] w (w.setCell ⟨sb, 1, none⟩ (.int .i64 37)) := (Only.refl [sb] w).setCell (.inl (by simp)) _
  exact ⟨⟨setCell_got _ h.1, o1.got h.2 (by simpa using hst.symm)⟩, hv.keptS o1 (fun b off hh => by simpa using hb b off hh), o1.got hp (by simpa using h1), o1.got hn (by simpa using h2), ho.setCell (.inr ht) _, hb, h1, h2⟩
theorem awk_S {w : World} {sb tb pc : Nat} {pp : Option Addr} (h : awTab w sb tb 37) (hv : VRow leC 2 w pp 1 pc awE) :
    Calls Tryz.prog 18 #[.agg #[.int .i64 36, .int .i64 3900000000, .slice pp 1 pc], .agg #[.int .i64 36, .int .i64 3900000000, .slice (some ⟨sb, 0, none⟩) 1 1]] w fun e w' => e = .returned (.bool true) ∧ Only [] w w' := by
  have := ksame 36 3900000000 36 3900000000 hv h.row (by decide) (by decide)
  rw [decide_eq_true ⟨rfl, rfl, rfl⟩] at this
  exact this
set_option maxRecDepth 100000 in
set_option maxHeartbeats 2000000 in
theorem awake_any (w : World) (he : Env w) (hd : Mdy w) : Calls Tryz.prog 7 #[] w fun e w' => e = .returned (.bool true) ∧ Only [] w w' := by
  have HE := Lib.hid he; have HD := Lib.hid hd; clear he hd
  go_enter Tryz.func7, Tryz.ntmps7
  go_upto_region 2 with (fail)
  refine alloc_abs (G := fun w0 => Code.wp _ _ _ _ (w0.alloc _)) ?_
  intro w0 hb0 ho0 hs0
  rw [← hs0]
  clear hs0
  refine alloc_abs (G := fun w0 => Code.wp _ _ _ _ w0) ?_
  intro w1 hb1 ho1 hs1
  have T1 : Hid (awTab w1 w.heap.size w0.heap.size 37) := Lib.hid ⟨ho1.got hb0 (by simp), hb1⟩
  have O1 := Lib.hid (ho0.nil_trans ho1)
  have LT := Lib.hid (got_lt hb0)
  clear hb0 ho0 hb1 ho1 hs1
  have g0 := cell_got T1.out.2 0; have g1 := cell_got T1.out.2 1; have g2 := cell_got T1.out.2 2; have l0 := got_lt T1.out.2
  go_wp2_with fail
  refine (awk_T T1.out (HD.out.kept O1.out)).mono ?_
  rintro e w2 ⟨rfl, ho2⟩
  have T2 := Lib.hid (T1.out.kept ho2); have O2 := Lib.hid (O1.out.nil_trans ho2)
  clear ho2 T1 O1 g0 g1 g2 l0
  have g0 := cell_got T2.out.2 0; have g1 := cell_got T2.out.2 1; have g2 := cell_got T2.out.2 2; have l0 := got_lt T2.out.2
  go_wp2_with fail
  refine (awk_U T2.out (HD.out.kept O2.out)).mono ?_
  rintro e w3 ⟨rfl, ho3⟩
  have T3 := Lib.hid (T2.out.kept ho3); have O3 := Lib.hid (O2.out.nil_trans ho3)
  clear ho3 T2 O2 g0 g1 g2 l0
  have g0 := cell_got T3.out.2 0; have g1 := cell_got T3.out.2 1; have g2 := cell_got T3.out.2 2; have l0 := got_lt T3.out.2
  go_wp2_with fail
  refine (awk_C T3.out (HD.out.kept O3.out)).mono ?_
  rintro e w4 ⟨rfl, ho4⟩
  have T4 := Lib.hid (T3.out.kept ho4); have O4 := Lib.hid (O3.out.nil_trans ho4)
  clear ho4 T3 O3 g0 g1 g2 l0
  have g0 := cell_got T4.out.2 0; have g1 := cell_got T4.out.2 1; have g2 := cell_got T4.out.2 2; have l0 := got_lt T4.out.2
  go_wp2_with fail
  refine (awk_O6 T4.out (HD.out.kept O4.out)).mono ?_
  rintro e w5 ⟨rfl, ho5⟩
  have T5 := Lib.hid (T4.out.kept ho5); have O5 := Lib.hid (O4.out.nil_trans ho5)
  clear ho5 T4 O4 g0 g1 g2 l0
  have g0 := cell_got T5.out.2 0; have g1 := cell_got T5.out.2 1; have g2 := cell_got T5.out.2 2; have l0 := got_lt T5.out.2
  go_wp2_with fail
  refine (awk_O7 T5.out (HD.out.kept O5.out)).mono ?_
  rintro e w6 ⟨rfl, ho6⟩
  have T6 := Lib.hid (T5.out.kept ho6); have O6 := Lib.hid (O5.out.nil_trans ho6)
  clear ho6 T5 O5 g0 g1 g2 l0
  have g0 := cell_got T6.out.2 0; have g1 := cell_got T6.out.2 1; have g2 := cell_got T6.out.2 2; have l0 := got_lt T6.out.2
  go_wp2_with fail
  refine (awk_I1 T6.out (HD.out.kept O6.out)).mono ?_
  rintro e w7 ⟨rfl, ho7⟩
  have T7 := Lib.hid (T6.out.kept ho7); have O7 := Lib.hid (O6.out.nil_trans ho7)
  clear ho7 T6 O6 g0 g1 g2 l0
  have g0 := cell_got T7.out.2 0; have g1 := cell_got T7.out.2 1; have g2 := cell_got T7.out.2 2; have l0 := got_lt T7.out.2
  go_wp2_with fail
  refine (awk_I2 T7.out (HD.out.kept O7.out)).mono ?_
  rintro e w8 ⟨rfl, ho8⟩
  have T8 := Lib.hid (T7.out.kept ho8); have O8 := Lib.hid (O7.out.nil_trans ho8)
  clear ho8 T7 O7 g0 g1 g2 l0
  have g0 := cell_got T8.out.2 0; have g1 := cell_got T8.out.2 1; have g2 := cell_got T8.out.2 2; have l0 := got_lt T8.out.2
  go_wp2_with fail
  refine (awk_I3 T8.out (HD.out.kept O8.out)).mono ?_
  rintro e w9 ⟨rfl, ho9⟩
  have T9 := Lib.hid (T8.out.kept ho9); have O9 := Lib.hid (O8.out.nil_trans ho9)
  clear ho9 T8 O8 g0 g1 g2 l0
  have g0 := cell_got T9.out.2 0; have g1 := cell_got T9.out.2 1; have g2 := cell_got T9.out.2 2; have l0 := got_lt T9.out.2
  go_wp2_with fail
  refine (awk_I4 T9.out (HD.out.kept O9.out)).mono ?_
  rintro e w10 ⟨rfl, ho10⟩
  have T10 := Lib.hid (T9.out.kept ho10); have O10 := Lib.hid (O9.out.nil_trans ho10)
  clear ho10 T9 O9 g0 g1 g2 l0
  have g0 := cell_got T10.out.2 0; have g1 := cell_got T10.out.2 1; have g2 := cell_got T10.out.2 2; have l0 := got_lt T10.out.2
  go_wp2_with fail
  refine (awk_I5 T10.out (HD.out.kept O10.out)).mono ?_
  rintro e w11 ⟨rfl, ho11⟩
  have T11 := Lib.hid (T10.out.kept ho11); have O11 := Lib.hid (O10.out.nil_trans ho11)
  clear ho11 T10 O10 g0 g1 g2 l0
  have g0 := cell_got T11.out.2 0; have g1 := cell_got T11.out.2 1; have g2 := cell_got T11.out.2 2; have l0 := got_lt T11.out.2
  go_wp2_with fail
  refine (awk_P (HE.out.kept O11.out) (HD.out.kept O11.out)).mono ?_
  rintro e w12 ⟨⟨pp, pc, rfl, hpv⟩, ho12⟩
  have T12 := Lib.hid (T11.out.kept ho12); have O12 := Lib.hid (O11.out.nil_trans ho12); have PV := Lib.hid hpv
  clear ho12 T11 O11 g0 g1 g2 l0 hpv
  have g0 := cell_got T12.out.2 0; have g1 := cell_got T12.out.2 1; have g2 := cell_got T12.out.2 2; have l0 := got_lt T12.out.2
  have N12 := Lib.hid (Nat.ne_of_gt l0)
  go_upto_region 9 with (fail)
  refine alloc_abs (G := fun w0 => Code.wp _ _ _ _ w0) ?_
  intro w13 hb13 ho13 hs13
  have T13 := Lib.hid (T12.out.kept ho13); have O13 := Lib.hid (O12.out.nil_trans ho13); have P13 := Lib.hid (PV.out.kept ho13); have BP := Lib.hid hb13
  clear hb13 ho13 hs13 T12 O12 PV g0 g1 g2 l0
  have g0 := cell_got T13.out.2 0; have g1 := cell_got T13.out.2 1; have g2 := cell_got T13.out.2 2; have l0 := got_lt T13.out.2
  go_wp2_with fail
  refine (awk_N T13.out (HD.out.kept O13.out)).mono ?_
  rintro e w14 ⟨rfl, ho14⟩
  have T14 := Lib.hid (T13.out.kept ho14); have O14 := Lib.hid (O13.out.nil_trans ho14); have P14 := Lib.hid (P13.out.kept ho14); have BP4 := Lib.hid (ho14.got BP.out (by simp))
  clear ho14 T13 O13 P13 BP g0 g1 g2 l0
  have g0 := cell_got T14.out.2 0; have g1 := cell_got T14.out.2 1; have g2 := cell_got T14.out.2 2; have l0 := got_lt T14.out.2
  have N14 := Lib.hid (Nat.ne_of_gt l0)
  go_upto_region 10 with (fail)
  refine alloc_abs (G := fun w0 => Code.wp _ _ _ _ w0) ?_
  intro w15 hb15 ho15 hs15
  have T15 := Lib.hid (T14.out.kept ho15); have O15 := Lib.hid (O14.out.nil_trans ho15); have P15 := Lib.hid (P14.out.kept ho15); have BP5 := Lib.hid (ho15.got BP4.out (by simp)); have BN := Lib.hid hb15
  clear hb15 ho15 hs15 T14 O14 P14 BP4 g0 g1 g2 l0
  have g2 := cell_got T15.out.2 2; have l0 := got_lt T15.out.2
  have f2 := frozen_got T15.out.2 2
  go_upto_region 11 with (fail)
  have N15 := Lib.hid (Nat.ne_of_gt l0); have L15 := Lib.hid O15.out.size
  have hmid := aw_mid T15.out P15.out BP5.out BN.out N12.out N14.out O15.out (Nat.le_of_lt LT.out)
  clear g2 l0 f2
  refine wabs (G := fun w0 => Code.wp _ _ _ _ w0) _ hmid ?_
  rintro w16 ⟨t16, v16, p16, n16, o16, x16, y16, z16⟩
  have T16 := Lib.hid t16; have V16 := Lib.hid v16; have P16 := Lib.hid p16; have M16 := Lib.hid n16; have O16 := Lib.hid o16; have X16 := Lib.hid x16; have Y16 := Lib.hid y16; have Z16 := Lib.hid z16
  clear t16 v16 p16 n16 o16 x16 y16 z16 hmid T15 P15 BP5 BN O15
  have g0 := cell_got T16.out.2 0; have g1 := cell_got T16.out.2 1; have g2 := cell_got T16.out.2 2; have l0 := got_lt T16.out.2
  go_wp2_with fail
  refine (awk_T5 T16.out (HD.out.kept O16.out)).mono ?_
  rintro e w17 ⟨rfl, ho17⟩
  have T17 := Lib.hid (T16.out.kept ho17); have O17 := Lib.hid (O16.out.nil_trans ho17); have V17 := Lib.hid (V16.out.kept ho17); have P17 := Lib.hid (ho17.got P16.out (by simp)); have M17 := Lib.hid (ho17.got M16.out (by simp))
  clear ho17 T16 O16 V16 P16 M16 g0 g1 g2 l0
  have g2 := cell_got T17.out.2 2; have l0 := got_lt T17.out.2
  have s1 := cell_got T17.out.1 1; have fs1 := frozen_got T17.out.1 1; have ls := got_lt T17.out.1
  go_upto_region 13 with (fail)
  have hend := aw_end T17.out N15.out V17.out X16.out P17.out M17.out Y16.out Z16.out O17.out L15.out
  clear g2 l0 s1 fs1 ls
  refine wabs (G := fun w0 => Code.wp _ _ _ _ w0) _ hend ?_
  rintro w18 ⟨t18, v18, p18, n18, o18, _⟩
  have T18 := Lib.hid t18; have V18 := Lib.hid v18; have P18 := Lib.hid p18; have M18 := Lib.hid n18; have O18 := Lib.hid o18
  clear t18 v18 p18 n18 o18 hend T17 O17 V17 P17 M17
  have g0 := cell_got T18.out.2 0; have g1 := cell_got T18.out.2 1; have g2 := cell_got T18.out.2 2; have l0 := got_lt T18.out.2
  have s0 := cell_got T18.out.1 0; have s1 := cell_got T18.out.1 1; have ls := got_lt T18.out.1
  have p0 := cell_got P18.out 0; have p1 := cell_got P18.out 1; have p2 := cell_got P18.out 2; have lp := got_lt P18.out
  have m0 := cell_got M18.out 0; have m1 := cell_got M18.out 1; have lm := got_lt M18.out
  have heq := le_equal ⟨3692217600, 37⟩ ⟨3692217600, 37⟩
  rw [decide_eq_true rfl] at heq
  refine wp_region_grown [0,1,2,3,4,5,6,7,8,9,10,11,12,13,14,15,16,17,18,19,20,21,22,23,24,25,26,27] [] (by kernel_rfl) (by kernel_rfl) ?_
  simp only [pick, List.map_cons, List.map_nil, List.getD_cons_succ, List.getD_cons_zero]
  iterate 1 (refine wpQuiet_step (fun K hK => ?_); go_simp; refine hK _ ?_; clear hK K)
  refine wpQuiet_enter rfl 16 #[.agg #[.int .i64 36, .int .i64 3900000000, .slice (some ⟨w15.heap.size, 0, none⟩) 1 1]] (fun _ => by kernel_rfl) (.string (bstr awT)) (grown_only2 fun w' ho' => awk_X (T18.out.kept ho') (HD.out.kept (O18.out.nil_trans ho')) (HE.out.kept (O18.out.nil_trans ho')).tab) ?_
  have hbs : bstr awT = ⟨#[35, 64, 32, 51, 57, 48, 48, 48, 48, 48, 48, 48, 48, 10, 35, 61, 32, 51, 54, 10, 51, 54, 57, 50, 50, 49, 55, 54, 48, 48, 32, 51, 55, 10]⟩ := rfl
  rw [hbs]
  iterate 4 (refine wpQuiet_step (fun K hK => ?_); go_simp; refine hK _ ?_; clear hK K)
  refine wpQuiet_enter_w (by kernel_rfl) 18 #[.agg #[.int .i64 36, .int .i64 3900000000, .slice pp 1 pc], .agg #[.int .i64 36, .int .i64 3900000000, .slice (some ⟨w15.heap.size, 0, none⟩) 1 1]] (fun _ => by kernel_rfl) (.bool true) (grown_only2 fun w' ho' => awk_S (T18.out.kept ho') (V18.out.kept ho')) ?_
  iterate 21 (refine wpQuiet_step (fun K hK => ?_); go_simp; refine hK _ ?_; clear hK K)
  refine wpQuiet_nil ?_
  intro w19 hw19
  have ho19 := only_of_plus hw19; clear hw19
  go_wp2
  go_ret
  exact ⟨rfl, O18.out.nil_trans ho19⟩
end Go.Proofs.YtnfejojakikeeaaGreatDoor
