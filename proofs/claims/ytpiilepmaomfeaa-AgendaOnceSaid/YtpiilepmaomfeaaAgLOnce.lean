/- AgendaOnce: each event is popped or cancelled at most once, times never decrease, a push is refused for the defined reasons: the law returns true for every input. No condition. -/
import Derived.Test.YtpiilepmaomfeaaAgA
import Derived.Test.YtpiilepmaomfeaaAgD
import Derived.Test.YtpiilepmaomfeaaAgG
import Derived.Test.YtpiilepmaomfeaaCalm
namespace Go.Proofs.Ytpiilepmaomfeaa
open Go.ChangeShapes Go.WideShapes Go.ChangeAt Go.RowKit

abbrev bc (b : Bool) : List Value := [.bool b]
abbrev BRow (w : World) (g cap : Nat) (l : List Bool) : Prop := RowAt bc 4 1 w g cap l
theorem bc_len (b : Bool) : (bc b).length = 1 := rfl

/-- the state of the law's loop: the queue, which ids are open, how many, the last time -/
structure Once (w wr : World) (q : Nat) (most : Int) (vo vm vt : Value) (k : Nat) : Prop where
  ex : ∃ F tm l g cap os, vo = .slice (some ⟨g, 0, none⟩) os.length cap ∧ vm = .int .i64 (l.length : Int) ∧ vt = .int .i64 tm ∧ Que wr q F most tm ((os.length : Int) - 1) l ∧ BRow wr g cap os ∧ 0 < os.length ∧ os.length ≤ k + 1 ∧
    (∀ (i : Nat) (b : Bool), os[i]? = some b → b = hasId l (i : Int)) ∧ (∀ e ∈ l, tm ≤ e.t) ∧ g ∉ F ∧ w.heap.size ≤ g ∧ (∀ b ∈ F, w.heap.size ≤ b)
  only : Only [] w wr

theorem Try.info4 : (Try.prog.info? 4).map (fun i => (i.zero, i.size, i.bytes)) = some (some (.bool false), 1, 1) := by kernel_rfl

theorem Once.kept {w wr w' : World} {q : Nat} {most : Int} {vo vm vt : Value} {k : Nat} (h : Once w wr q most vo vm vt k) (ho : Only [] wr w') : Once w w' q most vo vm vt k := by
  obtain ⟨⟨F, tm, l, g, cap, os, e1, e2, e3, hq, hr, r⟩, hoo⟩ := h
  exact ⟨⟨F, tm, l, g, cap, os, e1, e2, e3, hq.kept ho (by simp), hr.kept ho (by simp), r⟩, hoo.nil_trans ho⟩

set_option maxRecDepth 100000 in
set_option maxHeartbeats 8000000 in
theorem once_walk (a0 : Int) (p : Option Addr) (n cap : Nat) (ds : List Deed) (w : World) (hwf0 : (Lit.int .u8 a0).wf = true) (hv : VDeeds w p n cap ds) (hok : ∀ d ∈ ds, d.ok) :
    Calls Try.prog 6 #[.int .u8 a0, .slice p n cap] w fun e w' => e = .returned (.bool true) ∧ Only [] w w' := by
  obtain ⟨ib, hib, hzb, hsb, hbb⟩ := info_parts Try.info4
  have HIB := Lib.hid hib; have HZB := Lib.hid hzb; have HSB := Lib.hid hsb; have HBB := Lib.hid hbb; clear hib hzb hsb hbb
  obtain ⟨hlo, hhi⟩ := bounds_u8 hwf0
  obtain ⟨m, hm⟩ : ∃ m, m = min n 300 := ⟨_, rfl⟩
  have hmn : m ≤ n := by omega
  have hm3 : m ≤ 300 := by omega
  have hf := first_any p n cap
  rw [← hm] at hf
  have HF := Lib.hid (fun w => hf w hv.le hv.cm hv.nil)
  have hv' := hv.take m hmn
  obtain ⟨us, hus⟩ : ∃ us, us = ds.take m := ⟨_, rfl⟩
  rw [← hus] at hv'
  have hcm := hv.cm
  unfold maxLen at hcm
  have hmc : m ≤ cap := hv'.le
  have hoks : ∀ d ∈ us, d.ok := fun d hd => hok d (List.mem_of_mem_take (by rw [← hus]; exact hd))
  have HV := Lib.hid hv'; have HK := Lib.hid hoks
  clear hf hm hv hv' hus hok hoks hwf0
  have hr0 : 0 ≤ a0 % 20 := by omega
  have hr1 : a0 % 20 < 20 := by omega
  go_enter Try.func6, Try.ntmps6
  go_wp2_with fail
  refine (new_ok (a0 % 20 + 1) w (by omega) (by omega)).mono ?_
  rintro e w1 ⟨rfl, hq1, ho1⟩
  have Q1 := Lib.hid hq1; clear hq1
  have hs1 : w.heap.size < w1.heap.size := Q1.out.blocks _ (by simp)
  go_wp2_with fail
  refine alloc_abs (G := fun w0 => Calls _ _ _ w0 _) ?_
  intro w2 hb2 ho2 hs2
  refine (HF.out w2).mono ?_
  rintro e w3 ⟨rfl, rfl⟩
  obtain ⟨most, hmost⟩ : ∃ most, most = a0 % 20 + 1 := ⟨_, rfl⟩
  have hst : Once w w2 w.heap.size (a0 % 20 + 1) (.slice (some ⟨w1.heap.size, 0, none⟩) 1 1) (.int .i64 0) (.int .i64 0) 0 := by
    refine ⟨⟨[w.heap.size], 0, [], w1.heap.size, 1, [false], rfl, rfl, rfl, Q1.out.kept ho2 (by simp), ⟨_, hb2, rfl, by simp, by simp [maxLen], rfl⟩, by simp, by simp, ?_, by simp, by simp; omega, by omega, by simp⟩, ho1.nil_trans ho2⟩
    intro i b hi
    match i, hi with
    | 0, h => simp at h; subst h; rfl
  have ST := Lib.hid hst; clear hst hb2 hs2
  go_wp2
  go_loopw [7, 8, 9, 30] (fun vo vm vt vi wr => ∃ k : Nat, vi = .int .i64 k ∧ k ≤ m ∧ Once w wr w.heap.size (a0 % 20 + 1) vo vm vt k) (fun _ _ _ vi _ => m - (intOf vi).toNat)
  case atStart => exact ⟨0, rfl, Nat.zero_le _, ST.out⟩
  case round =>
    obtain ⟨k, rfl, hk, hon⟩ := hrel
    obtain ⟨⟨F, tm, l, g, gc, os, rfl, rfl, rfl, hq, hrow, hos0, hosk, hopen, htm, hgF, hgw, hF⟩, hoo⟩ := hon
    have Q := Lib.hid hq; have RW := Lib.hid hrow; have OP := Lib.hid hopen; have TM := Lib.hid htm; have GF := Lib.hid hgF; have FF := Lib.hid hF; have OO := Lib.hid hoo
    clear hq hrow hopen htm hgF hF hoo
    have hlen : (l.length : Int) ≤ a0 % 20 + 1 := Q.out.le
    have hol : os.length ≤ 301 := by omega
    by_cases hkm : k < m
    · have hkl : k < us.length := by rw [HV.out.len]; exact hkm
      obtain ⟨bb, off, hp, hb, hcl⟩ := HV.out.cell k us[k] (List.getElem?_eq_getElem hkl)
      obtain ⟨okk, oka, okb⟩ := HK.out us[k] (List.getElem_mem hkl)
      generalize us[k] = d at hcl okk oka okb
      subst hp
      have u0 : wr.cell? ⟨bb, off + k * 3, none⟩ = some (.int .i64 d.k) := by rw [OO.out.cell hb (by simp)]; exact hcl 0 _ rfl
      have u1 : wr.cell? ⟨bb, off + k * 3 + 1, none⟩ = some (.int .i64 d.a) := by rw [OO.out.cell hb (by simp)]; exact hcl 1 _ rfl
      have u2 : wr.cell? ⟨bb, off + k * 3 + 2, none⟩ = some (.int .i64 d.b) := by rw [OO.out.cell hb (by simp)]; exact hcl 2 _ rfl
      have hbw : bb < wr.heap.size := Nat.lt_of_lt_of_le hb OO.out.size
      clear hcl
      have hFs : Hid (∀ x ∈ F, x < wr.heap.size) := Q.out.blocks
      have hgs := RW.out.lt
      have hsw := OO.out.size
      have hgcm : gc ≤ 9223372036854775807 := by obtain ⟨_, _, _, _, h, _⟩ := RW.out; unfold maxLen at h; omega
      have hogc : os.length ≤ gc := by obtain ⟨_, _, _, h, _, _⟩ := RW.out; exact h
      by_cases hk0 : d.k = 0
      · have t0 : (d.k == 0) = true := by rw [beq_iff_eq]; exact hk0
        have HK0 := Lib.hid hk0; clear hk0
        by_cases ha : d.a < 0
        · go_wp2_with fail
          refine alloc_abs (G := fun w0 => Calls _ _ _ w0 _) ?_
          intro w4 hb4 ho4 hs4
          have B4 := Lib.hid hb4; have S4 := Lib.hid hs4
          clear hb4 hs4 u0 u1 u2
          refine (push_range w.heap.size d.a d.b w4 ha).mono ?_
          rintro e w5 ⟨rfl, rfl⟩
          have hT : Once w w4 w.heap.size (a0 % 20 + 1) (.slice (some ⟨g, 0, none⟩) os.length gc) (.int .i64 (l.length : Int)) (.int .i64 tm) (k + 1) :=
            ⟨⟨F, tm, l, g, gc, os, rfl, rfl, rfl, Q.out.kept ho4 (by simp), RW.out.kept ho4 (by simp), hos0, by omega, OP.out, TM.out, GF.out, hgw, FF.out⟩, OO.out.nil_trans ho4⟩
          have TT := Lib.hid hT; clear hT
          go_wp2_with fail
          refine (len_any (Q.out.rep.kept ho4 (by simp))).mono ?_
          rintro e w30 ⟨rfl, rfl⟩
          go_wp2
          go_roundw
          case rel => exact ⟨k + 1, by go_num, by omega, TT.out⟩
          case measure => simp [intOf]; omega
        · by_cases hb2 : d.a < tm
          · go_wp2_with fail
            refine alloc_abs (G := fun w0 => Calls _ _ _ w0 _) ?_
            intro w4 hb4 ho4 hs4
            have B4 := Lib.hid hb4; have S4 := Lib.hid hs4
            clear hb4 hs4 u0 u1 u2
            refine (push_order (Q.out.kept ho4 (by simp)) d.a d.b (by omega) hb2).mono ?_
            rintro e w5 ⟨rfl, rfl⟩
            have hT : Once w w4 w.heap.size (a0 % 20 + 1) (.slice (some ⟨g, 0, none⟩) os.length gc) (.int .i64 (l.length : Int)) (.int .i64 tm) (k + 1) :=
              ⟨⟨F, tm, l, g, gc, os, rfl, rfl, rfl, Q.out.kept ho4 (by simp), RW.out.kept ho4 (by simp), hos0, by omega, OP.out, TM.out, GF.out, hgw, FF.out⟩, OO.out.nil_trans ho4⟩
            have TT := Lib.hid hT; clear hT
            go_wp2_with fail
            refine (len_any (Q.out.rep.kept ho4 (by simp))).mono ?_
            rintro e w30 ⟨rfl, rfl⟩
            go_wp2
            go_roundw
            case rel => exact ⟨k + 1, by go_num, by omega, TT.out⟩
            case measure => simp [intOf]; omega
          · by_cases hb3 : (l.length : Int) = a0 % 20 + 1
            · have t1 : ((l.length : Int) == a0 % 20 + 1) = true := by rw [beq_iff_eq]; exact hb3
              have HB3 := Lib.hid hb3; clear hb3
              go_wp2_with fail
              refine alloc_abs (G := fun w0 => Calls _ _ _ w0 _) ?_
              intro w4 hb4 ho4 hs4
              have B4 := Lib.hid hb4; have S4 := Lib.hid hs4
              clear hb4 hs4 u0 u1 u2
              refine (push_full (Q.out.kept ho4 (by simp)) d.a d.b (by omega) (by omega) (by have := HB3.out; omega)).mono ?_
              rintro e w5 ⟨rfl, ho5⟩
              have o45 : Only [] wr w5 := ho4.nil_trans ho5
              have hT : Once w w5 w.heap.size (a0 % 20 + 1) (.slice (some ⟨g, 0, none⟩) os.length gc) (.int .i64 (l.length : Int)) (.int .i64 tm) (k + 1) :=
                ⟨⟨F, tm, l, g, gc, os, rfl, rfl, rfl, Q.out.kept o45 (by simp), RW.out.kept o45 (by simp), hos0, by omega, OP.out, TM.out, GF.out, hgw, FF.out⟩, OO.out.nil_trans o45⟩
              have TT := Lib.hid hT; clear hT
              go_wp2_with fail
              refine (len_any (Q.out.rep.kept o45 (by simp))).mono ?_
              rintro e w30 ⟨rfl, rfl⟩
              go_wp2
              go_roundw
              case rel => exact ⟨k + 1, by go_num, by omega, TT.out⟩
              case measure => simp [intOf]; omega
            · have t1 : ((l.length : Int) == a0 % 20 + 1) = false := by rw [beq_eq_false_iff_ne]; exact hb3
              go_wp2_with fail
              refine alloc_abs (G := fun w0 => Calls _ _ _ w0 _) ?_
              intro w4 hb4 ho4 hs4
              have B4 := Lib.hid hb4; have S4 := Lib.hid hs4
              clear hb4 hs4 u0 u1 u2
              have hpk := push_ok (Q.out.kept ho4 (by simp)) d.a d.b (by omega) (by omega) (by omega) (by omega) (by omega)
              rw [show (os.length : Int) - 1 + 1 = (os.length : Int) by omega] at hpk
              refine hpk.mono ?_
              clear hpk hb3 t1
              rintro e w5 ⟨rfl, F5, l5, hq5, ho5, hF5, hl5, hm5⟩
              have Q5 := Lib.hid hq5; have G5 := Lib.hid hF5; have L5 := Lib.hid hl5; have M5 := Lib.hid hm5; clear hq5 hF5 hl5 hm5
              have hs4 := ho4.size
              have hs5 := ho5.size
              have R5 := Lib.hid ((RW.out.kept ho4 (by simp)).kept ho5 GF.out)
              have hgF5 : Hid (g ∉ F5) := fun h => by rcases G5.out g h with h' | h'; exact GF.out h'; omega
              have hF5s : Hid (∀ x ∈ F5, x < w5.heap.size) := Q5.out.blocks
              go_wp2_with (at_builtin; refine stop_here ?_)
              refine stop_go ?_
              refine alloc_abs (G := wpList _ _ _ _ _) ?_
              intro w6 hb6 ho6 hs6
              refine wpList_append_row rfl _ _ 32 rfl 4 ib (.bool false) 1 1 Try.underlying32 HIB.out HZB.out HSB.out HBB.out rfl (by decide) (.slice (some ⟨g, 0, none⟩) os.length gc) os.length (os.flatMap bc) rfl ((R5.out.kept ho6 (by simp)).owns bc_len (Nat.zero_le _)) ⟨w5.heap.size, 0, none⟩ 1 1 (bc true) rfl rfl ?_ (by simp [bc, Value.oneCell']) (by simp [maxLen]; omega) (by omega) (by decide) ?_
              · intro j u hj
                rw [addr_add, cell_got hb6]
                simpa [bc] using hj
              intro g' gc' w7 hown7 ho7 hblk7
              have ho7 : Only [g] w6 w7 := ho7
              have hblk7 : g' = g ∨ g' = w6.heap.size := by rcases hblk7 with h | h; exact .inl (Option.some.inj h).symm; exact .inr h
              have hr7 : BRow w7 g' gc' (os ++ [true]) := RowAt.of_owns (by rw [List.flatMap_append]; simpa using hown7) (by simp)
              have hs6' := hs6
              have hg'F : g' ∉ F5 := fun h => by
                rcases hblk7 with rfl | rfl
                · exact hgF5.out h
                · have := hF5s.out _ h; omega
              have hT : Once w w7 w.heap.size (a0 % 20 + 1) (.slice (some ⟨g', 0, none⟩) (os.length + 1) gc') (.int .i64 ((l.length : Int) + 1)) (.int .i64 tm) (k + 1) := by
                have o7 : Only [g] w5 w7 := ho6.nil_left ho7
                refine ⟨⟨F5, tm, l5, g', gc', os ++ [true], by simp, by rw [L5.out]; rfl, rfl, ?_, hr7, by simp, by simp; omega, ?_, ?_, hg'F, by rcases hblk7 with rfl | rfl <;> omega, ?_⟩, ?_⟩
                · have := Q5.out.kept o7 (fun x hx h => by simp at h; subst h; exact hgF5.out hx)
                  simpa using this
                · intro i b hi
                  by_cases hio : i < os.length
                  · rw [List.getElem?_append_left hio] at hi
                    rw [OP.out i b hi, Bool.eq_iff_iff, hasId_true, hasId_true]
                    constructor
                    · rintro ⟨e, he, hei⟩; exact ⟨e, (M5.out e).2 (.inr he), hei⟩
                    · rintro ⟨e, he, hei⟩
                      rcases (M5.out e).1 he with rfl | h
                      · simp at hei; omega
                      · exact ⟨e, h, hei⟩
                  · have hie : i = os.length := by
                      have := (List.getElem?_eq_some_iff.1 hi).1
                      simp at this; omega
                    subst hie
                    simp at hi
                    subst hi
                    exact (hasId_true.2 ⟨_, (M5.out _).2 (.inl rfl), by simp⟩).symm
                · intro e he
                  rcases (M5.out e).1 he with rfl | h
                  · simp; omega
                  · exact TM.out e h
                · intro b hb
                  rcases G5.out b hb with h | h
                  · exact FF.out b h
                  · omega
                · exact (((OO.out.nil_trans ho4).trans ho5 (fun x hx => .inr (FF.out x hx))).nil_trans ho6).trans ho7 (by intro x hx; simp at hx; subst hx; exact .inr hgw)
              have QL := Lib.hid ((Q5.out.kept ho6 (by simp)).rep.kept ho7 (fun x hx h => by simp at h; subst h; exact hgF5.out hx))
              have HL5 : Hid ((l5.length : Int) = (l.length : Int) + 1) := by have := L5.out; show (l5.length : Int) = _; omega
              have TT := Lib.hid hT
              clear hT hb6 hown7 ho7 hblk7 hr7 hg'F hs6 hs6' ho6
              go_wp2_with fail
              refine (len_any QL.out).mono ?_
              rintro e w30 ⟨rfl, rfl⟩
              rw [HL5.out]
              go_wp2
              go_roundw
              case rel => exact ⟨k + 1, by go_num, by omega, TT.out⟩
              case measure => simp [intOf]; omega
      · have t0 : (d.k == 0) = false := by rw [beq_eq_false_iff_ne]; exact hk0
        clear hk0
        by_cases hk1 : d.k = 1
        · have t1 : (d.k == 1) = true := by rw [beq_iff_eq]; exact hk1
          have HK1 := Lib.hid hk1; clear hk1
          by_cases hl0 : 0 < l.length
          · obtain ⟨f1, f2⟩ := Q.out.first hl0
            obtain ⟨i, hi⟩ : ∃ i : Nat, (el l 0).i = (i : Int) := ⟨((el l 0).i).toNat, by have := (Q.out.ids _ f1).1; omega⟩
            have hid1 := (Q.out.ids _ f1).1
            have hid2 := (Q.out.ids _ f1).2
            rw [hi] at hid1 hid2
            have hio : i < os.length := by omega
            have hop : os[i]? = some true := by
              have h := OP.out i os[i] (List.getElem?_eq_getElem hio)
              rw [List.getElem?_eq_getElem hio, h, hasId_true.2 ⟨_, f1, hi⟩]
            have htm1 := TM.out _ f1
            obtain ⟨xt, xx, hx⟩ : ∃ xt xx, el l 0 = ⟨xt, (i : Int), xx⟩ := ⟨(el l 0).t, (el l 0).x, by rw [← hi]⟩
            rw [hx] at htm1
            simp only at htm1
            have HX := Lib.hid hx; have HOP := Lib.hid hop; have F1 := Lib.hid f1; have F2 := Lib.hid f2; clear hx hop f1 f2 hi
            go_wp2_with fail
            refine alloc_abs (G := fun w0 => Calls _ _ _ w0 _) ?_
            intro w4 hb4 ho4 hs4
            have B4 := Lib.hid hb4; have S4 := Lib.hid hs4
            clear hb4 hs4 u0 u1 u2
            have hpp := pop_some (Q.out.kept ho4 (by simp)) hl0
            rw [HX.out] at hpp
            refine hpp.mono ?_
            clear hpp
            rintro e w5 ⟨rfl, l5, hq5, ho5, hl5, hm5⟩
            have Q5 := Lib.hid hq5; have L5 := Lib.hid hl5; have M5 := Lib.hid hm5; clear hq5 hl5 hm5
            have hs4 := ho4.size
            have hs5 := ho5.size
            have R5 := Lib.hid ((RW.out.kept ho4 (by simp)).kept ho5 GF.out)
            have sc := RowAt.cell bc_len R5.out HOP.out (j := 0) (by omega)
            simp only [Nat.mul_one, Nat.add_zero, bc] at sc
            have sf := R5.out.frozen i
            have hg5 := R5.out.lt
            have v1 : ¬ (i : Int) < 1 := by omega
            have v2 : ¬ (os.length : Int) ≤ (i : Int) := by omega
            have v3 : (0 : Int) < (l.length : Int) := by omega
            have v4 : ¬ xt < tm := by omega
            go_wp2_with fail
            refine wabs (G := fun w0 => Calls _ _ _ w0 _) (R := fun w6 => Once w w6 w.heap.size (a0 % 20 + 1) (.slice (some ⟨g, 0, none⟩) os.length gc) (.int .i64 ((l.length : Int) - 1)) (.int .i64 xt) (k + 1) ∧ QRep w6 w.heap.size F (.int .i64 (a0 % 20 + 1)) (.int .i64 xt) (.int .i64 ((os.length : Int) - 1)) l5) ?_ ?_
            · have hr6 := R5.out.set1 (f := fun b : Bool => .bool b) hio false
              have oc : Only [g] w5 (w5.setCell ⟨g, i, none⟩ (.bool false)) := (Only.refl [g] w5).setCell (by simp) _
              have oa := (Only.refl [] (w5.setCell ⟨g, i, none⟩ (.bool false))).alloc (Obj.cells #[.int .i64 xt, .int .i64 (i : Int), .int .i64 xx] 31)
              have hq6 := (Q5.out.kept oc (fun x hx h => by simp at h; subst h; exact GF.out hx)).kept oa (by simp)
              refine ⟨⟨⟨F, xt, l5, g, gc, os.set i false, by simp, by have := L5.out; rw [show ((l5.length : Nat) : Int) = (l.length : Int) - 1 by omega], rfl, by simpa using hq6, hr6.kept oa (by simp), by simpa using hos0, by simp; omega, ?_, ?_, GF.out, hgw, FF.out⟩, ?_⟩, hq6.rep⟩
              · intro j b hj
                by_cases hij : i = j
                · subst hij
                  rw [List.getElem?_set_self hio] at hj
                  cases hj
                  refine (hasId_false.2 fun e he => ?_).symm
                  exact ((M5.out e).1 he).2
                · rw [List.getElem?_set_ne hij] at hj
                  rw [OP.out j b hj, Bool.eq_iff_iff, hasId_true, hasId_true]
                  constructor
                  · rintro ⟨e, he, hei⟩; exact ⟨e, (M5.out e).2 ⟨he, by simp; omega⟩, hei⟩
                  · rintro ⟨e, he, hei⟩; exact ⟨e, ((M5.out e).1 he).1, hei⟩
              · intro e he
                have := F2.out e ((M5.out e).1 he).1
                rw [HX.out] at this
                unfold ge at this
                simp only at this
                omega
              · exact (((OO.out.nil_trans ho4).trans ho5 (fun x hx => .inr (FF.out x hx))).trans oc (by intro x hx; simp at hx; subst hx; exact .inr hgw)).nil_trans oa
            rintro w6 ⟨hT, hQL⟩
            have TT := Lib.hid hT; have QL := Lib.hid hQL; clear hT hQL sc sf
            have HL5 : Hid ((l5.length : Int) = (l.length : Int) - 1) := by have := L5.out; show (l5.length : Int) = _; omega
            refine (len_any QL.out).mono ?_
            rintro e w30 ⟨rfl, rfl⟩
            rw [HL5.out]
            go_wp2
            go_roundw
            case rel => exact ⟨k + 1, by go_num, by omega, TT.out⟩
            case measure => simp [intOf]; omega
          · have hl00 : l = [] := List.eq_nil_of_length_eq_zero (by omega)
            subst hl00
            go_wp2_with fail
            refine alloc_abs (G := fun w0 => Calls _ _ _ w0 _) ?_
            intro w4 hb4 ho4 hs4
            have B4 := Lib.hid hb4; have S4 := Lib.hid hs4
            clear hb4 hs4 u0 u1 u2
            refine (pop_none (Q.out.kept ho4 (by simp)).rep).mono ?_
            rintro e w5 ⟨rfl, ho5⟩
            have o45 : Only [] wr w5 := ho4.nil_trans ho5
            have hT : Once w w5 w.heap.size (a0 % 20 + 1) (.slice (some ⟨g, 0, none⟩) os.length gc) (.int .i64 0) (.int .i64 tm) (k + 1) :=
              ⟨⟨F, tm, [], g, gc, os, rfl, rfl, rfl, Q.out.kept o45 (by simp), RW.out.kept o45 (by simp), hos0, by omega, OP.out, TM.out, GF.out, hgw, FF.out⟩, OO.out.nil_trans o45⟩
            have TT := Lib.hid hT; clear hT
            go_wp2_with fail
            refine alloc_abs (G := fun w0 => Calls _ _ _ w0 _) ?_
            intro w6 hb6 ho6 hs6
            clear hb6 hs6
            refine (len_any ((Q.out.rep.kept o45 (by simp)).kept ho6 (by simp))).mono ?_
            rintro e w30 ⟨rfl, rfl⟩
            go_wp2
            go_roundw
            case rel => exact ⟨k + 1, by go_num, by omega, TT.out.kept ho6⟩
            case measure => simp [intOf]; omega
        · have t1 : (d.k == 1) = false := by rw [beq_eq_false_iff_ne]; exact hk1
          clear hk1
          by_cases hk3 : d.k = 3
          · have t3 : (d.k == 3) = true := by rw [beq_iff_eq]; exact hk3
            have HK3 := Lib.hid hk3; clear hk3
            by_cases hr : 1 ≤ d.a ∧ d.a < (os.length : Int)
            · obtain ⟨hr1, hr2⟩ := hr
              obtain ⟨i, hi⟩ : ∃ i : Nat, d.a = (i : Int) := ⟨d.a.toNat, by omega⟩
              have hio : i < os.length := by omega
              have hob := OP.out i os[i] (List.getElem?_eq_getElem hio)
              cases hb : os[i]
              · rw [hb] at hob
                have hno : ∀ e ∈ l, e.i ≠ d.a := by rw [hi]; exact hasId_false.1 hob.symm
                have NO := Lib.hid hno
                have hge : os[i]? = some false := by rw [List.getElem?_eq_getElem hio, hb]
                have sc := RowAt.cell bc_len RW.out hge (j := 0) (by omega)
                simp only [Nat.mul_one, Nat.add_zero, bc] at sc
                have HI := Lib.hid hi
                rw [hi] at u1 hr1 hr2 oka
                clear hno hb hob hge hi
                go_wp2_with fail
                refine alloc_abs (G := fun w0 => Calls _ _ _ w0 _) ?_
                intro w4 hb4 ho4 hs4
                clear hb4 hs4 u0 u1 u2 sc
                refine (cancel_no (Q.out.rep.kept ho4 (by simp)) (i : Int) oka (by rw [← HI.out]; exact NO.out)).mono ?_
                rintro e w5 ⟨rfl, rfl⟩
                have hT : Once w w4 w.heap.size (a0 % 20 + 1) (.slice (some ⟨g, 0, none⟩) os.length gc) (.int .i64 (l.length : Int)) (.int .i64 tm) (k + 1) :=
                  ⟨⟨F, tm, l, g, gc, os, rfl, rfl, rfl, Q.out.kept ho4 (by simp), RW.out.kept ho4 (by simp), hos0, by omega, OP.out, TM.out, GF.out, hgw, FF.out⟩, OO.out.nil_trans ho4⟩
                have TT := Lib.hid hT; clear hT
                go_wp2_with fail
                refine (len_any (Q.out.rep.kept ho4 (by simp))).mono ?_
                rintro e w30 ⟨rfl, rfl⟩
                go_wp2
                go_roundw
                case rel => exact ⟨k + 1, by go_num, by omega, TT.out⟩
                case measure => simp [intOf]; omega
              · rw [hb] at hob
                obtain ⟨x, hx, hxi⟩ := hasId_true.1 hob.symm
                have hge : os[i]? = some true := by rw [List.getElem?_eq_getElem hio, hb]
                have sc := RowAt.cell bc_len RW.out hge (j := 0) (by omega)
                simp only [Nat.mul_one, Nat.add_zero, bc] at sc
                have HI := Lib.hid hi; have HXM := Lib.hid hx; have HXI := Lib.hid hxi
                rw [hi] at u1 hr1 hr2 oka
                clear hb hob hge hi hx hxi
                go_wp2_with fail
                refine alloc_abs (G := fun w0 => Calls _ _ _ w0 _) ?_
                intro w4 hb4 ho4 hs4
                have B4' := Lib.hid hb4
                clear hb4 u0 u1 u2 sc
                refine (cancel_yes (Q.out.kept ho4 (by simp)) (i : Int) oka HXM.out HXI.out).mono ?_
                rintro e w5 ⟨rfl, l5, hq5, ho5, hl5, hm5⟩
                have Q5 := Lib.hid hq5; have L5 := Lib.hid hl5; have M5 := Lib.hid hm5; clear hq5 hl5 hm5
                have hs4' := ho4.size
                have hs5 := ho5.size
                have R5 := Lib.hid ((RW.out.kept ho4 (by simp)).kept ho5 GF.out)
                have hge : os[i]? = some true := by rw [List.getElem?_eq_getElem hio, OP.out i os[i] (List.getElem?_eq_getElem hio), hasId_true.2 ⟨_, HXM.out, HXI.out⟩]
                have sc := RowAt.cell bc_len R5.out hge (j := 0) (by omega)
                simp only [Nat.mul_one, Nat.add_zero, bc] at sc
                have sf := R5.out.frozen i
                have hg5 := R5.out.lt
                clear hge
                have B5 := Lib.hid (box_kept B4'.out ho5 (fun x hx => .inl (hFs.out x hx)))
                have c1 := cell_got B5.out 1
                have hwg : g ≠ wr.heap.size := by omega
                have hl1 : 1 ≤ l.length := List.length_pos_of_mem HXM.out
                go_wp2_with fail
                refine wabs (G := fun w0 => Calls _ _ _ w0 _) (R := fun w6 => Once w w6 w.heap.size (a0 % 20 + 1) (.slice (some ⟨g, 0, none⟩) os.length gc) (.int .i64 ((l.length : Int) - 1)) (.int .i64 tm) (k + 1) ∧ QRep w6 w.heap.size F (.int .i64 (a0 % 20 + 1)) (.int .i64 tm) (.int .i64 ((os.length : Int) - 1)) l5) ?_ ?_
                · have hr6 := R5.out.set1 (f := fun b : Bool => .bool b) hio false
                  have oc : Only [g] w5 (w5.setCell ⟨g, i, none⟩ (.bool false)) := (Only.refl [g] w5).setCell (by simp) _
                  have hq6 := Q5.out.kept oc (fun x hx h => by simp at h; subst h; exact GF.out hx)
                  refine ⟨⟨⟨F, tm, l5, g, gc, os.set i false, by simp, by have := L5.out; rw [show ((l5.length : Nat) : Int) = (l.length : Int) - 1 by omega], rfl, by simpa using hq6, hr6, by simpa using hos0, by simp; omega, ?_, fun e he => TM.out e ((M5.out e).1 he).1, GF.out, hgw, FF.out⟩, ?_⟩, hq6.rep⟩
                  · intro j b hj
                    by_cases hij : i = j
                    · subst hij
                      rw [List.getElem?_set_self hio] at hj
                      cases hj
                      refine (hasId_false.2 fun e he => ?_).symm
                      exact ((M5.out e).1 he).2
                    · rw [List.getElem?_set_ne hij] at hj
                      rw [OP.out j b hj, Bool.eq_iff_iff, hasId_true, hasId_true]
                      constructor
                      · rintro ⟨e, he, hei⟩; exact ⟨e, (M5.out e).2 ⟨he, by omega⟩, hei⟩
                      · rintro ⟨e, he, hei⟩; exact ⟨e, ((M5.out e).1 he).1, hei⟩
                  · exact ((OO.out.nil_trans ho4).trans ho5 (fun x hx => .inr (FF.out x hx))).trans oc (by intro x hx; simp at hx; subst hx; exact .inr hgw)
                rintro w6 ⟨hT, hQL⟩
                have TT := Lib.hid hT; have QL := Lib.hid hQL; clear hT hQL sc sf
                have HL5 : Hid ((l5.length : Int) = (l.length : Int) - 1) := by have := L5.out; show (l5.length : Int) = _; omega
                refine (len_any QL.out).mono ?_
                rintro e w30 ⟨rfl, rfl⟩
                rw [HL5.out]
                go_wp2
                go_roundw
                case rel => exact ⟨k + 1, by go_num, by omega, TT.out⟩
                case measure => simp [intOf]; omega
            · have hno : ∀ e ∈ l, e.i ≠ d.a := fun e he h => by have := Q.out.ids e he; omega
              have NO := Lib.hid hno; clear hno
              by_cases hr1 : 1 ≤ d.a
              · have hr2 : ¬ d.a < (os.length : Int) := by omega
                clear hr
                go_wp2_with fail
                refine alloc_abs (G := fun w0 => Calls _ _ _ w0 _) ?_
                intro w4 hb4 ho4 hs4
                have B4 := Lib.hid hb4; have S4 := Lib.hid hs4
                clear hb4 hs4 u0 u1 u2
                refine (cancel_no (Q.out.rep.kept ho4 (by simp)) d.a oka NO.out).mono ?_
                rintro e w5 ⟨rfl, rfl⟩
                have hT : Once w w4 w.heap.size (a0 % 20 + 1) (.slice (some ⟨g, 0, none⟩) os.length gc) (.int .i64 (l.length : Int)) (.int .i64 tm) (k + 1) :=
                  ⟨⟨F, tm, l, g, gc, os, rfl, rfl, rfl, Q.out.kept ho4 (by simp), RW.out.kept ho4 (by simp), hos0, by omega, OP.out, TM.out, GF.out, hgw, FF.out⟩, OO.out.nil_trans ho4⟩
                have TT := Lib.hid hT; clear hT
                go_wp2_with fail
                refine (len_any (Q.out.rep.kept ho4 (by simp))).mono ?_
                rintro e w30 ⟨rfl, rfl⟩
                go_wp2
                go_roundw
                case rel => exact ⟨k + 1, by go_num, by omega, TT.out⟩
                case measure => simp [intOf]; omega
              · clear hr
                go_wp2_with fail
                refine alloc_abs (G := fun w0 => Calls _ _ _ w0 _) ?_
                intro w4 hb4 ho4 hs4
                have B4 := Lib.hid hb4; have S4 := Lib.hid hs4
                clear hb4 hs4 u0 u1 u2
                refine (cancel_no (Q.out.rep.kept ho4 (by simp)) d.a oka NO.out).mono ?_
                rintro e w5 ⟨rfl, rfl⟩
                have hT : Once w w4 w.heap.size (a0 % 20 + 1) (.slice (some ⟨g, 0, none⟩) os.length gc) (.int .i64 (l.length : Int)) (.int .i64 tm) (k + 1) :=
                  ⟨⟨F, tm, l, g, gc, os, rfl, rfl, rfl, Q.out.kept ho4 (by simp), RW.out.kept ho4 (by simp), hos0, by omega, OP.out, TM.out, GF.out, hgw, FF.out⟩, OO.out.nil_trans ho4⟩
                have TT := Lib.hid hT; clear hT
                go_wp2_with fail
                refine (len_any (Q.out.rep.kept ho4 (by simp))).mono ?_
                rintro e w30 ⟨rfl, rfl⟩
                go_wp2
                go_roundw
                case rel => exact ⟨k + 1, by go_num, by omega, TT.out⟩
                case measure => simp [intOf]; omega
          · have t3 : (d.k == 3) = false := by rw [beq_eq_false_iff_ne]; exact hk3
            clear hk3
            go_wp2_with fail
            refine alloc_abs (G := fun w0 => Calls _ _ _ w0 _) ?_
            intro w4 hb4 ho4 hs4
            have B4 := Lib.hid hb4; have S4 := Lib.hid hs4
            clear hb4 hs4 u0 u1 u2
            refine wabs (G := fun w0 => Calls _ _ _ w0 _) (R := fun w6 => w6 = w4) rfl ?_
            rintro w6 rfl
            have hT : Once w w6 w.heap.size (a0 % 20 + 1) (.slice (some ⟨g, 0, none⟩) os.length gc) (.int .i64 (l.length : Int)) (.int .i64 tm) (k + 1) :=
              ⟨⟨F, tm, l, g, gc, os, rfl, rfl, rfl, Q.out.kept ho4 (by simp), RW.out.kept ho4 (by simp), hos0, by omega, OP.out, TM.out, GF.out, hgw, FF.out⟩, OO.out.nil_trans ho4⟩
            have TT := Lib.hid hT; clear hT
            refine (len_any (Q.out.rep.kept ho4 (by simp))).mono ?_
            rintro e w30 ⟨rfl, rfl⟩
            go_wp2
            go_roundw
            case rel => exact ⟨k + 1, by go_num, by omega, TT.out⟩
            case measure => simp [intOf]; omega
    · have hkm' : k = m := by omega
      go_wp2_with fail
      refine (awake_any _).mono ?_
      rintro e w6 ⟨rfl, ho6⟩
      go_wp2
      go_ret
      exact ⟨rfl, OO.out.nil_trans ho6⟩
set_option maxRecDepth 100000 in
theorem agendaOnce_lifted (os : Os) (started : os.Started) (H : Type) (enc : TypeId × Value → H) :
    ReturnsInHanded {} Try.checked os 6 .any (Rows.agendaOnceSpec.pre6 enc Try.prog Try.f6 Rows.agendaOnceRow.domain false) (Rows.agendaOnceSpec.post enc Try.prog Try.f6 false true false false) := by
  refine returnsInHanded_of_change (C := Try.checked) law_own started (by kernel_rfl) Try.func6
    (ChangeSpec.witness6 (enc := enc) (C := Try.checked) false ⟨#[], #[.int .u8 0, .slice none 0 0], []⟩ 8 (by kernel_rfl) (by kernel_rfl) (by kernel_rfl) (by kernel_rfl)) ?_
  intro W base args ds gs before hval0 hW hcnd _
  have hval : ∀ (j : Nat) t v, Try.f6.params[j]? = some t → args[j]? = some v → Value.okWide Try.prog W .any base t v := hval0
  have hW' := hW
  obtain ⟨p, q, hA0, hV, rfl, hfz, hnd⟩ := hW
  have hA : DataW.TrodAll enc Try.prog W 0 (fun _ => true) true Try.f6.params.toList args.toList ds p := hA0
  rw [Try.params6] at hA hval
  obtain ⟨v0, vs0, d0, ds0, p0, q0, hargs, rfl, rfl, h0, r0⟩ := trodAll_cons hA
  obtain ⟨v1, vs1, d1, ds1, p1, q1, rfl, rfl, rfl, h1, r1⟩ := trodAll_cons r0
  obtain ⟨rfl, rfl, rfl⟩ := trodAll_nil r1
  obtain rfl : args = #[v0, v1] := by cases args; simp_all
  obtain ⟨rfl, rfl⟩ := trodVars_none hV
  obtain ⟨a0, rfl, rfl, rfl, w0⟩ := open_int Try.underlying5 (hval 0 5 v0 rfl rfl) h0
  have k1 := h1
  have lt1 : ∀ x ∈ p1, x.block < W.heap.size := by obtain ⟨m, hm⟩ := k1; exact DataW.trod_lt m _ _ _ hm
  obtain ⟨a1, len1, cap1, rfl⟩ := okWide_slice Try.underlying38 (hval 1 38 v1 rfl rfl)
  obtain ⟨z1, w1, g1⟩ := vrow_deeds h1
  clear hA0 hval0
  refine (once_walk a0 a1 len1 cap1 z1 W w0 w1 g1).mono fun e W' ⟨he, ho⟩ => ?_
  subst he
  have bel : Below W.heap.size W W' := ho.nil_below
  exact ⟨_, rfl, _, _, _, [], _, [], hW', trodAll_mk1 (shut_bool Try.underlying4 _), (trodAll_cons_mk (shut_int Try.underlying5 w0) (trodAll_cons_mk (Below.trod law_laidOut (by kernel_rfl) (of_decide_eq_true (by kernel_rfl)) k1 bel lt1) trodAll_mk0)), rfl, bel.frame _, fun h => by cases h⟩

theorem agendaOnce_over : Rows.agendaOnceRow.holds Try.pinned (OpenSpec.ofChange Rows.agendaOnceSpec) :=
  OpenClaim.holds_of_wide 6 Try.f6 rfl rfl rfl rfl rfl rfl rfl ⟨rfl, rfl, rfl, rfl, rfl⟩ rfl rfl rfl rfl rfl (by kernel_rfl) Try.func6 (by kernel_rfl)
    (of_decide_eq_true (by kernel_rfl)) (by unfold Func.isWrapper; first | (rw [if_pos (by decide +kernel)]; kernel_rfl) | (rw [if_neg (by decide +kernel)]; exact ⟨rfl, rfl⟩))
    (fun os started H enc _ => agendaOnce_lifted os started H enc)

theorem agendaOnce_holds : Rows.AgendaOnceSaid := agendaOnce_over
end Go.Proofs.Ytpiilepmaomfeaa
