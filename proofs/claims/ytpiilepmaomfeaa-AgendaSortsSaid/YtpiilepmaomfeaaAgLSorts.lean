/- AgendaSorts: events are popped by time, and those with the same time in the order of pushing: the law returns true for every input. No condition. -/
import Derived.Test.YtpiilepmaomfeaaAgA
import Derived.Test.YtpiilepmaomfeaaLaw
namespace Go.Proofs.Ytpiilepmaomfeaa
open Go.ChangeShapes Go.WideShapes Go.ChangeAt Go.RowKit

abbrev VU16 (w : World) (p : Option Addr) (n cap : Nat) (l : List Int) : Prop := VRow (fun z => [.int .u16 z]) 1 w p n cap l

/-- after `k` pushes: the event with the id `i` has the time and the item of place `i - 1` -/
structure Pushed (w wr : World) (q : Nat) (us : List Int) (k : Nat) : Prop where
  ex : ∃ F l, Que wr q F 300 0 k l ∧ l.length = k ∧ (∀ e ∈ l, e.x = 1 - e.i ∧ us[(e.i - 1).toNat]? = some e.t) ∧ (∀ b ∈ F, w.heap.size ≤ b)
  only : Only [] w wr

/-- after `k` pops: the box `lb` has the last event, the row `sb` the ids that were seen -/
structure Popping (w wr : World) (q lb sb : Nat) (us : List Int) (m k : Nat) : Prop where
  ex : ∃ F l tm last seen, Que wr q F 300 tm m l ∧ l.length + k = m ∧ (∀ e ∈ l, e.x = 1 - e.i ∧ us[(e.i - 1).toNat]? = some e.t) ∧ (∀ b ∈ F, w.heap.size ≤ b) ∧ (∀ b ∈ F, b ≠ lb ∧ b ≠ sb) ∧
    wr.heap[lb]? = some (.cells #[.int .i64 last.t, .int .i64 last.i, .int .i64 last.x] 31 (0, 0)) ∧ RowAt (fun b : Bool => [.bool b]) 4 1 wr sb (m + 1) seen ∧ seen.length = m + 1 ∧
    (∀ e ∈ l, seen[e.i.toNat]? = some false) ∧ (∀ e ∈ l, ge e last)
  lbw : w.heap.size ≤ lb
  sbw : w.heap.size ≤ sb
  ls : lb ≠ sb
  only : Only [] w wr

theorem Try.info4 : (Try.prog.info? 4).map (fun i => (i.zero, i.size, i.bytes)) = some (some (.bool false), 1, 1) := by kernel_rfl

set_option maxRecDepth 100000 in
set_option maxHeartbeats 4000000 in
theorem sorts_walk (p : Option Addr) (n cap : Nat) (zs : List Int) (w : World) (hv : VU16 w p n cap zs) (hwf : ∀ z ∈ zs, (Lit.int .u16 z).wf = true) :
    Calls Try.prog 3 #[.slice p n cap] w fun e w' => e = .returned (.bool true) ∧ Only [] w w' := by
  obtain ⟨ib, hib, hzb, hsb, hbb⟩ := info_parts Try.info4
  have HIB := Lib.hid hib; have HZB := Lib.hid hzb; have HSB := Lib.hid hsb; have HBB := Lib.hid hbb; clear hib hzb hsb hbb
  have hnc := hv.le
  have hcm := hv.cm
  unfold maxLen at hcm
  by_cases hn : n ≤ 300
  · have hni : ¬ (300 : Int) < (n : Int) := by omega
    obtain ⟨m, hm⟩ : ∃ m, m = n := ⟨_, rfl⟩
    subst hm
    have hm3 := hn
    obtain ⟨us, hus⟩ : ∃ us, us = zs.take m := ⟨_, rfl⟩
    have hv' := hv.take m (by omega)
    rw [← hus] at hv'
    have hu : ∀ (k : Nat) (z : Int), us[k]? = some z → 0 ≤ z ∧ z ≤ 65535 := fun k z hz => bounds_u16 (hwf z (List.mem_of_mem_take (by rw [← hus]; exact List.mem_of_getElem? hz)))
    have hcc : ∀ (k : Nat), k < m → ∀ {wr : World}, Only [] w wr → ∃ b off, p = some ⟨b, off, none⟩ ∧ b < w.heap.size ∧ ∃ z, us[k]? = some z ∧ wr.cell? ⟨b, off + k, none⟩ = some (.int .u16 z) := by
      intro k hk wr ho
      have hkl : k < us.length := by rw [hv'.len]; exact hk
      obtain ⟨b, off, h1, h2, h3⟩ := hv'.cell k us[k] (List.getElem?_eq_getElem hkl)
      have h4 := h3 0 _ rfl
      simp only [Nat.mul_one, Nat.add_zero] at h4
      exact ⟨b, off, h1, h2, us[k], List.getElem?_eq_getElem hkl, by rw [ho.cell h2 (by simp)]; exact h4⟩
    have HV := Lib.hid hv'; have HU := Lib.hid hu; have HC := Lib.hid hcc
    clear hv' hu hcc hv hwf hus
    go_enter Try.func3, Try.ntmps3
    go_wp2_with fail
    refine (new_ok 300 w (by omega) (by omega)).mono ?_
    rintro e w1 ⟨rfl, hq1, ho1⟩
    have Q1 := Lib.hid hq1; clear hq1
    go_wp2
    go_loopw [26] (fun vi wr => ∃ k : Nat, vi = .int .i64 k ∧ k ≤ m ∧ Pushed w wr w.heap.size us k) (fun vi _ => m - (intOf vi).toNat)
    case atStart => exact ⟨0, rfl, Nat.zero_le _, ⟨⟨_, _, Q1.out, rfl, by simp, by simp⟩, ho1⟩⟩
    case round =>
      obtain ⟨k, rfl, hk, hpd⟩ := hrel
      have PD := Lib.hid hpd; clear hpd
      by_cases hkn : k < m
      · obtain ⟨b, off, hp, hb, z, hz, hc⟩ := HC.out k hkn PD.out.only
        subst hp
        have hzl : 0 ≤ z ∧ z ≤ 65535 := HU.out k z hz
        obtain ⟨hz0, hz1⟩ := hzl
        obtain ⟨⟨F, l, hq, hl, hel, hF⟩, ho⟩ := PD.out
        have Q := Lib.hid hq; have L := Lib.hid hl; have E := Lib.hid hel; have FF := Lib.hid hF; have OO := Lib.hid ho; have Z := Lib.hid hz
        clear hq hl hel hF ho hz
        go_wp2_with fail
        refine (push_ok Q.out z (-(k : Int)) hz0 hz0 (by rw [L.out]; omega) (by omega) (by omega)).mono ?_
        rintro e w2 ⟨rfl, F2, l2, hq2, ho2, hF2, hl2, hm2⟩
        have Q2 := Lib.hid hq2; have FF2 := Lib.hid hF2; have L2 := Lib.hid hl2; have M2 := Lib.hid hm2; clear hq2 hF2 hl2 hm2
        have hln : (l2.length : Int) = (k : Int) + 1 := by rw [L2.out, L.out]; omega
        have HLN := Lib.hid hln; clear hln hc
        go_wp2_with fail
        refine (len_any Q2.out.rep).mono ?_
        rintro e w3 ⟨rfl, rfl⟩
        rw [HLN.out]
        go_wp2
        go_roundw
        case rel =>
          refine ⟨k + 1, by go_num, by omega, ⟨⟨F2, l2, by have := Q2.out; simpa using this, by rw [L2.out, L.out], ?_, ?_⟩, OO.out.trans ho2 (fun x hx => .inr (FF.out x hx))⟩⟩
          · intro e he
            rcases (M2.out e).1 he with rfl | h
            · exact ⟨by simp; omega, by simpa using Z.out⟩
            · exact E.out e h
          · intro b hb
            rcases FF2.out b hb with h | h
            · exact FF.out b h
            · have := OO.out.size; omega
        case measure => simp [intOf]; omega
      · have hkn' : k = m := by omega
        subst hkn'
        obtain ⟨wo, hwo⟩ : ∃ wo : World, wo = wr := ⟨_, rfl⟩
        subst hwo
        obtain ⟨⟨F, l, hq, hl, hel, hF⟩, ho⟩ := PD.out
        have Q := Lib.hid hq; have L := Lib.hid hl; have E := Lib.hid hel; have FF := Lib.hid hF; have OO := Lib.hid ho
        clear hq hl hel hF ho PD
        go_wp2_with (at_make; refine wpList_make_row (fun b : Bool => [.bool b]) rfl _ _ 32 rfl 4 ib (.bool false) 1 1 Try.underlying32 HIB.out HZB.out HSB.out HBB.out (fun _ => rfl) false rfl .i64 .i64 _ _ (k + 1) rfl rfl (by omega) (by omega) (by omega) (by simp [maxLen]; omega) ?_; intro w3 hrow3 ho3 hs3)
        refine wabs (G := Code.wp _ _ _ _) (R := fun w4 => w4 = w3) rfl ?_
        rintro w4 rfl
        have hlb : w4.heap[wo.heap.size]? = some (.cells #[.int .i64 (-1), .int .i64 0, .int .i64 0] 31 (0, 0)) := ho3.got (alloc_new _ _) (by simp)
        have hst : Popping w w4 w.heap.size wo.heap.size (wo.heap.size + 1) us k 0 := by
          have hs := OO.out.size
          have o13 : Only [] wo w4 := Only.nil_trans ((Only.refl [] wo).alloc _) ho3
          refine ⟨⟨F, l, 0, ⟨-1, 0, 0⟩, List.replicate (k + 1) false, Q.out.kept o13 (by simp), by rw [L.out]; rfl, fun e he => ⟨(E.out e he).1, (E.out e he).2⟩, FF.out, ?_, hlb, by simpa using hrow3, by simp, ?_, ?_⟩, by omega, by omega, by omega, OO.out.nil_trans o13⟩
          · intro b hb; have := Q.out.blocks b hb; omega
          · intro e he; have := Q.out.ids e he; rw [List.getElem?_replicate, if_pos (by omega)]
          · intro e he; have h := (E.out e he).2; have := HU.out _ _ h; unfold ge; simp; omega
        have ST := Lib.hid hst; clear hst hlb hrow3 hs3
        go_loopw [63] (fun vi wr' => ∃ j : Nat, vi = .int .i64 j ∧ j ≤ k ∧ Popping w wr' w.heap.size wo.heap.size (wo.heap.size + 1) us k j) (fun vi _ => k - (intOf vi).toNat)
        case atStart => exact ⟨0, rfl, Nat.zero_le _, ST.out⟩
        case round =>
          obtain ⟨j, rfl, hjk, hpp⟩ := hrel
          have PP := Lib.hid hpp; clear hpp
          by_cases hjn : j < k
          · obtain ⟨⟨F, l, tm, last, seen, hq, hl, hel, hF, hFl, hlast, hrow, hsl, hseen, hge⟩, hlb, hsb, hls, ho⟩ := PP.out
            have hl0 : 0 < l.length := by omega
            obtain ⟨f1, f2⟩ := hq.first hl0
            obtain ⟨i, hi⟩ : ∃ i : Nat, (el l 0).i = (i : Int) + 1 := ⟨((el l 0).i - 1).toNat, by have := (hq.ids _ f1).1; omega⟩
            have hik : i < k := by have := (hq.ids _ f1).2; omega
            obtain ⟨e1, e2⟩ := hel _ f1
            rw [hi] at e2
            have e2' : us[i]? = some (el l 0).t := by have : ((i : Int) + 1 - 1).toNat = i := by omega
                                                      rw [this] at e2; exact e2
            have e3 := hseen _ f1
            rw [hi, show ((i : Int) + 1).toNat = i + 1 by omega] at e3
            have e4 := hge _ f1
            obtain ⟨b, off, hp, hb, z, hz, hc⟩ := HC.out i hik ho
            have hzt : z = (el l 0).t := by rw [e2'] at hz; cases hz; rfl
            subst hzt
            obtain ⟨xt, hxt⟩ : ∃ xt, xt = (el l 0).t := ⟨_, rfl⟩
            have hx : el l 0 = ⟨xt, (i : Int) + 1, 1 - ((i : Int) + 1)⟩ := by
              rw [hxt, ← hi, ← e1]
            obtain ⟨hz0, hz1⟩ := HU.out i _ e2'
            rw [hx] at hz0 hz1 hc e4
            simp only at hz0 hz1 hc
            subst hp
            have hsz := ho.size
            have Q := Lib.hid hq; have L := Lib.hid hl; have E := Lib.hid hel; have FF := Lib.hid hF; have FL := Lib.hid hFl; have LA := Lib.hid hlast; have RW := Lib.hid hrow; have SL := Lib.hid hsl; have SN := Lib.hid hseen; have GE := Lib.hid hge; have OO := Lib.hid ho
            have HX := Lib.hid hx; have SE := Lib.hid e3; have G4 := Lib.hid e4; have CB := Lib.hid hc; have F2 := Lib.hid f2; have ET := Lib.hid e2'
            clear hq hl hel hF hFl hlast hrow hsl hseen hge ho hx e3 e4 hc f1 f2 hi e1 e2 e2' hz hxt
            go_wp2_with fail
            refine (peek_some Q.out.rep hl0).mono ?_
            rintro e w5 ⟨rfl, ho5⟩
            rw [HX.out]
            go_wp2_with fail
            refine alloc_abs (G := fun w0 => Calls _ _ _ w0 _) ?_
            intro w6 hb6 ho6 hs6
            have hpop := pop_some ((Q.out.kept ho5 (by simp)).kept ho6 (by simp)) hl0
            rw [HX.out] at hpop
            refine hpop.mono ?_
            clear hpop
            rintro e w7 ⟨rfl, l7, hq7, ho7, hl7, hm7⟩
            have B6 := Lib.hid hb6; have S6 := Lib.hid hs6; have Q7 := Lib.hid hq7; have L7 := Lib.hid hl7; have M7 := Lib.hid hm7; clear hb6 hs6 hq7 hl7 hm7
            have hFs : Hid (∀ k ∈ F, k < wr.heap.size) := Q.out.blocks
            have s5 := ho5.size; have s6 := ho6.size; have s7 := ho7.size
            have B7 := Lib.hid (box_kept B6.out ho7 (fun k hk => .inl (by have := hFs.out k hk; omega)))
            go_wp2
            refine alloc_abs (G := Code.wp _ _ _ _) ?_
            intro w8 hb8 ho8 hs8
            have HS8 := Lib.hid hs8; have B8 := Lib.hid hb8; clear hs8 hb8
            have C8 := Lib.hid (ho8.got B7.out (by simp))
            have o58 : Hid (Only F wr w8) := (((ho5.weak (S' := F) (by simp)).nil_trans ho6).trans ho7 (fun _ h => .inl h)).nil_trans ho8
            have hlbF : Hid (wo.heap.size ∉ F ∧ wo.heap.size + 1 ∉ F) := ⟨fun h => (FL.out _ h).1 rfl, fun h => (FL.out _ h).2 rfl⟩
            have LA8 := Lib.hid (o58.out.got LA.out hlbF.out.1)
            have RW8 := Lib.hid (RW.out.kept o58.out hlbF.out.2)
            have x0 := cell_got C8.out 0; have x1 := cell_got C8.out 1; have x2 := cell_got C8.out 2
            have y0 := cell_got B8.out 0; have y1 := cell_got B8.out 1; have y2 := cell_got B8.out 2
            have l0 := cell_got LA8.out 0; have l1 := cell_got LA8.out 1; have l2 := cell_got LA8.out 2
            have lf0 := frozen_got LA8.out 0; have lf1 := frozen_got LA8.out 1; have lf2 := frozen_got LA8.out 2
            have sf := RW8.out.frozen (i + 1)
            have sc := RowAt.cell (enc := fun b : Bool => [.bool b]) (s := 1) (fun _ => rfl) RW8.out SE.out (j := 0) (by omega)
            simp only [Nat.mul_one, Nat.add_zero] at sc
            have hbF : b ∉ F := fun h => by have := FF.out b h; omega
            have tc : w8.cell? ⟨b, off + i, none⟩ = some (.int .u16 xt) := by rw [o58.out.cell (by omega) hbF]; exact CB.out
            have q1 := got_lt C8.out; have q2 := got_lt B8.out; have q3 := got_lt LA8.out; have q4 := RW8.out.lt
            have q5 : b < w8.heap.size := by have := o58.out.size; omega
            have t1 : decide ((i : Int) + 1 < 1) = false := by simp; omega
            have t2 : decide ((k : Int) < (i : Int) + 1) = false := by simp; omega
            have t3 : (i : Int) + 1 < (k : Int) + 1 := by omega
            have t4 : (0 : Int) ≤ (i : Int) + 1 := by omega
            have t5 : (i : Int) < (k : Int) := by omega
            have v1 : IntKind.i64.wrap (1 - ((i : Int) + 1)) = 1 - ((i : Int) + 1) := IntWalk.i64_in _ (by omega)
            have v2 : IntKind.i64.wrap ((i : Int) + 1 - 1) = (i : Int) := by rw [IntWalk.i64_in _ (by omega)]; omega
            have v3 : IntKind.i64.wrap (i : Int) = (i : Int) := IntWalk.i64_in _ (by omega)
            have v4 : IntKind.i64.wrap xt = xt := IntWalk.i64_in _ (by omega)
            refine wp_region_grown [0,1,2,3,4,5,6,7,8,9,10,11,12,13,14,15,16,17,18,19,20,21,22,23,24,25,26,27,28,29,30,31,32,33,34,35,36,37,38,39,40,41,42,43,44,45,46,47,48,49] [] (by kernel_rfl) (by kernel_rfl) ?_
            simp only [pick, List.map_cons, List.map_nil, List.getD_cons_succ, List.getD_cons_zero]
            repeat (refine wpQuiet_step (fun K hK => ?_); go_simp; refine hK _ ?_; clear hK K)
            refine wpQuiet_nil ?_
            intro w9 hw9
            have ho9 := only_of_plus hw9; clear hw9
            have C9 := Lib.hid (ho9.got C8.out (by simp))
            have LA9 := Lib.hid (ho9.got LA8.out (by simp))
            have RW9 := Lib.hid (RW8.out.kept ho9 (by simp))
            clear x0 x1 x2 y0 y1 y2 l0 l1 l2 lf0 lf1 lf2 sf sc tc v1 v2 v3 v4 t1 t2 q1 q2 q3 q4 q5
            have x0 := cell_got C9.out 0; have x1 := cell_got C9.out 1; have x2 := cell_got C9.out 2
            have l0 := cell_got LA9.out 0; have l1 := cell_got LA9.out 1; have l2 := cell_got LA9.out 2
            have lf0 := frozen_got LA9.out 0; have lf1 := frozen_got LA9.out 1; have lf2 := frozen_got LA9.out 2
            have sf := RW9.out.frozen (i + 1)
            have sc := RowAt.cell (enc := fun b : Bool => [.bool b]) (s := 1) (fun _ => rfl) RW9.out SE.out (j := 0) (by omega)
            simp only [Nat.mul_one, Nat.add_zero] at sc
            have n1 : wo.heap.size ≠ wo.heap.size + 1 := by omega
            have n2 : wo.heap.size + 1 ≠ wo.heap.size := by omega
            have n3 : w5.heap.size ≠ wo.heap.size := by have := got_lt LA.out; omega
            have n4 : w5.heap.size ≠ wo.heap.size + 1 := by have := RW.out.lt; omega
            have hcase : last.t < xt ∨ (last.t = xt ∧ last.i ≤ (i : Int) + 1) := G4.out
            have fin : ∀ wf, wf = ((((w9.setCell ⟨wo.heap.size + 1, i + 1, none⟩ (.bool true)).setCell ⟨wo.heap.size, 0, none⟩ (.int .i64 xt)).setCell ⟨wo.heap.size, 1, none⟩ (.int .i64 ((i : Int) + 1))).setCell ⟨wo.heap.size, 2, none⟩ (.int .i64 (1 - ((i : Int) + 1)))) → Popping w wf w.heap.size wo.heap.size (wo.heap.size + 1) us k (j + 1) := by
              rintro wf rfl
              have o9f : Only [wo.heap.size, wo.heap.size + 1] w9 ((((w9.setCell ⟨wo.heap.size + 1, i + 1, none⟩ (.bool true)).setCell ⟨wo.heap.size, 0, none⟩ (.int .i64 xt)).setCell ⟨wo.heap.size, 1, none⟩ (.int .i64 ((i : Int) + 1))).setCell ⟨wo.heap.size, 2, none⟩ (.int .i64 (1 - ((i : Int) + 1)))) :=
                ((((Only.refl _ w9).setCell (by simp) _).setCell (by simp) _).setCell (by simp) _).setCell (by simp) _
              have hq := (Q7.out.kept ho8 (by simp)).kept ho9 (by simp)
              have hmem : ∀ e ∈ l7, e ∈ l ∧ e.i ≠ (i : Int) + 1 := fun e he => (M7.out e).1 he
              refine ⟨⟨F, l7, _, ⟨xt, (i : Int) + 1, 1 - ((i : Int) + 1)⟩, seen.set (i + 1) true, hq.kept o9f ?_, by have := L.out; have := L7.out; omega, fun e he => E.out e (hmem e he).1, FF.out, FL.out, ?_, ?_, by simpa using SL.out, ?_, ?_⟩, hlb, hsb, hls, ?_⟩
              · intro b hb h
                simp only [List.mem_cons, List.not_mem_nil, or_false] at h
                rcases h with rfl | rfl
                · exact (FL.out _ hb).1 rfl
                · exact (FL.out _ hb).2 rfl
              · have h0 : (w9.setCell ⟨wo.heap.size + 1, i + 1, none⟩ (.bool true)).heap[wo.heap.size]? = some (.cells #[.int .i64 last.t, .int .i64 last.i, .int .i64 last.x] 31 (0, 0)) := by
                  rw [Below.heap_setCell _ _ _ _ n1]; exact LA9.out
                exact setCell_got (o := 2) _ (setCell_got (o := 1) _ (setCell_got (o := 0) _ h0))
              · have hr := RW9.out.set1 (i := i + 1) (by rw [SL.out]; omega) true
                have ol : Only [wo.heap.size] (w9.setCell ⟨wo.heap.size + 1, i + 1, none⟩ (.bool true)) ((((w9.setCell ⟨wo.heap.size + 1, i + 1, none⟩ (.bool true)).setCell ⟨wo.heap.size, 0, none⟩ (.int .i64 xt)).setCell ⟨wo.heap.size, 1, none⟩ (.int .i64 ((i : Int) + 1))).setCell ⟨wo.heap.size, 2, none⟩ (.int .i64 (1 - ((i : Int) + 1)))) :=
                  (((Only.refl _ _).setCell (by simp) _).setCell (by simp) _).setCell (by simp) _
                exact hr.kept ol (by simp)
              · intro e he
                obtain ⟨h1, h2⟩ := hmem e he
                have := Q.out.ids e h1
                rw [List.getElem?_set_ne (by omega)]
                exact SN.out e h1
              · intro e he
                have := F2.out e (hmem e he).1
                rw [HX.out] at this
                exact this
              · exact (((OO.out.trans o58.out (fun x hx => .inr (FF.out x hx))).nil_trans ho9)).trans o9f (by intro x hx; simp only [List.mem_cons, List.not_mem_nil, or_false] at hx; rcases hx with rfl | rfl; exact .inr hlb; exact .inr hsb)
            have FIN := Lib.hid fin; clear fin
            rcases hcase with hlt | ⟨heq, hle⟩
            · have u1 : ¬ xt < last.t := by omega
              have u2 : (xt == last.t) = false := by rw [beq_eq_false_iff_ne]; omega
              go_wp2
              go_roundw
              case rel => exact ⟨j + 1, by go_num, by omega, FIN.out _ rfl⟩
              case measure => simp [intOf]; omega
            · have u1 : ¬ xt < last.t := by omega
              have u2 : (xt == last.t) = true := by rw [beq_iff_eq]; omega
              have u3 : ¬ (i : Int) + 1 < last.i := by omega
              have HEQ := Lib.hid heq; clear heq
              go_wp2
              go_roundw
              case rel => exact ⟨j + 1, by go_num, by omega, FIN.out _ rfl⟩
              case measure => simp [intOf]; omega
          · have hjk' : j = k := by omega
            obtain ⟨⟨F, l, tm, last, seen, hq, hl, hel, hF, hFl, hlast, hrow, hsl, hseen, hge⟩, hlb, hsb, hls, ho⟩ := PP.out
            have hl0 : l = [] := List.eq_nil_of_length_eq_zero (by omega)
            subst hl0
            have Q := Lib.hid hq; have OO := Lib.hid ho
            clear hq hl hel hF hFl hlast hrow hsl hseen hge ho hjk'
            go_wp2_with fail
            refine (pop_none Q.out.rep).mono ?_
            rintro e w5 ⟨rfl, ho5⟩
            go_wp2_with fail
            refine alloc_abs (G := fun w0 => Calls _ _ _ w0 _) ?_
            intro w6 hb6 ho6 hs6
            clear hb6 hs6
            refine (len_any ((Q.out.kept ho5 (by simp)).kept ho6 (by simp)).rep).mono ?_
            rintro e w7 ⟨rfl, rfl⟩
            go_wp2_with fail
            refine (awake_any _).mono ?_
            rintro e w8 ⟨rfl, ho8⟩
            go_wp2
            go_ret
            exact ⟨rfl, ((OO.out.nil_trans ho5).nil_trans ho6).nil_trans ho8⟩
  · have hni : (300 : Int) < (n : Int) := by omega
    have hn3 : 300 ≤ n := by omega
    go_enter Try.func3, Try.ntmps3
    go_wp2_with fail
    generalize hm : (300 : Nat) = m
    have hm3 : m ≤ 300 := by omega
    have hmn : m ≤ n := by omega
    clear hm hn hn3 hni
    obtain ⟨us, hus⟩ : ∃ us, us = zs.take m := ⟨_, rfl⟩
    have hv' := hv.take m (by omega)
    rw [← hus] at hv'
    have hu : ∀ (k : Nat) (z : Int), us[k]? = some z → 0 ≤ z ∧ z ≤ 65535 := fun k z hz => bounds_u16 (hwf z (List.mem_of_mem_take (by rw [← hus]; exact List.mem_of_getElem? hz)))
    have hcc : ∀ (k : Nat), k < m → ∀ {wr : World}, Only [] w wr → ∃ b off, p = some ⟨b, off, none⟩ ∧ b < w.heap.size ∧ ∃ z, us[k]? = some z ∧ wr.cell? ⟨b, off + k, none⟩ = some (.int .u16 z) := by
      intro k hk wr ho
      have hkl : k < us.length := by rw [hv'.len]; exact hk
      obtain ⟨b, off, h1, h2, h3⟩ := hv'.cell k us[k] (List.getElem?_eq_getElem hkl)
      have h4 := h3 0 _ rfl
      simp only [Nat.mul_one, Nat.add_zero] at h4
      exact ⟨b, off, h1, h2, us[k], List.getElem?_eq_getElem hkl, by rw [ho.cell h2 (by simp)]; exact h4⟩
    have HV := Lib.hid hv'; have HU := Lib.hid hu; have HC := Lib.hid hcc
    clear hv' hu hcc hv hwf hus
    refine (new_ok 300 w (by omega) (by omega)).mono ?_
    rintro e w1 ⟨rfl, hq1, ho1⟩
    have Q1 := Lib.hid hq1; clear hq1
    go_wp2
    go_loopw [26] (fun vi wr => ∃ k : Nat, vi = .int .i64 k ∧ k ≤ m ∧ Pushed w wr w.heap.size us k) (fun vi _ => m - (intOf vi).toNat)
    case atStart => exact ⟨0, rfl, Nat.zero_le _, ⟨⟨_, _, Q1.out, rfl, by simp, by simp⟩, ho1⟩⟩
    case round =>
      obtain ⟨k, rfl, hk, hpd⟩ := hrel
      have PD := Lib.hid hpd; clear hpd
      by_cases hkn : k < m
      · obtain ⟨b, off, hp, hb, z, hz, hc⟩ := HC.out k hkn PD.out.only
        subst hp
        have hzl : 0 ≤ z ∧ z ≤ 65535 := HU.out k z hz
        obtain ⟨hz0, hz1⟩ := hzl
        obtain ⟨⟨F, l, hq, hl, hel, hF⟩, ho⟩ := PD.out
        have Q := Lib.hid hq; have L := Lib.hid hl; have E := Lib.hid hel; have FF := Lib.hid hF; have OO := Lib.hid ho; have Z := Lib.hid hz
        clear hq hl hel hF ho hz
        go_wp2_with fail
        refine (push_ok Q.out z (-(k : Int)) hz0 hz0 (by rw [L.out]; omega) (by omega) (by omega)).mono ?_
        rintro e w2 ⟨rfl, F2, l2, hq2, ho2, hF2, hl2, hm2⟩
        have Q2 := Lib.hid hq2; have FF2 := Lib.hid hF2; have L2 := Lib.hid hl2; have M2 := Lib.hid hm2; clear hq2 hF2 hl2 hm2
        have hln : (l2.length : Int) = (k : Int) + 1 := by rw [L2.out, L.out]; omega
        have HLN := Lib.hid hln; clear hln hc
        go_wp2_with fail
        refine (len_any Q2.out.rep).mono ?_
        rintro e w3 ⟨rfl, rfl⟩
        rw [HLN.out]
        go_wp2
        go_roundw
        case rel =>
          refine ⟨k + 1, by go_num, by omega, ⟨⟨F2, l2, by have := Q2.out; simpa using this, by rw [L2.out, L.out], ?_, ?_⟩, OO.out.trans ho2 (fun x hx => .inr (FF.out x hx))⟩⟩
          · intro e he
            rcases (M2.out e).1 he with rfl | h
            · exact ⟨by simp; omega, by simpa using Z.out⟩
            · exact E.out e h
          · intro b hb
            rcases FF2.out b hb with h | h
            · exact FF.out b h
            · have := OO.out.size; omega
        case measure => simp [intOf]; omega
      · have hkn' : k = m := by omega
        subst hkn'
        obtain ⟨wo, hwo⟩ : ∃ wo : World, wo = wr := ⟨_, rfl⟩
        subst hwo
        obtain ⟨⟨F, l, hq, hl, hel, hF⟩, ho⟩ := PD.out
        have Q := Lib.hid hq; have L := Lib.hid hl; have E := Lib.hid hel; have FF := Lib.hid hF; have OO := Lib.hid ho
        clear hq hl hel hF ho PD
        go_wp2_with (at_make; refine wpList_make_row (fun b : Bool => [.bool b]) rfl _ _ 32 rfl 4 ib (.bool false) 1 1 Try.underlying32 HIB.out HZB.out HSB.out HBB.out (fun _ => rfl) false rfl .i64 .i64 _ _ (k + 1) rfl rfl (by omega) (by omega) (by omega) (by simp [maxLen]; omega) ?_; intro w3 hrow3 ho3 hs3)
        refine wabs (G := Code.wp _ _ _ _) (R := fun w4 => w4 = w3) rfl ?_
        rintro w4 rfl
        have hlb : w4.heap[wo.heap.size]? = some (.cells #[.int .i64 (-1), .int .i64 0, .int .i64 0] 31 (0, 0)) := ho3.got (alloc_new _ _) (by simp)
        have hst : Popping w w4 w.heap.size wo.heap.size (wo.heap.size + 1) us k 0 := by
          have hs := OO.out.size
          have o13 : Only [] wo w4 := Only.nil_trans ((Only.refl [] wo).alloc _) ho3
          refine ⟨⟨F, l, 0, ⟨-1, 0, 0⟩, List.replicate (k + 1) false, Q.out.kept o13 (by simp), by rw [L.out]; rfl, fun e he => ⟨(E.out e he).1, (E.out e he).2⟩, FF.out, ?_, hlb, by simpa using hrow3, by simp, ?_, ?_⟩, by omega, by omega, by omega, OO.out.nil_trans o13⟩
          · intro b hb; have := Q.out.blocks b hb; omega
          · intro e he; have := Q.out.ids e he; rw [List.getElem?_replicate, if_pos (by omega)]
          · intro e he; have h := (E.out e he).2; have := HU.out _ _ h; unfold ge; simp; omega
        have ST := Lib.hid hst; clear hst hlb hrow3 hs3
        go_loopw [63] (fun vi wr' => ∃ j : Nat, vi = .int .i64 j ∧ j ≤ k ∧ Popping w wr' w.heap.size wo.heap.size (wo.heap.size + 1) us k j) (fun vi _ => k - (intOf vi).toNat)
        case atStart => exact ⟨0, rfl, Nat.zero_le _, ST.out⟩
        case round =>
          obtain ⟨j, rfl, hjk, hpp⟩ := hrel
          have PP := Lib.hid hpp; clear hpp
          by_cases hjn : j < k
          · obtain ⟨⟨F, l, tm, last, seen, hq, hl, hel, hF, hFl, hlast, hrow, hsl, hseen, hge⟩, hlb, hsb, hls, ho⟩ := PP.out
            have hl0 : 0 < l.length := by omega
            obtain ⟨f1, f2⟩ := hq.first hl0
            obtain ⟨i, hi⟩ : ∃ i : Nat, (el l 0).i = (i : Int) + 1 := ⟨((el l 0).i - 1).toNat, by have := (hq.ids _ f1).1; omega⟩
            have hik : i < k := by have := (hq.ids _ f1).2; omega
            obtain ⟨e1, e2⟩ := hel _ f1
            rw [hi] at e2
            have e2' : us[i]? = some (el l 0).t := by have : ((i : Int) + 1 - 1).toNat = i := by omega
                                                      rw [this] at e2; exact e2
            have e3 := hseen _ f1
            rw [hi, show ((i : Int) + 1).toNat = i + 1 by omega] at e3
            have e4 := hge _ f1
            obtain ⟨b, off, hp, hb, z, hz, hc⟩ := HC.out i hik ho
            have hzt : z = (el l 0).t := by rw [e2'] at hz; cases hz; rfl
            subst hzt
            obtain ⟨xt, hxt⟩ : ∃ xt, xt = (el l 0).t := ⟨_, rfl⟩
            have hx : el l 0 = ⟨xt, (i : Int) + 1, 1 - ((i : Int) + 1)⟩ := by
              rw [hxt, ← hi, ← e1]
            obtain ⟨hz0, hz1⟩ := HU.out i _ e2'
            rw [hx] at hz0 hz1 hc e4
            simp only at hz0 hz1 hc
            subst hp
            have hsz := ho.size
            have Q := Lib.hid hq; have L := Lib.hid hl; have E := Lib.hid hel; have FF := Lib.hid hF; have FL := Lib.hid hFl; have LA := Lib.hid hlast; have RW := Lib.hid hrow; have SL := Lib.hid hsl; have SN := Lib.hid hseen; have GE := Lib.hid hge; have OO := Lib.hid ho
            have HX := Lib.hid hx; have SE := Lib.hid e3; have G4 := Lib.hid e4; have CB := Lib.hid hc; have F2 := Lib.hid f2; have ET := Lib.hid e2'
            clear hq hl hel hF hFl hlast hrow hsl hseen hge ho hx e3 e4 hc f1 f2 hi e1 e2 e2' hz hxt
            go_wp2_with fail
            refine (peek_some Q.out.rep hl0).mono ?_
            rintro e w5 ⟨rfl, ho5⟩
            rw [HX.out]
            go_wp2_with fail
            refine alloc_abs (G := fun w0 => Calls _ _ _ w0 _) ?_
            intro w6 hb6 ho6 hs6
            have hpop := pop_some ((Q.out.kept ho5 (by simp)).kept ho6 (by simp)) hl0
            rw [HX.out] at hpop
            refine hpop.mono ?_
            clear hpop
            rintro e w7 ⟨rfl, l7, hq7, ho7, hl7, hm7⟩
            have B6 := Lib.hid hb6; have S6 := Lib.hid hs6; have Q7 := Lib.hid hq7; have L7 := Lib.hid hl7; have M7 := Lib.hid hm7; clear hb6 hs6 hq7 hl7 hm7
            have hFs : Hid (∀ k ∈ F, k < wr.heap.size) := Q.out.blocks
            have s5 := ho5.size; have s6 := ho6.size; have s7 := ho7.size
            have B7 := Lib.hid (box_kept B6.out ho7 (fun k hk => .inl (by have := hFs.out k hk; omega)))
            go_wp2
            refine alloc_abs (G := Code.wp _ _ _ _) ?_
            intro w8 hb8 ho8 hs8
            have HS8 := Lib.hid hs8; have B8 := Lib.hid hb8; clear hs8 hb8
            have C8 := Lib.hid (ho8.got B7.out (by simp))
            have o58 : Hid (Only F wr w8) := (((ho5.weak (S' := F) (by simp)).nil_trans ho6).trans ho7 (fun _ h => .inl h)).nil_trans ho8
            have hlbF : Hid (wo.heap.size ∉ F ∧ wo.heap.size + 1 ∉ F) := ⟨fun h => (FL.out _ h).1 rfl, fun h => (FL.out _ h).2 rfl⟩
            have LA8 := Lib.hid (o58.out.got LA.out hlbF.out.1)
            have RW8 := Lib.hid (RW.out.kept o58.out hlbF.out.2)
            have x0 := cell_got C8.out 0; have x1 := cell_got C8.out 1; have x2 := cell_got C8.out 2
            have y0 := cell_got B8.out 0; have y1 := cell_got B8.out 1; have y2 := cell_got B8.out 2
            have l0 := cell_got LA8.out 0; have l1 := cell_got LA8.out 1; have l2 := cell_got LA8.out 2
            have lf0 := frozen_got LA8.out 0; have lf1 := frozen_got LA8.out 1; have lf2 := frozen_got LA8.out 2
            have sf := RW8.out.frozen (i + 1)
            have sc := RowAt.cell (enc := fun b : Bool => [.bool b]) (s := 1) (fun _ => rfl) RW8.out SE.out (j := 0) (by omega)
            simp only [Nat.mul_one, Nat.add_zero] at sc
            have hbF : b ∉ F := fun h => by have := FF.out b h; omega
            have tc : w8.cell? ⟨b, off + i, none⟩ = some (.int .u16 xt) := by rw [o58.out.cell (by omega) hbF]; exact CB.out
            have q1 := got_lt C8.out; have q2 := got_lt B8.out; have q3 := got_lt LA8.out; have q4 := RW8.out.lt
            have q5 : b < w8.heap.size := by have := o58.out.size; omega
            have t1 : decide ((i : Int) + 1 < 1) = false := by simp; omega
            have t2 : decide ((k : Int) < (i : Int) + 1) = false := by simp; omega
            have t3 : (i : Int) + 1 < (k : Int) + 1 := by omega
            have t4 : (0 : Int) ≤ (i : Int) + 1 := by omega
            have t5 : (i : Int) < (k : Int) := by omega
            have v1 : IntKind.i64.wrap (1 - ((i : Int) + 1)) = 1 - ((i : Int) + 1) := IntWalk.i64_in _ (by omega)
            have v2 : IntKind.i64.wrap ((i : Int) + 1 - 1) = (i : Int) := by rw [IntWalk.i64_in _ (by omega)]; omega
            have v3 : IntKind.i64.wrap (i : Int) = (i : Int) := IntWalk.i64_in _ (by omega)
            have v4 : IntKind.i64.wrap xt = xt := IntWalk.i64_in _ (by omega)
            refine wp_region_grown [0,1,2,3,4,5,6,7,8,9,10,11,12,13,14,15,16,17,18,19,20,21,22,23,24,25,26,27,28,29,30,31,32,33,34,35,36,37,38,39,40,41,42,43,44,45,46,47,48,49] [] (by kernel_rfl) (by kernel_rfl) ?_
            simp only [pick, List.map_cons, List.map_nil, List.getD_cons_succ, List.getD_cons_zero]
            repeat (refine wpQuiet_step (fun K hK => ?_); go_simp; refine hK _ ?_; clear hK K)
            refine wpQuiet_nil ?_
            intro w9 hw9
            have ho9 := only_of_plus hw9; clear hw9
            have C9 := Lib.hid (ho9.got C8.out (by simp))
            have LA9 := Lib.hid (ho9.got LA8.out (by simp))
            have RW9 := Lib.hid (RW8.out.kept ho9 (by simp))
            clear x0 x1 x2 y0 y1 y2 l0 l1 l2 lf0 lf1 lf2 sf sc tc v1 v2 v3 v4 t1 t2 q1 q2 q3 q4 q5
            have x0 := cell_got C9.out 0; have x1 := cell_got C9.out 1; have x2 := cell_got C9.out 2
            have l0 := cell_got LA9.out 0; have l1 := cell_got LA9.out 1; have l2 := cell_got LA9.out 2
            have lf0 := frozen_got LA9.out 0; have lf1 := frozen_got LA9.out 1; have lf2 := frozen_got LA9.out 2
            have sf := RW9.out.frozen (i + 1)
            have sc := RowAt.cell (enc := fun b : Bool => [.bool b]) (s := 1) (fun _ => rfl) RW9.out SE.out (j := 0) (by omega)
            simp only [Nat.mul_one, Nat.add_zero] at sc
            have n1 : wo.heap.size ≠ wo.heap.size + 1 := by omega
            have n2 : wo.heap.size + 1 ≠ wo.heap.size := by omega
            have n3 : w5.heap.size ≠ wo.heap.size := by have := got_lt LA.out; omega
            have n4 : w5.heap.size ≠ wo.heap.size + 1 := by have := RW.out.lt; omega
            have hcase : last.t < xt ∨ (last.t = xt ∧ last.i ≤ (i : Int) + 1) := G4.out
            have fin : ∀ wf, wf = ((((w9.setCell ⟨wo.heap.size + 1, i + 1, none⟩ (.bool true)).setCell ⟨wo.heap.size, 0, none⟩ (.int .i64 xt)).setCell ⟨wo.heap.size, 1, none⟩ (.int .i64 ((i : Int) + 1))).setCell ⟨wo.heap.size, 2, none⟩ (.int .i64 (1 - ((i : Int) + 1)))) → Popping w wf w.heap.size wo.heap.size (wo.heap.size + 1) us k (j + 1) := by
              rintro wf rfl
              have o9f : Only [wo.heap.size, wo.heap.size + 1] w9 ((((w9.setCell ⟨wo.heap.size + 1, i + 1, none⟩ (.bool true)).setCell ⟨wo.heap.size, 0, none⟩ (.int .i64 xt)).setCell ⟨wo.heap.size, 1, none⟩ (.int .i64 ((i : Int) + 1))).setCell ⟨wo.heap.size, 2, none⟩ (.int .i64 (1 - ((i : Int) + 1)))) :=
                ((((Only.refl _ w9).setCell (by simp) _).setCell (by simp) _).setCell (by simp) _).setCell (by simp) _
              have hq := (Q7.out.kept ho8 (by simp)).kept ho9 (by simp)
              have hmem : ∀ e ∈ l7, e ∈ l ∧ e.i ≠ (i : Int) + 1 := fun e he => (M7.out e).1 he
              refine ⟨⟨F, l7, _, ⟨xt, (i : Int) + 1, 1 - ((i : Int) + 1)⟩, seen.set (i + 1) true, hq.kept o9f ?_, by have := L.out; have := L7.out; omega, fun e he => E.out e (hmem e he).1, FF.out, FL.out, ?_, ?_, by simpa using SL.out, ?_, ?_⟩, hlb, hsb, hls, ?_⟩
              · intro b hb h
                simp only [List.mem_cons, List.not_mem_nil, or_false] at h
                rcases h with rfl | rfl
                · exact (FL.out _ hb).1 rfl
                · exact (FL.out _ hb).2 rfl
              · have h0 : (w9.setCell ⟨wo.heap.size + 1, i + 1, none⟩ (.bool true)).heap[wo.heap.size]? = some (.cells #[.int .i64 last.t, .int .i64 last.i, .int .i64 last.x] 31 (0, 0)) := by
                  rw [Below.heap_setCell _ _ _ _ n1]; exact LA9.out
                exact setCell_got (o := 2) _ (setCell_got (o := 1) _ (setCell_got (o := 0) _ h0))
              · have hr := RW9.out.set1 (i := i + 1) (by rw [SL.out]; omega) true
                have ol : Only [wo.heap.size] (w9.setCell ⟨wo.heap.size + 1, i + 1, none⟩ (.bool true)) ((((w9.setCell ⟨wo.heap.size + 1, i + 1, none⟩ (.bool true)).setCell ⟨wo.heap.size, 0, none⟩ (.int .i64 xt)).setCell ⟨wo.heap.size, 1, none⟩ (.int .i64 ((i : Int) + 1))).setCell ⟨wo.heap.size, 2, none⟩ (.int .i64 (1 - ((i : Int) + 1)))) :=
                  (((Only.refl _ _).setCell (by simp) _).setCell (by simp) _).setCell (by simp) _
                exact hr.kept ol (by simp)
              · intro e he
                obtain ⟨h1, h2⟩ := hmem e he
                have := Q.out.ids e h1
                rw [List.getElem?_set_ne (by omega)]
                exact SN.out e h1
              · intro e he
                have := F2.out e (hmem e he).1
                rw [HX.out] at this
                exact this
              · exact (((OO.out.trans o58.out (fun x hx => .inr (FF.out x hx))).nil_trans ho9)).trans o9f (by intro x hx; simp only [List.mem_cons, List.not_mem_nil, or_false] at hx; rcases hx with rfl | rfl; exact .inr hlb; exact .inr hsb)
            have FIN := Lib.hid fin; clear fin
            rcases hcase with hlt | ⟨heq, hle⟩
            · have u1 : ¬ xt < last.t := by omega
              have u2 : (xt == last.t) = false := by rw [beq_eq_false_iff_ne]; omega
              go_wp2
              go_roundw
              case rel => exact ⟨j + 1, by go_num, by omega, FIN.out _ rfl⟩
              case measure => simp [intOf]; omega
            · have u1 : ¬ xt < last.t := by omega
              have u2 : (xt == last.t) = true := by rw [beq_iff_eq]; omega
              have u3 : ¬ (i : Int) + 1 < last.i := by omega
              have HEQ := Lib.hid heq; clear heq
              go_wp2
              go_roundw
              case rel => exact ⟨j + 1, by go_num, by omega, FIN.out _ rfl⟩
              case measure => simp [intOf]; omega
          · have hjk' : j = k := by omega
            obtain ⟨⟨F, l, tm, last, seen, hq, hl, hel, hF, hFl, hlast, hrow, hsl, hseen, hge⟩, hlb, hsb, hls, ho⟩ := PP.out
            have hl0 : l = [] := List.eq_nil_of_length_eq_zero (by omega)
            subst hl0
            have Q := Lib.hid hq; have OO := Lib.hid ho
            clear hq hl hel hF hFl hlast hrow hsl hseen hge ho hjk'
            go_wp2_with fail
            refine (pop_none Q.out.rep).mono ?_
            rintro e w5 ⟨rfl, ho5⟩
            go_wp2_with fail
            refine alloc_abs (G := fun w0 => Calls _ _ _ w0 _) ?_
            intro w6 hb6 ho6 hs6
            clear hb6 hs6
            refine (len_any ((Q.out.kept ho5 (by simp)).kept ho6 (by simp)).rep).mono ?_
            rintro e w7 ⟨rfl, rfl⟩
            go_wp2_with fail
            refine (awake_any _).mono ?_
            rintro e w8 ⟨rfl, ho8⟩
            go_wp2
            go_ret
            exact ⟨rfl, ((OO.out.nil_trans ho5).nil_trans ho6).nil_trans ho8⟩

set_option maxRecDepth 100000 in
theorem agendaSorts_lifted (os : Os) (started : os.Started) (H : Type) (enc : TypeId × Value → H) :
    ReturnsInHanded {} Try.checked os 3 .any (Rows.agendaSortsSpec.pre6 enc Try.prog Try.f3 Rows.agendaSortsRow.domain false) (Rows.agendaSortsSpec.post enc Try.prog Try.f3 false true false false) := by
  refine returnsInHanded_of_change (C := Try.checked) law_own started (by kernel_rfl) Try.func3
    (ChangeSpec.witness6 (enc := enc) (C := Try.checked) false ⟨#[], #[.slice none 0 0], []⟩ 8 (by kernel_rfl) (by kernel_rfl) (by kernel_rfl) (by kernel_rfl)) ?_
  intro W base args ds gs before hval0 hW hcnd _
  have hval : ∀ (j : Nat) t v, Try.f3.params[j]? = some t → args[j]? = some v → Value.okWide Try.prog W .any base t v := hval0
  have hW' := hW
  obtain ⟨p, q, hA0, hV, rfl, hfz, hnd⟩ := hW
  have hA : DataW.TrodAll enc Try.prog W 0 (fun _ => true) true Try.f3.params.toList args.toList ds p := hA0
  rw [Try.params3] at hA hval
  obtain ⟨v0, vs0, d0, ds0, p0, q0, hargs, rfl, rfl, h0, r0⟩ := trodAll_cons hA
  obtain ⟨rfl, rfl, rfl⟩ := trodAll_nil r0
  obtain rfl : args = #[v0] := by cases args; simp_all
  obtain ⟨rfl, rfl⟩ := trodVars_none hV
  have k0 := h0
  have lt0 : ∀ x ∈ p0, x.block < W.heap.size := by obtain ⟨m, hm⟩ := k0; exact DataW.trod_lt m _ _ _ hm
  obtain ⟨a0, len0, cap0, rfl⟩ := okWide_slice Try.underlying22 (hval 0 22 v0 rfl rfl)
  obtain ⟨z0, w0, g0⟩ := vrow_ints Try.underlying22 Try.underlying25 (by kernel_rfl) h0
  clear hA0 hval0
  refine (sorts_walk a0 len0 cap0 z0 W w0 g0).mono fun e W' ⟨he, ho⟩ => ?_
  subst he
  have bel : Below W.heap.size W W' := ho.nil_below
  exact ⟨_, rfl, _, _, _, [], _, [], hW', trodAll_mk1 (shut_bool Try.underlying4 _), (trodAll_cons_mk (Below.trod law_laidOut (by kernel_rfl) (of_decide_eq_true (by kernel_rfl)) k0 bel lt0) trodAll_mk0), rfl, bel.frame _, fun h => by cases h⟩

theorem agendaSorts_over : Rows.agendaSortsRow.holds Try.pinned (OpenSpec.ofChange Rows.agendaSortsSpec) :=
  OpenClaim.holds_of_wide 3 Try.f3 rfl rfl rfl rfl rfl rfl rfl ⟨rfl, rfl, rfl, rfl, rfl⟩ rfl rfl rfl rfl rfl (by kernel_rfl) Try.func3 (by kernel_rfl)
    (of_decide_eq_true (by kernel_rfl)) (by unfold Func.isWrapper; first | (rw [if_pos (by decide +kernel)]; kernel_rfl) | (rw [if_neg (by decide +kernel)]; exact ⟨rfl, rfl⟩))
    (fun os started H enc _ => agendaSorts_lifted os started H enc)

theorem agendaSorts_holds : Rows.AgendaSortsSaid := agendaSorts_over
end Go.Proofs.Ytpiilepmaomfeaa
