/- numbers of package leap: the numbers of which a line consists. Conditions: the library's variables are laid; the length. -/
import Derived.Test.YtnfejojakikeeaaGreatDoorK8
import Derived.RangeFuncBox
import Derived.Maps.AppendAt
namespace Go.Proofs.YtnfejojakikeeaaGreatDoor
open Go.RowKit Go.Shelf
attribute [local go_sem] Oper.semAt_some

/-- the numbers of words -/
def numsO : List (List UInt8) → Option (List Int)
  | [] => some []
  | x :: r => match numO x, numsO r with
    | some n, some l => some (n :: l)
    | _, _ => none
theorem numsO_snoc (x : List UInt8) : ∀ (l : List (List UInt8)) (ns : List Int), numsO l = some ns → numsO (l ++ [x]) = (numO x).map (fun n => ns ++ [n])
  | [], ns, h => by cases h; cases hx : numO x <;> simp [numsO, hx]
  | y :: l, ns, h => by
    cases hy : numO y with
    | none => simp [numsO, hy] at h
    | some n =>
      cases hl : numsO l with
      | none => simp [numsO, hy, hl] at h
      | some m =>
        simp [numsO, hy, hl] at h
        subst h
        have := numsO_snoc x l m hl
        simp only [List.cons_append, numsO, hy]
        rw [this]
        cases numO x <;> rfl
theorem numsO_none {l r : List (List UInt8)} (h : numsO l = none) (hp : l <+: r) : numsO r = none := by
  obtain ⟨t, rfl⟩ := hp
  induction l with
  | nil => cases h
  | cons x l ih =>
    simp only [List.cons_append, numsO]
    cases hx : numO x with
    | none => rfl
    | some n =>
      cases hl : numsO l with
      | none => rw [ih hl]
      | some m => simp [numsO, hx, hl] at h
theorem numsO_len : ∀ {l : List (List UInt8)} {ns : List Int}, numsO l = some ns → ns.length = l.length
  | [], ns, h => by cases h; rfl
  | x :: l, ns, h => by
    cases hx : numO x with
    | none => simp [numsO, hx] at h
    | some n =>
      cases hl : numsO l with
      | none => simp [numsO, hx, hl] at h
      | some m => simp [numsO, hx, hl] at h; subst h; simp [numsO_len hl]
def nlW (pre : List Wd) : List Int := (numsO (pre.map Subtype.val)).getD []
theorem wds_len : ∀ (r cur : List UInt8), (wds cur r).length ≤ r.length + 1
  | [], cur => by simp only [wds]; split <;> simp
  | c :: r, cur => by
    have h1 := wds_len r []; have h2 := wds_len r (cur ++ [c])
    simp only [wds]
    split
    · split <;> simp <;> omega
    · simp; omega
theorem infoInt : (Tryz.prog.info? 3).map (fun i => (i.zero, i.size, i.bytes)) = some (some (.int .i64 0), 1, 8) := by kernel_rfl
theorem below_of_only {n : Nat} {w w' : World} (h : Only [] w w') (hn : n ≤ w.heap.size) : Below n w w' := ⟨h.os, h.tape, h.output, h.size, fun k hk => h.block k (by omega) (by simp)⟩
theorem keeps_of_only {B : Nat} {w w' : World} (h : Only [] w w') : KeepsFrom B w w' := ⟨h.size, fun i o _ hi _ => (h.block i (Array.getElem?_eq_some_iff.1 hi).1 (by simp)).trans hi⟩
theorem boxed_only {w w' : World} {B : Nat} {t : TypeId} {v : Value} (h : Boxed w B t v) (ho : Only [] w w') : Boxed w' B t v := (ho.block B h.lt (by simp)).trans h
theorem owns_set {W : World} {B base : Nat} {t e : TypeId} {u v : Value} {s k : Nat} {xs : List Value} (hb : Boxed W B t u) (hte : t ≠ e) (h : W.ownsRow base e s v k xs) (y : Value) : (W.setCell ⟨B, 0, none⟩ y).ownsRow base e s v k xs := by
  refine ⟨h.1, ?_⟩
  rcases h.2 with h2 | ⟨g, cap, cur, h1, h2, h3, h4⟩
  · exact .inl h2
  · refine .inr ⟨g, cap, cur, h1, h2, ((grownBy_setCell' W B y).block g (Array.getElem?_eq_some_iff.1 h3).1 ?_).trans h3, h4⟩
    intro hg
    injection hg with hg
    rw [hg, show W.heap[B]? = _ from hb] at h3
    cases h3
    exact hte rfl
theorem two_set {n0 : Nat} {w W W2 : World} {t t' : TypeId} {a b a' b' : Value} (ho : Only [] W W2) (h3 : Boxed W2 w.heap.size t a) (h4 : Boxed W2 (w.heap.size + 1) t' b) (hB : Below w.heap.size w W2) :
    KeepsFrom n0 W ((W2.setCell ⟨w.heap.size, 0, none⟩ a').setCell ⟨w.heap.size + 1, 0, none⟩ b') ∧
    (Boxed ((W2.setCell ⟨w.heap.size, 0, none⟩ a').setCell ⟨w.heap.size + 1, 0, none⟩ b') w.heap.size t a' ∧ Boxed ((W2.setCell ⟨w.heap.size, 0, none⟩ a').setCell ⟨w.heap.size + 1, 0, none⟩ b') (w.heap.size + 1) t' b') ∧
    Below w.heap.size w ((W2.setCell ⟨w.heap.size, 0, none⟩ a').setCell ⟨w.heap.size + 1, 0, none⟩ b') :=
  ⟨(keeps_of_only ho).trans (((KeepsOthers.setCell _ _ _).trans (KeepsOthers.setCell _ _ _)).from _),
   ⟨(h3.set a').kept (grownBy_setCell' _ _ _) (by simp), (h4.kept (grownBy_setCell' _ _ _) (by simp)).set b'⟩,
   (hB.setCell (p := ⟨w.heap.size, 0, none⟩) (Nat.le_refl _) _).setCell (p := ⟨w.heap.size + 1, 0, none⟩) (Nat.le_succ _) _⟩
/-- what numbers returns -/
def NumV (r : Option (List Int)) (w0 : World) (e : Ending) (w : World) : Prop :=
  match r with
  | some ns => ∃ v, e = .returned (.tuple #[v, .bool true]) ∧ w.ownsRow w0.heap.size 3 1 v ns.length (ns.map (Value.int .i64))
  | none => e = .returned (.tuple #[.slice none 0 0, .bool false])
def NI (X : ByteArray) (w : World) (pre : List Wd) (W : World) : Prop :=
  (∃ v, Boxed W (w.heap.size + 1 + 1) 81 v ∧ W.ownsRow w.heap.size 3 1 v (nlW pre).length ((nlW pre).map (Value.int .i64)) ∧ numsO (pre.map Subtype.val) = some (nlW pre)) ∧
  ((Boxed W w.heap.size 81 (.slice none 0 0) ∧ Boxed W (w.heap.size + 1) 4 (.bool false)) ∧ Boxed W (w.heap.size + 1 + 1 + 1) 9 (.string X)) ∧ Below w.heap.size w W
def NX (w : World) (c : Code) (pre : List Wd) (W : World) : Prop :=
  (c = .ret ∧ numsO (pre.map Subtype.val) = none) ∧ (Boxed W w.heap.size 81 (.slice none 0 0) ∧ Boxed W (w.heap.size + 1) 4 (.bool false)) ∧ Below w.heap.size w W

set_option maxRecDepth 100000 in
set_option maxHeartbeats 2000000 in
theorem knumbers (X : ByteArray) (L : List UInt8) (hL : X.data.toList = L) (hs : X.size ≤ 1000000) (w : World) (he : Env w) :
    Calls Tryz.prog 47 #[.string X] w fun e w' => NumV (numsO (wds [] L)) w e w' ∧ Below w.heap.size w w' := by
  obtain ⟨i0, hi, hz0, hz1, hz2⟩ := info_parts infoInt
  have HE := Lib.hid he
  clear he
  refine (callsIn_wide (n := 5)).1 ?_
  refine callsIn_of_wp_marks Tryz.func47 rfl trivial ?_ rfl
  simp only [Tryz.ntmps47, List.size_toArray, List.length_cons, List.length_nil, Nat.reduceAdd, Nat.reduceSub, Array.replicate_succ, Array.replicate_zero, List.push_toArray, List.append_toArray, List.nil_append, List.cons_append]
  gi_wp2_with (refine ⟨trivial, ?_⟩; gi_at_call 68; fail)
  refine ⟨trivial, ?_⟩
  refine (fields_in _ X _).mono ?_
  rintro e w' ⟨rfl, rfl⟩
  gi_wp2
  refine wabs (G := fun W0 => Code.wpIn _ _ _ _ _ _ W0) (R := fun W0 => Boxed W0 w.heap.size 81 (.slice none 0 0) ∧ Boxed W0 (w.heap.size + 1) 4 (.bool false) ∧ Boxed W0 (w.heap.size + 1 + 1) 81 (.slice none 0 0) ∧ Boxed W0 (w.heap.size + 1 + 1 + 1) 9 (.string X) ∧ Only [] w W0 ∧ W0.heap.size = w.heap.size + 1 + 1 + 1 + 1) ?_ ?_
  · have k0 := Boxed.new w 81 (.slice none 0 0)
    have k1 := Boxed.new (w.alloc (.cells #[.slice none 0 0] 81)) 4 (.bool false)
    have k2 := Boxed.new ((w.alloc (.cells #[.slice none 0 0] 81)).alloc (.cells #[.bool false] 4)) 81 (.slice none 0 0)
    have k3 := Boxed.new (((w.alloc (.cells #[.slice none 0 0] 81)).alloc (.cells #[.bool false] 4)).alloc (.cells #[.slice none 0 0] 81)) 9 (.string X)
    simp only [World.size_alloc] at k1 k2 k3
    exact ⟨((k0.alloc _).alloc _).alloc _, (k1.alloc _).alloc _, k2.alloc _, k3, (((((Only.refl [] w).alloc _).alloc _).alloc _).alloc _), by simp only [World.size_alloc]⟩
  rintro W0 ⟨k0, k1, k2, k3, ho0, hsz⟩
  have hB0 : Below w.heap.size w W0 := below_of_only ho0 (Nat.le_refl _)
  have hI : OwnFrom W0.heap.size (NI X w) := OwnFrom.and (Own.from (holdsRow_own w.heap.size (w.heap.size + 1 + 1) 81 3 1 (fun (pre : List Wd) => (nlW pre).length) (fun pre => (nlW pre).map (Value.int .i64)) (fun pre v => numsO (pre.map Subtype.val) = some (nlW pre))) _)
    (OwnFrom.and (OwnFrom.and (OwnFrom.and (Own.from (boxed_own _ _ _) _) (Own.from (boxed_own _ _ _) _)) (Own.from (boxed_own _ _ _) _)) (ownFrom_below (Nat.le_refl _) (by omega)))
  have hIx : ∀ c, OwnFrom W0.heap.size (NX w c) := fun c => OwnFrom.and (ownFrom_pure _ (fun (pre : List Wd) => c = Code.ret ∧ numsO (pre.map Subtype.val) = none))
    (OwnFrom.and (OwnFrom.and (Own.from (boxed_own _ _ _) _) (Own.from (boxed_own _ _ _) _)) (ownFrom_below (Nat.le_refl _) (by omega)))
  have h00 : NI X w [] W0 := ⟨⟨_, k2, World.ownsRow_nil _ _ _ _, rfl⟩, ⟨⟨k0, k1⟩, k3⟩, hB0⟩
  refine wpIn_rangeFunc_ownG rfl (by omega) (gf := 80) (lb := #[.pointer (some ⟨w.heap.size + 1 + 1 + 1, 0, none⟩)]) rfl trivial (enters_of Tryz.func80 (by kernel_rfl) rfl)
    (fields_stops _ (w.heap.size + 1 + 1 + 1) X L hL hs W0 (by omega) k3.cell) (fun h k => k.trans h) (fun W l o o' hl h ho _ => by simp only [World.cell?]; rw [World.putObj_heap_other (by omega)]) (Below.refl _ _) (fun _ => rfl)
    (NI X w) (NX w) hI hIx h00
    (fun x => { tmps := #[.string X, undef, .pointer (some ⟨w.heap.size, 0, none⟩), .pointer (some ⟨w.heap.size + 1, 0, none⟩), .pointer (some ⟨w.heap.size + 1 + 1, 0, none⟩), .string (bstr x.1), undef, undef, .string X, .func (.func 80) #[] #[.pointer (some ⟨w.heap.size + 1 + 1 + 1, 0, none⟩)], .string (bstr x.1), undef, undef, undef, undef, undef, undef, undef, undef, undef, undef, undef, undef, undef, undef, undef, undef, undef, undef], defers := [] }) ?assign ?body ?done ?stop
  case assign =>
    intro l x W K hK
    gi_wp2
    exact hK
  case body =>
    rintro l pre x W ⟨⟨v, hv, hrow, hn⟩, ⟨⟨hb0, hb1⟩, hb5⟩, hB⟩ hlt
    have hxl := x.2
    have hpn := numsO_len hn
    rw [List.length_map] at hpn
    have hwl := wds_len L []
    have hLl : L.length ≤ 1000000 := by rw [← hL, Array.length_toList]; exact hs
    have HN := Lib.hid hn; have HRW := Lib.hid hrow; have HV := Lib.hid hv; have HB0 := Lib.hid hb0; have HB1 := Lib.hid hb1; have HB5 := Lib.hid hb5; have HB := Lib.hid hB
    have hon : Only [] w W := only_of_below hB
    have HON := Lib.hid hon
    clear hn hrow hb0 hb1 hb5 hB hv hon
    gi_wp2_with (refine ⟨trivial, ?_⟩; gi_at_call 69; fail)
    refine ⟨trivial, ?_⟩
    by_cases ha : ∃ z, Lib.atoiAll x.1 = .ok z
    · obtain ⟨z, hz⟩ := ha
      have hbd := Lib.atoiAll_bounds hz
      have HZ := Lib.hid hz
      clear hz
      refine (CallsIn.inRound l (callsIn_wide.2 (atoi_ok (bstr x.1) z HZ.out (by rw [bstr_size]; exact hxl) W))).mono ?_
      rintro e W2 ⟨rfl, ho2⟩
      have O2 := Lib.hid ho2
      clear ho2
      gi_wp2_with (refine ⟨trivial, ?_⟩; gi_at_call 37; fail)
      refine ⟨trivial, ?_⟩
      refine (CallsIn.inRound l (callsIn_wide.2 (itoa_plus z W2 hbd.1 hbd.2 (HE.out.kept (HON.out.nil_trans O2.out)).tab))).mono ?_
      rintro e W3 ⟨rfl, ho3⟩
      have O3 := Lib.hid (O2.out.nil_trans ho3)
      clear ho3 O2
      have hv3 := boxed_only HV.out O3.out
      have hc := hv3.cell
      have hrow3 := owns_kept HRW.out O3.out
      have hB3 : Below w.heap.size w W3 := below_of_only (HON.out.nil_trans O3.out) (Nat.le_refl _)
      have hk3 := boxed_only HB0.out O3.out
      have hk4 := boxed_only HB1.out O3.out
      by_cases hxv : Lib.itoa z = x.1
      · have e1 : (⟨(Lib.itoa z).toArray⟩ : ByteArray) = bstr x.1 := by rw [hxv]; rfl
        rw [e1]
        have HX : Hid (numsO ((pre ++ [x]).map Subtype.val) = some (nlW pre ++ [z])) := Lib.hid (by rw [List.map_append, List.map_cons, List.map_nil, numsO_snoc _ _ _ HN.out, numO_ok HZ.out hxv]; rfl)
        have HX2 : Hid (nlW (pre ++ [x]) = nlW pre ++ [z]) := Lib.hid (by unfold nlW; rw [HX.out]; rfl)
        clear e1 hxv
        generalize bstr x.1 = S
        gi_wp2_with (gi_at_builtin; refine wpListIn_append_own _ rfl _ _ 81 rfl w.heap.size 3 i0 (.int .i64 0) 1 8 Tryz.underlying81 hi hz0 hz1 hz2 rfl (by decide) _ _ _ rfl (hrow3.alloc _) ⟨W3.heap.size, 0, none⟩ 1 1 [.int .i64 z] rfl rfl (cell_one_new _ _ _) (by simp [Value.oneCell']) (by unfold maxLen; omega) (by omega) (by have := hB3.size; simp; omega) ?_; intro v' w1 hown' hgrow _; obtain ⟨g', cap', rfl⟩ := ownsRow_succ hown'; obtain ⟨hv1, hv2, hr2, hk2, hb2⟩ := hv3.appended (by decide) hrow3 hB3.size (by omega) hown' hgrow; have hc1 := hv1.cell; have hf1 := hv1.frozen)
        have hk5 := boxed_only HB5.out O3.out
        have a0 := ((hk3.alloc (.cells #[.int .i64 z] 3)).kept hgrow ((hk3).not_row (by decide) hrow3)).kept (grownBy_setCell' _ (w.heap.size + 1 + 1) (.slice (some ⟨g', 0, none⟩) ((nlW pre).length + 1) cap')) (by simp; omega)
        have a1 := ((hk4.alloc (.cells #[.int .i64 z] 3)).kept hgrow ((hk4).not_row (by decide) hrow3)).kept (grownBy_setCell' _ (w.heap.size + 1 + 1) (.slice (some ⟨g', 0, none⟩) ((nlW pre).length + 1) cap')) (by simp)
        have a5 := ((hk5.alloc (.cells #[.int .i64 z] 3)).kept hgrow ((hk5).not_row (by decide) hrow3)).kept (grownBy_setCell' _ (w.heap.size + 1 + 1) (.slice (some ⟨g', 0, none⟩) ((nlW pre).length + 1) cap')) (by simp)
        rw [hpn] at a0 a1 a5 hv2 hr2 hk2 hb2
        refine ⟨(keeps_of_only O3.out).trans (hk2.from _), (a5.cell.trans HB5.out.cell.symm), ⟨_, hv2, ?_, ?_⟩, ⟨⟨a0, a1⟩, a5⟩, hB3.trans hb2⟩
        · rw [HX2.out, List.length_append, hpn, List.map_append]; exact hr2
        · rw [HX.out, HX2.out]
      · have HX : Hid (numsO ((pre ++ [x]).map Subtype.val) = none) := Lib.hid (by rw [List.map_append, List.map_cons, List.map_nil, numsO_snoc _ _ _ HN.out, numO_no HZ.out hxv]; rfl)
        have hne : ((⟨(Lib.itoa z).toArray⟩ : ByteArray).toList == (bstr x.1).toList) = false := by
          rw [Lib.toList_data, Lib.toList_data]
          exact beq_eq_false_iff_ne.2 hxv
        have hne2 : ((⟨(Lib.itoa z).toArray⟩ : ByteArray).toList != (bstr x.1).toList) = true := by unfold bne; rw [hne]; rfl
        have c0 := hk3.cell; have c1 := hk4.cell
        have f0 := hk3.frozen; have f1 := hk4.frozen
        have HK3 := Lib.hid hk3; have HK4 := Lib.hid hk4
        clear hk3 hk4 hxv
        generalize (⟨(Lib.itoa z).toArray⟩ : ByteArray) = S at hne hne2 ⊢
        generalize bstr x.1 = S2 at hne hne2 ⊢
        gi_wp2
        obtain ⟨r1, r2, r3⟩ := two_set (n0 := W0.heap.size) (a' := .slice none 0 0) (b' := .bool false) O3.out HK3.out HK4.out hB3
        exact ⟨r1, ⟨rfl, HX.out⟩, r2, r3⟩
    · refine (CallsIn.inRound l (callsIn_wide.2 (atoi_bad (bstr x.1) (fun z hz => ha ⟨z, hz⟩) (by rw [bstr_size]; exact hxl) W (HE.out.kept HON.out)))).mono ?_
      rintro e W2 ⟨V, N, rfl, ho2⟩
      have hk3 := boxed_only HB0.out ho2
      have hk4 := boxed_only HB1.out ho2
      have c0 := hk3.cell; have c1 := hk4.cell
      have f0 := hk3.frozen; have f1 := hk4.frozen
      have HX : Hid (numsO ((pre ++ [x]).map Subtype.val) = none) := Lib.hid (by rw [List.map_append, List.map_cons, List.map_nil, numsO_snoc _ _ _ HN.out, numO_bad (fun z hz => ha ⟨z, hz⟩)]; rfl)
      have O2 := Lib.hid ho2
      have HK3 := Lib.hid hk3; have HK4 := Lib.hid hk4
      clear ho2 ha hk3 hk4
      gi_wp2
      refine ⟨trivial, ?_⟩
      gi_wp2
      obtain ⟨r1, r2, r3⟩ := two_set (n0 := W0.heap.size) (a' := .slice none 0 0) (b' := .bool false) O2.out HK3.out HK4.out (below_of_only (HON.out.nil_trans O2.out) (Nat.le_refl _))
      exact ⟨r1, ⟨rfl, HX.out⟩, r2, r3⟩
  case done =>
    rintro D ys W hD hS ⟨⟨v, hv, hrow, hn⟩, ⟨⟨hb0, hb1⟩, hb5⟩, hB⟩ hK
    have hc := hv.cell
    have c0 := hb0.cell; have c1 := hb1.cell
    have f0 := hb0.frozen; have f1 := hb1.frozen
    obtain ⟨ao, n', cap, rfl⟩ : ∃ ao n' cap, v = .slice ao n' cap := by
      rcases hrow.2 with ⟨hv, _⟩ | ⟨g, cap, cur, hv, _⟩
      · exact ⟨_, _, _, hv⟩
      · exact ⟨_, _, _, hv⟩
    gi_wp2
    refine ⟨by simp, .inl ⟨_, _, rfl, run_takeDeferred ((KeepsOthers.trans (KeepsOthers.setCell _ _ _) (KeepsOthers.setCell _ _ _)).same D _ hK rfl), ?_⟩⟩
    have b0 := (hb0.set (.slice ao n' cap)).kept (grownBy_setCell' _ (w.heap.size + 1) (.bool true)) (by simp)
    have b1 := (hb1.kept (grownBy_setCell' _ w.heap.size (.slice ao n' cap)) (by simp)).set (.bool true)
    have p0 := b0.kept (grownBy_putObj' _ D (.deferred none)) (by simp; omega)
    have p1 := b1.kept (grownBy_putObj' _ D (.deferred none)) (by simp; omega)
    have q0 := p0.cell; have q1 := p1.cell
    have hr1 := owns_set hb0 (by decide) hrow (.slice ao n' cap)
    have hr2 := owns_set (hb1.kept (grownBy_setCell' _ w.heap.size (.slice ao n' cap)) (by simp)) (by decide) hr1 (.bool true)
    have hK2 := ((KeepsOthers.setCell W ⟨w.heap.size, 0, none⟩ (.slice ao n' cap)).trans (KeepsOthers.setCell _ ⟨w.heap.size + 1, 0, none⟩ (.bool true))).same D _ hK rfl
    have hr3 := ownsRow_putObj hr2 (.deferred none) hK2 rfl
    refine ⟨.tuple #[.slice ao n' cap, .bool true], by simp [results, Tryz.results47, go_sem, q0, q1], ?_, ?_⟩
    · rw [← hS, hn]; exact ⟨_, rfl, hr3⟩
    · exact ((hB.setCell (p := ⟨w.heap.size, 0, none⟩) (Nat.le_refl _) _).setCell (p := ⟨w.heap.size + 1, 0, none⟩) (Nat.le_succ _) _).trans (belowK_b (w := w) (Nat.le_refl _) _ D _ _ (by omega) hK2 rfl rfl)
  case stop =>
    rintro D c pre W hD hS ⟨⟨rfl, hn⟩, ⟨hb0, hb1⟩, hB⟩ hK
    gi_wp2
    refine ⟨by simp, .inl ⟨_, _, rfl, run_takeDeferred hK, ?_⟩⟩
    have hb0' := hb0.kept (grownBy_putObj' W D (.deferred none)) (by simp; omega)
    have hb1' := hb1.kept (grownBy_putObj' W D (.deferred none)) (by simp; omega)
    have c0 := hb0'.cell; have c1 := hb1'.cell
    refine ⟨.tuple #[.slice none 0 0, .bool false], by simp [results, Tryz.results47, go_sem, c0, c1], ?_, ?_⟩
    · rw [numsO_none hn hS]; rfl
    · exact hB.trans (belowK_b (w := w) (Nat.le_refl _) W D _ _ (by omega) hK rfl rfl)
end Go.Proofs.YtnfejojakikeeaaGreatDoor
