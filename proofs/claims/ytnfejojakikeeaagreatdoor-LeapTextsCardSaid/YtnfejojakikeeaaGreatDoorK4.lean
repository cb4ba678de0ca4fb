/- UTC and Next of package leap. Condition: the table of the months is laid; the length. -/
import Derived.Test.YtnfejojakikeeaaGreatDoorK3
namespace Go.Proofs.YtnfejojakikeeaaGreatDoor
open Go.RowKit

/-- the offset that UTC finds by a TAI second -/
def uO (b tai : Int) (es : List Le) : Int := es.foldl (fun o e => if e.a + e.o ≤ tai then e.o else o) b
theorem uO_snoc (b tai : Int) (es : List Le) (e : Le) : uO b tai (es ++ [e]) = if e.a + e.o ≤ tai then e.o else uO b tai es := by simp [uO]
theorem uO_bd {b tai : Int} : ∀ {es : List Le}, inM b 1000 = true → (∀ e ∈ es, inM e.o 1000 = true) → inM (uO b tai es) 1000 = true := by
  intro es
  induction es generalizing b with
  | nil => intro h _; exact h
  | cons e r ih =>
    intro h hr
    unfold uO
    rw [List.foldl_cons]
    refine ih ?_ (fun x hx => hr x (by simp [hx]))
    split
    · exact hr e (by simp)
    · exact h
/-- whether the second is an inserted one by the first k entries -/
def uE (b tai : Int) (es : List Le) : Nat → Bool
  | 0 => false
  | k + 1 => uE b tai es k || (decide (tai = (es.getD k ⟨0, 0⟩).a + (es.getD k ⟨0, 0⟩).o - 1) && decide (stp b es k = 1))
def utcR (b x : Int) (es : List Le) (tai : Int) : Int × Bool × Int :=
  if chkT b x es = 0 then
    (if inI (tai - uO b tai es) = true ∧ inM (tai - uO b tai es - (if uE b tai es es.length then 1 else 0)) 8000000000 = true then (tai - uO b tai es - (if uE b tai es es.length then 1 else 0), uE b tai es es.length, 0) else (0, false, 3))
  else (0, false, chkT b x es)
def UtcI (w : World) (b tai : Int) (es : List Le) (v ve vi : Value) (wr : World) : Prop :=
  ∃ k : Nat, k ≤ es.length ∧ vi = .int .i64 k ∧ v = .int .i64 (uO b tai (es.take k)) ∧ ve = .bool (uE b tai es k) ∧ Only [] w wr

set_option maxRecDepth 100000 in
set_option maxHeartbeats 2000000 in
theorem kUTC {w : World} {p : Option Addr} {n cap : Nat} {es : List Le} (b x tai : Int) (t0 : -9223372036854775808 ≤ tai) (t1 : tai ≤ 9223372036854775807) (hv : VRow leC 2 w p n cap es) (hn : n ≤ 100000) (hd : Mdy w) :
    Calls Tryz.prog 12 #[.agg #[.int .i64 b, .int .i64 x, .slice p n cap], .int .i64 tai] w fun e w' => e = .returned (.tuple #[.int .i64 (utcR b x es tai).1, .bool (utcR b x es tai).2.1, .int .i64 (utcR b x es tai).2.2]) ∧ Only [] w w' := by
  have hl := hv.len
  subst hl
  have HV := Lib.hid hv; have HD := Lib.hid hd; clear hv hd
  go_enter Tryz.func12, Tryz.ntmps12
  go_wp2_with fail
  refine alloc_abs (G := fun w0 => Calls _ _ _ w0 _) ?_
  intro w1 hb1 ho1 hs1
  have B1 := Lib.hid hb1; have O1 := Lib.hid ho1
  clear hb1 ho1 hs1
  refine (kcheck b x (HV.out.kept O1.out) hn (HD.out.kept O1.out)).mono ?_
  rintro e w2 ⟨rfl, ho2⟩
  have B2 := Lib.hid (ho2.got B1.out (by simp)); have O2 := Lib.hid (O1.out.nil_trans ho2)
  clear ho2 B1 O1
  have g0 := cell_got B2.out 0; have g1 := cell_got B2.out 1; have g2 := cell_got B2.out 2
  have l0 := got_lt B2.out
  by_cases hc : chkT b x es = 0
  · obtain ⟨_, cb, _, cr, _⟩ := chkT_ok hc
    have HCB := Lib.hid cb; have HCR := Lib.hid (fun e he => (cr e he).1); have HCA := Lib.hid (fun e he => (cr e he).2)
    clear cb cr
    have HR : Hid (utcR b x es tai = if inI (tai - uO b tai es) = true ∧ inM (tai - uO b tai es - (if uE b tai es es.length then 1 else 0)) 8000000000 = true then (tai - uO b tai es - (if uE b tai es es.length then 1 else 0), uE b tai es es.length, 0) else (0, false, 3)) := Lib.hid (by unfold utcR; rw [if_pos hc])
    rw [hc]
    clear hc
    go_wp2
    go_loopw [8, 9, 25] (fun v ve vi wr => UtcI w2 b tai es v ve vi wr) (fun _ _ vi _ => es.length - (intOf vi).toNat)
    case atStart => exact ⟨0, Nat.zero_le _, rfl, rfl, rfl, Only.refl _ _⟩
    case round =>
      obtain ⟨k, hk, rfl, rfl, rfl, ho⟩ := hrel
      have OO := Lib.hid ho; have OA := Lib.hid (O2.out.nil_trans ho)
      clear ho g0 g1 g2 l0
      by_cases hlt : k < es.length
      · obtain ⟨bk, off, hp⟩ := HV.out.ptr hlt
        subst hp
        obtain ⟨c0, c1, lb⟩ := HV.out.ent OA.out rfl hlt
        have hgk : es[k]? = some (es.getD k ⟨0, 0⟩) := by simp [List.getD_eq_getElem?_getD, hlt]
        have hmem : es.getD k ⟨0, 0⟩ ∈ es := List.mem_of_getElem? hgk
        have ba := inM_t.1 (HCA.out _ hmem)
        have bo := inM_t.1 (HCR.out _ hmem)
        have hst : stp b es k = stp b es k := rfl
        have htk : uO b tai (es.take (k + 1)) = if (es.getD k ⟨0, 0⟩).a + (es.getD k ⟨0, 0⟩).o ≤ tai then (es.getD k ⟨0, 0⟩).o else uO b tai (es.take k) := by rw [List.take_add_one, hgk]; exact uO_snoc _ _ _ _
        have hek : uE b tai es (k + 1) = (uE b tai es k || (decide (tai = (es.getD k ⟨0, 0⟩).a + (es.getD k ⟨0, 0⟩).o - 1) && decide (stp b es k = 1))) := rfl
        generalize es.getD k ⟨0, 0⟩ = e at c0 c1 htk hek ba bo
        obtain ⟨z, hz⟩ : ∃ z, z = uO b tai (es.take k) := ⟨_, rfl⟩
        obtain ⟨q, hq⟩ : ∃ q, q = uE b tai es k := ⟨_, rfl⟩
        rw [← hz] at htk ⊢
        rw [← hq] at hek ⊢
        have HTK := Lib.hid htk; have HEK := Lib.hid hek
        clear hgk htk hek hmem hst hz hq
        by_cases hle : e.a + e.o ≤ tai
        · have d1 : decide (tai ≥ e.a + e.o) = true := by simp [hle]
          have d2 : decide (e.a + e.o ≤ tai) = true := by simp [hle]
          have HX : Hid (uO b tai (es.take (k + 1)) = e.o) := Lib.hid (by rw [HTK.out, if_pos hle])
          have HY : Hid (uE b tai es (k + 1) = q) := Lib.hid (by rw [HEK.out, show decide (tai = e.a + e.o - 1) = false by simp; omega]; simp)
          clear hle
          go_wp2
          go_roundw
          case rel => exact ⟨k + 1, by omega, by go_num, by rw [HX.out], by rw [HY.out], OO.out.alloc _⟩
          case measure => simp [intOf]; omega
        · have d1 : decide (tai ≥ e.a + e.o) = false := by simpa using hle
          have d2 : decide (e.a + e.o ≤ tai) = false := by simpa using hle
          have HX : Hid (uO b tai (es.take (k + 1)) = z) := Lib.hid (by rw [HTK.out, if_neg hle])
          clear hle
          by_cases he1 : tai = e.a + e.o - 1
          · have d3 : (tai == e.a + e.o - 1) = true := by simp [he1]
            have HY : Hid (uE b tai es (k + 1) = (q || decide (stp b es k = 1))) := Lib.hid (by rw [HEK.out, show decide (tai = e.a + e.o - 1) = true by simp [he1]]; simp)
            clear he1
            go_upto_region 8 with (fail)
            refine alloc_abs (G := fun w0 => Code.wp _ _ _ _ w0) ?_
            intro w3 hb3 ho3 hs3
            have B3 := Lib.hid ((OO.out.nil_trans ho3).got B2.out (by simp)); have O3 := Lib.hid (OA.out.nil_trans ho3); have O3' := Lib.hid (OO.out.nil_trans ho3)
            have e0 := cell_got hb3 0; have e1 := cell_got hb3 1
            have le := got_lt hb3
            clear hb3 ho3 hs3 c0 c1
            have g0 := cell_got B3.out 0; have g1 := cell_got B3.out 1; have g2 := cell_got B3.out 2
            have l0 := got_lt B3.out
            have HSP := Lib.hid (kstep b x (HV.out.kept O3.out) hn k hlt HCB.out HCR.out)
            go_wp2_with fail
            refine HSP.out.mono ?_
            rintro e' w4 ⟨rfl, ho4⟩
            by_cases hs1 : stp b es k = 1
            · have d4 : (stp b es k == 1) = true := by simp [hs1]
              have HZ : Hid (uE b tai es (k + 1) = true) := Lib.hid (by rw [HY.out, hs1]; simp)
              clear hs1
              go_wp2
              go_roundw
              case rel => exact ⟨k + 1, by omega, by go_num, by rw [HX.out], by rw [HZ.out], O3'.out.nil_trans ho4⟩
              case measure => simp [intOf]; omega
            · have d4 : (stp b es k == 1) = false := by simp [hs1]
              have HZ : Hid (uE b tai es (k + 1) = q) := Lib.hid (by rw [HY.out]; simp [hs1])
              clear hs1
              go_wp2
              go_roundw
              case rel => exact ⟨k + 1, by omega, by go_num, by rw [HX.out], by rw [HZ.out], O3'.out.nil_trans ho4⟩
              case measure => simp [intOf]; omega
          · have d3 : (tai == e.a + e.o - 1) = false := by simp [he1]
            have HY : Hid (uE b tai es (k + 1) = q) := Lib.hid (by rw [HEK.out, show decide (tai = e.a + e.o - 1) = false by simp [he1]]; simp)
            clear he1
            go_wp2
            go_roundw
            case rel => exact ⟨k + 1, by omega, by go_num, by rw [HX.out], by rw [HY.out], OO.out.alloc _⟩
            case measure => simp [intOf]; omega
      · have hkk : k = es.length := by omega
        subst hkk
        rw [List.take_of_length_le (Nat.le_refl _)]
        have hob := inM_t.1 (uO_bd (tai := tai) (es := es) HCB.out HCR.out)
        generalize uO b tai es = o at HR hob ⊢
        generalize uE b tai es es.length = q at HR ⊢
        have HFS := Lib.hid (fsub tai o wr t0 t1 (by omega) (by omega))
        by_cases h1 : inI (tai - o) = true
        · have hib : -9223372036854775808 ≤ tai - o ∧ tai - o ≤ 9223372036854775807 := by simpa [inI] using h1
          have hz := orZ_yes hib.1 hib.2
          rw [h1, hz] at HFS
          have HR2 : Hid (utcR b x es tai = if inM (tai - o - (if q then 1 else 0)) 8000000000 = true then (tai - o - (if q then 1 else 0), q, 0) else (0, false, 3)) := Lib.hid (by rw [HR.out]; simp only [h1, true_and])
          clear hz h1 HR
          generalize tai - o = u at HFS HR2 hib
          cases q with
          | true =>
            by_cases hlo : u = -9223372036854775808
            · have HX : Hid (utcR b x es tai = (0, false, 3)) := Lib.hid (by rw [HR2.out, hlo]; simp [inM])
              have hf : inM (wrap64 (u - 1)) 8000000000 = false := by rw [inM_f]; unfold wrap64; omega
              have HW := Lib.hid (kwithin (wrap64 (u - 1)) 8000000000 wr (by omega) (by omega))
              rw [hf] at HW
              have hib2 : u ≤ 9223372036854775807 := hib.2
              clear hlo hib HR2
              clear hf
              go_wp2_with fail
              refine HFS.out.mono ?_
              rintro e w' ⟨rfl, rfl⟩
              go_wp2_with fail
              refine HW.out.mono ?_
              rintro e w' ⟨rfl, rfl⟩
              go_wp2
              go_ret3
              exact ⟨by rw [HX.out]; rfl, OA.out⟩
            · have hu : -9223372036854775808 ≤ u - 1 := by omega
              clear hlo
              have HW := Lib.hid (kwithin (u - 1) 8000000000 wr (by omega) (by omega))
              by_cases hi : inM (u - 1) 8000000000 = true
              · have HX : Hid (utcR b x es tai = (u - 1, true, 0)) := Lib.hid (by rw [HR2.out]; simp [hi])
                rw [hi] at HW
                clear hi HR2
                go_wp2_with fail
                refine HFS.out.mono ?_
                rintro e w' ⟨rfl, rfl⟩
                go_wp2_with fail
                refine HW.out.mono ?_
                rintro e w' ⟨rfl, rfl⟩
                go_wp2
                go_ret3
                exact ⟨by rw [HX.out]; rfl, OA.out⟩
              · have HX : Hid (utcR b x es tai = (0, false, 3)) := Lib.hid (by rw [HR2.out]; simp [hi])
                rw [show inM (u - 1) 8000000000 = false by simpa using hi] at HW
                clear hi HR2
                go_wp2_with fail
                refine HFS.out.mono ?_
                rintro e w' ⟨rfl, rfl⟩
                go_wp2_with fail
                refine HW.out.mono ?_
                rintro e w' ⟨rfl, rfl⟩
                go_wp2
                go_ret3
                exact ⟨by rw [HX.out]; rfl, OA.out⟩
          | false =>
            have HW := Lib.hid (kwithin u 8000000000 wr (by omega) (by omega))
            by_cases hi : inM u 8000000000 = true
            · have HX : Hid (utcR b x es tai = (u, false, 0)) := Lib.hid (by rw [HR2.out]; simp [hi])
              rw [hi] at HW
              clear hi HR2
              go_wp2_with fail
              refine HFS.out.mono ?_
              rintro e w' ⟨rfl, rfl⟩
              go_wp2_with fail
              refine HW.out.mono ?_
              rintro e w' ⟨rfl, rfl⟩
              go_wp2
              go_ret3
              exact ⟨by rw [HX.out]; rfl, OA.out⟩
            · have HX : Hid (utcR b x es tai = (0, false, 3)) := Lib.hid (by rw [HR2.out]; simp [hi])
              rw [show inM u 8000000000 = false by simpa using hi] at HW
              clear hi HR2
              go_wp2_with fail
              refine HFS.out.mono ?_
              rintro e w' ⟨rfl, rfl⟩
              go_wp2_with fail
              refine HW.out.mono ?_
              rintro e w' ⟨rfl, rfl⟩
              go_wp2
              go_ret3
              exact ⟨by rw [HX.out]; rfl, OA.out⟩
        · have HX : Hid (utcR b x es tai = (0, false, 3)) := Lib.hid (by rw [HR.out]; simp [h1])
          have hz : orZ (tai - o) = 0 := by unfold orZ; rw [if_neg h1]
          rw [show inI (tai - o) = false by simpa using h1, hz] at HFS
          clear h1 hz HR
          cases q with
          | true =>
            go_wp2_with fail
            refine HFS.out.mono ?_
            rintro e w' ⟨rfl, rfl⟩
            go_wp2
            go_ret3
            exact ⟨by rw [HX.out]; rfl, OA.out⟩
          | false =>
            go_wp2_with fail
            refine HFS.out.mono ?_
            rintro e w' ⟨rfl, rfl⟩
            go_wp2
            go_ret3
            exact ⟨by rw [HX.out]; rfl, OA.out⟩
  · have HX : Hid (utcR b x es tai = (0, false, chkT b x es)) := Lib.hid (by unfold utcR; rw [if_neg hc])
    have b1 : (chkT b x es == 0) = false := by simp [hc]
    have b2 : (chkT b x es != 0) = true := by simp [hc]
    clear hc
    go_wp2
    go_ret3
    exact ⟨by rw [HX.out]; rfl, O2.out⟩

/-- the first entry after a second, from the place i on -/
def nxtF (utc : Int) : List Le → Option Le
  | [] => none
  | e :: r => if utc < e.a then some e else nxtF utc r
def nxtR (b x utc : Int) (es : List Le) : Option Le := if chkT b x es = 0 then nxtF utc es else none
def nxtV : Option Le → Ending
  | some e => .returned (.tuple #[.agg #[.int .i64 e.a, .int .i64 e.o], .bool true])
  | none => .returned (.tuple #[.agg #[.int .i64 0, .int .i64 0], .bool false])
def NxtI (w : World) (utc : Int) (es : List Le) (vi : Value) (wr : World) : Prop :=
  ∃ k : Nat, k ≤ es.length ∧ vi = .int .i64 k ∧ nxtF utc es = nxtF utc (es.drop k) ∧ Only [] w wr
set_option maxRecDepth 100000 in
set_option maxHeartbeats 2000000 in
theorem kNext {w : World} {p : Option Addr} {n cap : Nat} {es : List Le} (b x utc : Int) (hv : VRow leC 2 w p n cap es) (hn : n ≤ 100000) (hd : Mdy w) :
    Calls Tryz.prog 21 #[.agg #[.int .i64 b, .int .i64 x, .slice p n cap], .int .i64 utc] w fun e w' => e = nxtV (nxtR b x utc es) ∧ Only [] w w' := by
  have hl := hv.len
  subst hl
  have HV := Lib.hid hv; have HD := Lib.hid hd; clear hv hd
  go_enter Tryz.func21, Tryz.ntmps21
  go_upto_region 1 with (fail)
  refine alloc_abs (G := fun w0 => Code.wp _ _ _ _ (w0.alloc _)) ?_
  intro w0 hb0 ho0 hs0
  have B0 := Lib.hid hb0; have O0 := Lib.hid ho0
  have hlt0 : w.heap.size < w0.heap.size := got_lt hb0
  rw [← hs0]
  clear hb0 ho0 hs0
  refine alloc_abs (G := fun w0 => Code.wp _ _ _ _ w0) ?_
  intro w1 hb1 ho1 hs1
  have B1 := Lib.hid (ho1.got B0.out (by simp)); have C1 := Lib.hid hb1; have O1 := Lib.hid (O0.out.nil_trans ho1)
  clear hb1 ho1 hs1 B0
  have g0 := cell_got B1.out 0; have g1 := cell_got B1.out 1; have g2 := cell_got B1.out 2
  have l0 := got_lt B1.out
  go_wp2_with fail
  refine (kcheck b x (HV.out.kept O1.out) hn (HD.out.kept O1.out)).mono ?_
  rintro e w2 ⟨rfl, ho2⟩
  have B2 := Lib.hid (ho2.got B1.out (by simp)); have C2 := Lib.hid (ho2.got C1.out (by simp)); have O2 := Lib.hid (O1.out.nil_trans ho2)
  clear ho2 B1 O1 C1 g0 g1 g2 l0
  have g0 := cell_got B2.out 0; have g1 := cell_got B2.out 1; have g2 := cell_got B2.out 2
  have l0 := got_lt B2.out
  have c0 := cell_got C2.out 0; have c1 := cell_got C2.out 1
  have lc := got_lt C2.out
  have HLT := Lib.hid hlt0
  clear hlt0
  by_cases hc : chkT b x es = 0
  · have HR : Hid (nxtR b x utc es = nxtF utc es) := Lib.hid (by unfold nxtR; rw [if_pos hc])
    rw [hc]
    clear hc
    go_wp2
    go_loopw [15] (fun vi wr => NxtI w2 utc es vi wr) (fun vi _ => es.length - (intOf vi).toNat)
    case atStart => exact ⟨0, Nat.zero_le _, rfl, rfl, Only.refl _ _⟩
    case round =>
      obtain ⟨k, hk, rfl, hnx, ho⟩ := hrel
      have OO := Lib.hid ho; have OA := Lib.hid (O2.out.nil_trans ho); have HNX := Lib.hid hnx
      have C3 := Lib.hid (ho.got C2.out (by simp))
      clear ho hnx g0 g1 g2 l0 c0 c1 lc
      by_cases hlt : k < es.length
      · obtain ⟨bk, off, hp⟩ := HV.out.ptr hlt
        subst hp
        obtain ⟨d0, d1, lb⟩ := HV.out.ent OA.out rfl hlt
        have hdr : es.drop k = es.getD k ⟨0, 0⟩ :: es.drop (k + 1) := by
          rw [List.drop_eq_getElem_cons hlt]; congr 1; simp [List.getD_eq_getElem?_getD, hlt]
        generalize es.getD k ⟨0, 0⟩ = e at d0 d1 hdr
        by_cases hle : utc < e.a
        · have q1 : decide (e.a > utc) = true := by simpa using hle
          have q2 : decide (utc < e.a) = true := by simpa using hle
          have HX : Hid (nxtR b x utc es = some e) := Lib.hid (by rw [HR.out, HNX.out, hdr]; simp [nxtF, hle])
          clear hle hdr
          go_upto_region 6 with (fail)
          refine alloc_abs (G := fun w0 => Code.wp _ _ _ _ w0) ?_
          intro w3 hb3 ho3 hs3
          have e0 := cell_got hb3 0; have e1 := cell_got hb3 1
          have le := got_lt hb3
          have C4 := ho3.got C3.out (by simp)
          have c0 := cell_got C4 0; have c1 := cell_got C4 1
          have f0 := frozen_got C4 0; have f1 := frozen_got C4 1
          have lc := got_lt C4
          have O3 := Lib.hid (OA.out.nil_trans ho3)
          clear hb3 ho3 hs3 d0 d1 C4
          go_wp2
          refine bodyPost_ret (v := .tuple #[.agg #[.int .i64 e.a, .int .i64 e.o], .bool true]) (by simp [results, Tryz.results21, go_sem, c0, c1]) rfl ⟨by rw [HX.out]; rfl, ?_⟩
          exact (O3.out.setCell (.inr (Nat.le_of_lt HLT.out)) _).setCell (.inr (Nat.le_of_lt HLT.out)) _
        · have q1 : decide (e.a > utc) = false := by simpa using hle
          have q2 : decide (utc < e.a) = false := by simpa using hle
          have HX : Hid (nxtF utc es = nxtF utc (es.drop (k + 1))) := Lib.hid (by rw [HNX.out, hdr]; simp [nxtF, hle])
          clear hle hdr
          go_wp2
          go_roundw
          case rel => exact ⟨k + 1, by omega, by go_num, HX.out, OO.out.alloc _⟩
          case measure => simp [intOf]; omega
      · have HX : Hid (nxtR b x utc es = none) := Lib.hid (by rw [HR.out, HNX.out, List.drop_of_length_le (by omega)]; rfl)
        have c0 := cell_got C3.out 0; have c1 := cell_got C3.out 1
        have f0 := frozen_got C3.out 0; have f1 := frozen_got C3.out 1
        have lc := got_lt C3.out
        go_wp2
        refine bodyPost_ret (v := .tuple #[.agg #[.int .i64 0, .int .i64 0], .bool false]) (by simp [results, Tryz.results21, go_sem, c0, c1]) rfl ⟨by rw [HX.out]; rfl, ?_⟩
        exact (OA.out.setCell (.inr (Nat.le_of_lt HLT.out)) _).setCell (.inr (Nat.le_of_lt HLT.out)) _
  · have HX : Hid (nxtR b x utc es = none) := Lib.hid (by unfold nxtR; rw [if_neg hc])
    have b1 : (chkT b x es == 0) = false := by simp [hc]
    have b2 : (chkT b x es != 0) = true := by simp [hc]
    have f0 := frozen_got C2.out 0; have f1 := frozen_got C2.out 1
    clear hc
    go_wp2
    refine bodyPost_ret (v := .tuple #[.agg #[.int .i64 0, .int .i64 0], .bool false]) (by simp [results, Tryz.results21, go_sem, c0, c1]) rfl ⟨by rw [HX.out]; rfl, ?_⟩
    exact (O2.out.setCell (.inr (Nat.le_of_lt HLT.out)) _).setCell (.inr (Nat.le_of_lt HLT.out)) _
end Go.Proofs.YtnfejojakikeeaaGreatDoor
