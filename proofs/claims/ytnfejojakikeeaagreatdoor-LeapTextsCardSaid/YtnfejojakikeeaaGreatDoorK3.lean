/- offset, change, Offset and TAI of package leap. Condition: the table of the months is laid; the length. -/
import Derived.Test.YtnfejojakikeeaaGreatDoorK2
namespace Go.Proofs.YtnfejojakikeeaaGreatDoor
open Go.RowKit

theorem chkT_ok {b x : Int} {es : List Le} (h : chkT b x es = 0) : es.length ≤ 64 ∧ inM b 1000 = true ∧ inM x 8000000000 = true ∧ (∀ e ∈ es, inM e.o 1000 = true ∧ inM e.a 8000000000 = true) ∧ scanE b es es.length 0 = 0 := by
  unfold chkT at h
  split at h
  · cases h
  · split at h
    · rename_i h1 h2
      split at h
      · rename_i h3
        refine ⟨by omega, h2.1, h2.2, fun e he => ?_, h⟩
        unfold rngE at h3
        have := List.all_eq_true.1 h3 e he
        simpa using this
      · cases h
    · cases h
/-- TAI-UTC at a UTC second -/
def ofsL (b utc : Int) (es : List Le) : Int := es.foldl (fun o e => if e.a ≤ utc then e.o else o) b
theorem ofsL_snoc (b utc : Int) (es : List Le) (e : Le) : ofsL b utc (es ++ [e]) = if e.a ≤ utc then e.o else ofsL b utc es := by simp [ofsL]
theorem ofsL_bd {b utc : Int} : ∀ {es : List Le}, inM b 1000 = true → (∀ e ∈ es, inM e.o 1000 = true) → inM (ofsL b utc es) 1000 = true := by
  intro es
  induction es generalizing b with
  | nil => intro h _; exact h
  | cons e r ih =>
    intro h hr
    unfold ofsL
    rw [List.foldl_cons]
    refine ih ?_ (fun x hx => hr x (by simp [hx]))
    split
    · exact hr e (by simp)
    · exact h
/-- by how much the offset changes at a UTC second -/
def chgF (b utc : Int) (es : List Le) : Nat → Nat → Int
  | 0, _ => 0
  | f + 1, i => if (es.getD i ⟨0, 0⟩).a = utc then stp b es i else chgF b utc es f (i + 1)
def chg (b utc : Int) (es : List Le) : Int := chgF b utc es es.length 0
def OfsR (w : World) (b utc : Int) (es : List Le) (v vi : Value) (wr : World) : Prop :=
  ∃ k : Nat, k ≤ es.length ∧ vi = .int .i64 k ∧ v = .int .i64 (ofsL b utc (es.take k)) ∧ Only [] w wr
def ChgR (w : World) (b utc : Int) (es : List Le) (vi : Value) (wr : World) : Prop :=
  ∃ k : Nat, k ≤ es.length ∧ vi = .int .i64 k ∧ chg b utc es = chgF b utc es (es.length - k) k ∧ Only [] w wr

set_option maxRecDepth 100000 in
set_option maxHeartbeats 1000000 in
theorem koffset {w : World} {p : Option Addr} {cap : Nat} {es : List Le} (b x utc : Int) (hv : VRow leC 2 w p es.length cap es) (hn : es.length ≤ 100000) :
    Calls Tryz.prog 29 #[.agg #[.int .i64 b, .int .i64 x, .slice p es.length cap], .int .i64 utc] w fun e w' => e = .returned (.int .i64 (ofsL b utc es)) ∧ Only [] w w' := by
  have HV := Lib.hid hv; clear hv
  go_enter Tryz.func29, Tryz.ntmps29
  go_upto_region 1 with (fail)
  refine alloc_abs (G := fun w0 => Code.wp _ _ _ _ w0) ?_
  intro w1 hb1 ho1 hs1
  have B1 := Lib.hid hb1; have O1 := Lib.hid ho1
  clear hb1 ho1 hs1
  have g0 := cell_got B1.out 0; have g1 := cell_got B1.out 1; have g2 := cell_got B1.out 2
  have l0 := got_lt B1.out
  go_wp2
  go_loopw [5, 13] (fun v vi wr => OfsR w b utc es v vi wr) (fun _ vi _ => es.length - (intOf vi).toNat)
  case atStart => exact ⟨0, Nat.zero_le _, rfl, rfl, O1.out⟩
  case round =>
    obtain ⟨k, hk, rfl, rfl, ho⟩ := hrel
    have OO := Lib.hid ho
    clear ho g0 g1 g2 l0
    by_cases hlt : k < es.length
    · obtain ⟨bk, off, hp⟩ := HV.out.ptr hlt
      subst hp
      obtain ⟨c0, c1, lb⟩ := HV.out.ent OO.out rfl hlt
      have hgk : es[k]? = some (es.getD k ⟨0, 0⟩) := by simp [List.getD_eq_getElem?_getD, hlt]
      have htk : ofsL b utc (es.take (k + 1)) = if (es.getD k ⟨0, 0⟩).a ≤ utc then (es.getD k ⟨0, 0⟩).o else ofsL b utc (es.take k) := by rw [List.take_add_one, hgk]; exact ofsL_snoc _ _ _ _
      generalize es.getD k ⟨0, 0⟩ = e at c0 c1 htk
      generalize ofsL b utc (es.take k) = z at htk ⊢
      have HTK := Lib.hid htk
      clear hgk htk
      by_cases hle : e.a ≤ utc
      · have d1 : decide (e.a ≤ utc) = true := by simp [hle]
        have HX : Hid (ofsL b utc (es.take (k + 1)) = e.o) := Lib.hid (by rw [HTK.out, if_pos hle])
        clear hle
        go_wp2
        go_roundw
        case rel => exact ⟨k + 1, by omega, by go_num, by rw [HX.out], OO.out.alloc _⟩
        case measure => simp [intOf]; omega
      · have d1 : decide (e.a ≤ utc) = false := by simpa using hle
        have HX : Hid (ofsL b utc (es.take (k + 1)) = z) := Lib.hid (by rw [HTK.out, if_neg hle])
        clear hle
        go_wp2
        go_roundw
        case rel => exact ⟨k + 1, by omega, by go_num, by rw [HX.out], OO.out.alloc _⟩
        case measure => simp [intOf]; omega
    · rw [List.take_of_length_le (by omega)]
      go_wp2
      go_ret
      exact ⟨rfl, OO.out⟩

set_option maxRecDepth 100000 in
set_option maxHeartbeats 1000000 in
theorem kchange {w : World} {p : Option Addr} {cap : Nat} {es : List Le} (b x utc : Int) (hv : VRow leC 2 w p es.length cap es) (hn : es.length ≤ 100000) (hb : inM b 1000 = true) (hr : ∀ e ∈ es, inM e.o 1000 = true) :
    Calls Tryz.prog 28 #[.agg #[.int .i64 b, .int .i64 x, .slice p es.length cap], .int .i64 utc] w fun e w' => e = .returned (.int .i64 (chg b utc es)) ∧ Only [] w w' := by
  have HV := Lib.hid hv; have HB := Lib.hid hb; have HR := Lib.hid hr; clear hv hb hr
  go_enter Tryz.func28, Tryz.ntmps28
  go_upto_region 1 with (fail)
  refine alloc_abs (G := fun w0 => Code.wp _ _ _ _ w0) ?_
  intro w1 hb1 ho1 hs1
  have B1 := Lib.hid hb1; have O1 := Lib.hid ho1
  clear hb1 ho1 hs1
  have g0 := cell_got B1.out 0; have g1 := cell_got B1.out 1; have g2 := cell_got B1.out 2
  have l0 := got_lt B1.out
  go_wp2
  go_loopw [10] (fun vi wr => ChgR w1 b utc es vi wr) (fun vi _ => es.length - (intOf vi).toNat)
  case atStart => exact ⟨0, Nat.zero_le _, rfl, rfl, Only.refl _ _⟩
  case round =>
    obtain ⟨k, hk, rfl, hch, ho⟩ := hrel
    have HC := Lib.hid hch; have OO := Lib.hid ho; have OA := Lib.hid (O1.out.nil_trans ho)
    clear ho hch g0 g1 g2 l0
    by_cases hlt : k < es.length
    · obtain ⟨bk, off, hp⟩ := HV.out.ptr hlt
      subst hp
      obtain ⟨c0, c1, lb⟩ := HV.out.ent OA.out rfl hlt
      have hst : chg b utc es = if (es.getD k ⟨0, 0⟩).a = utc then stp b es k else chgF b utc es (es.length - (k + 1)) (k + 1) := by
        rw [HC.out, show es.length - k = (es.length - (k + 1)) + 1 by omega]; rfl
      generalize es.getD k ⟨0, 0⟩ = e at c0 c1 hst
      have HST := Lib.hid hst
      clear hst HC
      by_cases heq : e.a = utc
      · have d1 : (e.a == utc) = true := by simp [heq]
        have HX : Hid (chg b utc es = stp b es k) := Lib.hid (by rw [HST.out, if_pos heq])
        clear heq
        go_upto_region 4 with (fail)
        refine alloc_abs (G := fun w0 => Code.wp _ _ _ _ w0) ?_
        intro w2 hb2 ho2 hs2
        have B2 := Lib.hid ((OO.out.nil_trans ho2).got B1.out (by simp)); have O2 := Lib.hid (OA.out.nil_trans ho2)
        have e0 := cell_got hb2 0
        have le := got_lt hb2
        clear hb2 ho2 hs2 c0 c1
        have g0 := cell_got B2.out 0; have g1 := cell_got B2.out 1; have g2 := cell_got B2.out 2
        have l0 := got_lt B2.out
        have hsp := kstep b x (HV.out.kept O2.out) hn k hlt HB.out HR.out
        have HSP := Lib.hid hsp
        clear hsp
        go_wp2_with fail
        refine HSP.out.mono ?_
        rintro e' w3 ⟨rfl, ho3⟩
        go_wp2
        go_ret
        exact ⟨by rw [HX.out]; rfl, O2.out.nil_trans ho3⟩
      · have d1 : (e.a == utc) = false := by simp [heq]
        have HX : Hid (chg b utc es = chgF b utc es (es.length - (k + 1)) (k + 1)) := Lib.hid (by rw [HST.out, if_neg heq])
        clear heq
        go_wp2
        go_roundw
        case rel => exact ⟨k + 1, by omega, by go_num, HX.out, OO.out.alloc _⟩
        case measure => simp [intOf]; omega
    · have HX : Hid (chg b utc es = 0) := Lib.hid (by rw [HC.out, show es.length - k = 0 by omega]; rfl)
      go_wp2
      go_ret
      exact ⟨by rw [HX.out]; rfl, OA.out⟩

/-- what Offset returns -/
def offR (b x utc : Int) (es : List Le) : Int := if chkT b x es = 0 then ofsL b utc es else 0
set_option maxRecDepth 100000 in
set_option maxHeartbeats 1000000 in
theorem kOffset {w : World} {p : Option Addr} {n cap : Nat} {es : List Le} (b x utc : Int) (hv : VRow leC 2 w p n cap es) (hn : n ≤ 100000) (hd : Mdy w) :
    Calls Tryz.prog 19 #[.agg #[.int .i64 b, .int .i64 x, .slice p n cap], .int .i64 utc] w fun e w' => e = .returned (.int .i64 (offR b x utc es)) ∧ Only [] w w' := by
  have hl := hv.len
  subst hl
  have HV := Lib.hid hv; have HD := Lib.hid hd; clear hv hd
  go_enter Tryz.func19, Tryz.ntmps19
  go_wp2_with fail
  refine alloc_abs (G := fun w0 => Calls _ _ _ w0 _) ?_
  intro w1 hb1 ho1 hs1
  have B1 := Lib.hid hb1; have O1 := Lib.hid ho1
  clear hb1 ho1 hs1
  refine (kcheck b x (HV.out.kept O1.out) hn (HD.out.kept O1.out)).mono ?_
  rintro e w2 ⟨rfl, ho2⟩
  have B2 := Lib.hid (ho2.got B1.out (by simp)); have O2 := Lib.hid (O1.out.nil_trans ho2)
  clear ho2 B1 O1
  have g0 := cell_got B2.out 0; have g1 := cell_got B2.out 1; have g2 := cell_got B2.out 2
  have l0 := got_lt B2.out
  by_cases hc : chkT b x es = 0
  · have HR : Hid (offR b x utc es = ofsL b utc es) := Lib.hid (by unfold offR; rw [if_pos hc])
    rw [hc]
    clear hc
    go_wp2_with fail
    refine (koffset b x utc (HV.out.kept O2.out) hn).mono ?_
    rintro e w3 ⟨rfl, ho3⟩
    go_wp2
    go_ret
    exact ⟨by rw [HR.out]; rfl, O2.out.nil_trans ho3⟩
  · have HR : Hid (offR b x utc es = 0) := Lib.hid (by unfold offR; rw [if_neg hc])
    have b1 : (chkT b x es == 0) = false := by simp [hc]
    have b2 : (chkT b x es != 0) = true := by simp [hc]
    clear hc
    go_wp2
    go_ret
    exact ⟨by rw [HR.out]; rfl, O2.out⟩

/-- what TAI returns -/
def taiR (b x : Int) (es : List Le) (utc : Int) (extra : Bool) : Int × Int :=
  if chkT b x es = 0 then (if inM utc 8000000000 = true then (if (extra = true ∧ chg b (utc + 1) es ≠ 1) ∨ (extra = false ∧ chg b (utc + 1) es = -1) then (0, 11) else (utc + ofsL b utc es + (if extra then 1 else 0), 0)) else (0, 3)) else (0, chkT b x es)
set_option maxRecDepth 100000 in
set_option maxHeartbeats 2000000 in
theorem kTAI {w : World} {p : Option Addr} {n cap : Nat} {es : List Le} (b x utc : Int) (extra : Bool) (hv : VRow leC 2 w p n cap es) (hn : n ≤ 100000) (hd : Mdy w) :
    Calls Tryz.prog 10 #[.agg #[.int .i64 b, .int .i64 x, .slice p n cap], .int .i64 utc, .bool extra] w fun e w' => e = .returned (.tuple #[.int .i64 (taiR b x es utc extra).1, .int .i64 (taiR b x es utc extra).2]) ∧ Only [] w w' := by
  have hl := hv.len
  subst hl
  have HV := Lib.hid hv; have HD := Lib.hid hd; clear hv hd
  go_enter Tryz.func10, Tryz.ntmps10
  go_wp2_with fail
  refine alloc_abs (G := fun w0 => Calls _ _ _ w0 _) ?_
  intro w1 hb1 ho1 hs1
  have B1 := Lib.hid hb1; have O1 := Lib.hid ho1
  clear hb1 ho1 hs1
  refine (kcheck b x (HV.out.kept O1.out) hn (HD.out.kept O1.out)).mono ?_
  rintro e w2 ⟨rfl, ho2⟩
  have B2 := Lib.hid (ho2.got B1.out (by simp)); have O2 := Lib.hid (O1.out.nil_trans ho2)
  clear ho2 B1 O1
  have g0 := cell_got B2.out 0; have g1 := cell_got B2.out 1; have g2 := cell_got B2.out 2
  have l0 := got_lt B2.out
  by_cases hc : chkT b x es = 0
  · obtain ⟨_, cb, _, cr, _⟩ := chkT_ok hc
    have HCB := Lib.hid cb; have HCR := Lib.hid (fun e he => (cr e he).1)
    clear cb cr
    have HR : Hid (taiR b x es utc extra = if inM utc 8000000000 = true then (if (extra = true ∧ chg b (utc + 1) es ≠ 1) ∨ (extra = false ∧ chg b (utc + 1) es = -1) then (0, 11) else (utc + ofsL b utc es + (if extra then 1 else 0), 0)) else (0, 3)) := Lib.hid (by unfold taiR; rw [if_pos hc])
    rw [hc]
    clear hc
    have hwi := kwithin utc 8000000000 w2 (by omega) (by omega)
    by_cases hi : inM utc 8000000000 = true
    · rw [hi] at hwi
      have HWI := Lib.hid hwi
      have hib := inM_t.1 hi
      have HR2 : Hid (taiR b x es utc extra = if (extra = true ∧ chg b (utc + 1) es ≠ 1) ∨ (extra = false ∧ chg b (utc + 1) es = -1) then (0, 11) else (utc + ofsL b utc es + (if extra then 1 else 0), 0)) := Lib.hid (by rw [HR.out, if_pos hi])
      clear hwi hi HR
      have hob := inM_t.1 (ofsL_bd (utc := utc) (es := es) HCB.out HCR.out)
      have hch := fun w' (ho : Only [] w w') => kchange b x (utc + 1) (HV.out.kept ho) hn HCB.out HCR.out
      have hof := fun w' (ho : Only [] w w') => koffset b x utc (HV.out.kept ho) hn
      obtain ⟨cg, hcg⟩ : ∃ cg, cg = chg b (utc + 1) es := ⟨_, rfl⟩
      obtain ⟨og, hog⟩ : ∃ og, og = ofsL b utc es := ⟨_, rfl⟩
      rw [← hcg] at hch HR2
      rw [← hog] at hof hob HR2
      have HCH := Lib.hid hch; have HOF := Lib.hid hof
      clear hch hof hcg hog
      go_wp2_with fail
      refine HWI.out.mono ?_
      rintro e w' ⟨rfl, rfl⟩
      go_wp2_with fail
      refine (HCH.out w2 O2.out).mono ?_
      rintro e w3 ⟨rfl, ho3⟩
      have B3 := Lib.hid (ho3.got B2.out (by simp)); have O3 := Lib.hid (O2.out.nil_trans ho3)
      clear ho3 B2 O2 g0 g1 g2 l0
      have g0 := cell_got B3.out 0; have g1 := cell_got B3.out 1; have g2 := cell_got B3.out 2
      have l0 := got_lt B3.out
      cases extra with
      | true =>
        by_cases h1 : cg = 1
        · have q1 : (cg != 1) = false := by simp [h1]
          have q2 : (cg == 1) = true := by simp [h1]
          have HX : Hid (taiR b x es utc true = (utc + og + 1, 0)) := Lib.hid (by rw [HR2.out, if_neg (by simp [h1])]; rfl)
          clear h1
          go_wp2_with fail
          refine (HOF.out w3 O3.out).mono ?_
          rintro e w4 ⟨rfl, ho4⟩
          go_wp2
          go_ret2
          exact ⟨by rw [HX.out]; rfl, O3.out.nil_trans ho4⟩
        · have q1 : (cg != 1) = true := by simp [h1]
          have q2 : (cg == 1) = false := by simp [h1]
          have HX : Hid (taiR b x es utc true = (0, 11)) := Lib.hid (by rw [HR2.out, if_pos (.inl ⟨rfl, h1⟩)])
          clear h1
          go_wp2
          go_ret2
          exact ⟨by rw [HX.out]; rfl, O3.out⟩
      | false =>
        by_cases h1 : cg = -1
        · have q1 : (cg == -1) = true := by simp [h1]
          have HX : Hid (taiR b x es utc false = (0, 11)) := Lib.hid (by rw [HR2.out, if_pos (.inr ⟨rfl, h1⟩)])
          clear h1
          go_wp2
          go_ret2
          exact ⟨by rw [HX.out]; rfl, O3.out⟩
        · have q1 : (cg == -1) = false := by simp [h1]
          have HX : Hid (taiR b x es utc false = (utc + og, 0)) := Lib.hid (by rw [HR2.out, if_neg (by simp [h1])]; simp)
          clear h1
          go_wp2_with fail
          refine (HOF.out w3 O3.out).mono ?_
          rintro e w4 ⟨rfl, ho4⟩
          go_wp2
          go_ret2
          exact ⟨by rw [HX.out]; rfl, O3.out.nil_trans ho4⟩
    · have hi2 : inM utc 8000000000 = false := by simpa using hi
      rw [hi2] at hwi
      have HWI := Lib.hid hwi
      have HX : Hid (taiR b x es utc extra = (0, 3)) := Lib.hid (by rw [HR.out, if_neg hi])
      clear hwi hi hi2
      go_wp2_with fail
      refine HWI.out.mono ?_
      rintro e w' ⟨rfl, rfl⟩
      go_wp2
      go_ret2
      exact ⟨by rw [HX.out]; rfl, O2.out⟩
  · have HX : Hid (taiR b x es utc extra = (0, chkT b x es)) := Lib.hid (by unfold taiR; rw [if_neg hc])
    have b1 : (chkT b x es == 0) = false := by simp [hc]
    have b2 : (chkT b x es != 0) = true := by simp [hc]
    clear hc
    go_wp2
    go_ret2
    exact ⟨by rw [HX.out]; rfl, O2.out⟩
end Go.Proofs.YtnfejojakikeeaaGreatDoor
