/- Candidates: the data, valid and Check of package choose. Conditions: those named in each theorem. -/
import Derived.Test.YtikjdmbfjkbndaaGreatOwn
import Derived.Test.YtikjdmbfjkbndaaGreatMp
import Derived.Test.YtikjdmbfjkbndaaGreatM3
namespace Go.Proofs.YtikjdmbfjkbndaaGreat
open Go.RowKit

/-- a candidate -/
structure Cd where
  id : Int
  off : Int
  dist : Int
  jit : Int
  str : Int
deriving DecidableEq, Inhabited
def cdC (c : Cd) : List Value := [.int .i64 c.id, .int .i64 c.off, .int .i64 c.dist, .int .i64 c.jit, .int .i64 c.str]
def cdV (c : Cd) : Value := .agg #[.int .i64 c.id, .int .i64 c.off, .int .i64 c.dist, .int .i64 c.jit, .int .i64 c.str]
theorem cdC_len (c : Cd) : (cdC c).length = 5 := rfl
def okC (c : Cd) : Bool := decide (0 ≤ c.id ∧ c.id ≤ 2147483647 ∧ -4503599627370496 ≤ c.off ∧ c.off ≤ 4503599627370496 ∧ 0 ≤ c.dist ∧ c.dist ≤ 9007199254740992 ∧ 0 ≤ c.jit ∧ c.jit ≤ 9007199254740992 ∧ 1 ≤ c.str ∧ c.str ≤ 16)
/-- the first error of candidates; `s` are the numbers that were met -/
def chkL (s : List Int) : List Cd → Int
  | [] => 0
  | c :: r => if okC c = true then (if c.id ∈ s then 10 else chkL (c.id :: s) r) else 3
def chkC (l : List Cd) : Int := if 12 < l.length then 6 else chkL [] l
theorem chkL_ok : ∀ (l : List Cd) (s : List Int), chkL s l = 0 ↔ (∀ c ∈ l, okC c = true) ∧ (l.map Cd.id).Nodup ∧ ∀ c ∈ l, c.id ∉ s
  | [], s => by simp [chkL]
  | c :: r, s => by
    unfold chkL
    by_cases h : okC c = true
    · rw [if_pos h]
      by_cases hm : c.id ∈ s
      · rw [if_pos hm]
        refine ⟨fun e => absurd e (by decide), fun e => absurd hm (e.2.2 c (List.mem_cons_self ..))⟩
      · rw [if_neg hm, chkL_ok r]
        simp only [List.mem_cons, forall_eq_or_imp, List.map_cons, List.nodup_cons, List.mem_map, not_exists, not_and, not_or]
        constructor
        · rintro ⟨h1, h2, h3⟩
          exact ⟨⟨h, h1⟩, ⟨fun x hx e => (h3 x hx).1 e, h2⟩, hm, fun x hx => (h3 x hx).2⟩
        · rintro ⟨⟨_, h1⟩, ⟨h2, h3⟩, _, h4⟩
          exact ⟨h1, h3, fun x hx => ⟨fun e => h2 x hx e, h4 x hx⟩⟩
    · rw [if_neg h]
      exact ⟨fun e => absurd e (by decide), fun e => absurd (e.1 c (List.mem_cons_self ..)) h⟩
/-- valid candidates with different numbers, at most twelve -/
structure Gd (l : List Cd) : Prop where
  len : l.length ≤ 12
  ok : ∀ c ∈ l, okC c = true
  nd : (l.map Cd.id).Nodup
theorem chkC_ok {l : List Cd} : chkC l = 0 ↔ Gd l := by
  unfold chkC
  by_cases h : 12 < l.length
  · rw [if_pos h]; exact ⟨fun e => absurd e (by decide), fun e => absurd e.len (by omega)⟩
  · rw [if_neg h, chkL_ok]
    exact ⟨fun e => ⟨by omega, e.1, e.2.1⟩, fun e => ⟨e.ok, e.nd, fun _ _ => by simp⟩⟩
theorem Gd.sub {l l' : List Cd} (h : Gd l) (hs : l'.Sublist l) : Gd l' :=
  ⟨Nat.le_trans hs.length_le h.len, fun c hc => h.ok c (hs.subset hc), (hs.map Cd.id).nodup h.nd⟩
theorem Gd.perm {l l' : List Cd} (h : Gd l) (hs : l'.Perm l) : Gd l' :=
  ⟨by rw [hs.length_eq]; exact h.len, fun c hc => h.ok c (hs.subset hc), ((hs.map Cd.id).nodup_iff).2 h.nd⟩
theorem okC_bd {c : Cd} (h : okC c = true) : 0 ≤ c.id ∧ c.id ≤ 2147483647 ∧ -4503599627370496 ≤ c.off ∧ c.off ≤ 4503599627370496 ∧ 0 ≤ c.dist ∧ c.dist ≤ 9007199254740992 ∧ 0 ≤ c.jit ∧ c.jit ≤ 9007199254740992 ∧ 1 ≤ c.str ∧ c.str ≤ 16 := of_decide_eq_true h

set_option maxRecDepth 100000 in
set_option maxHeartbeats 4000000 in
theorem pValid (c : Cd) (w : World) :
    Calls Tryz.prog 154 #[cdV c] w fun e w' => e = .returned (.bool (okC c)) ∧ Only [] w w' := by
  obtain ⟨id, of, di, ji, st⟩ := c
  unfold okC cdV
  dsimp only
  obtain ⟨res, hres⟩ : ∃ res, res = decide (0 ≤ id ∧ id ≤ 2147483647 ∧ -4503599627370496 ≤ of ∧ of ≤ 4503599627370496 ∧ 0 ≤ di ∧ di ≤ 9007199254740992 ∧ 0 ≤ ji ∧ ji ≤ 9007199254740992 ∧ 1 ≤ st ∧ st ≤ 16) := ⟨_, rfl⟩
  rw [← hres]
  have HR := Lib.hid hres
  clear hres
  by_cases h0 : 0 ≤ id
  · have x0 : decide (0 ≤ id) = true := decide_eq_true h0
    by_cases h1 : id ≤ 2147483647
    · have x1 : decide (id ≤ 2147483647) = true := decide_eq_true h1
      by_cases h2 : -4503599627370496 ≤ of
      · have x2 : decide (-4503599627370496 ≤ of) = true := decide_eq_true h2
        by_cases h3 : of ≤ 4503599627370496
        · have x3 : decide (of ≤ 4503599627370496) = true := decide_eq_true h3
          by_cases h4 : 0 ≤ di
          · have x4 : decide (0 ≤ di) = true := decide_eq_true h4
            by_cases h5 : di ≤ 9007199254740992
            · have x5 : decide (di ≤ 9007199254740992) = true := decide_eq_true h5
              by_cases h6 : 0 ≤ ji
              · have x6 : decide (0 ≤ ji) = true := decide_eq_true h6
                by_cases h7 : ji ≤ 9007199254740992
                · have x7 : decide (ji ≤ 9007199254740992) = true := decide_eq_true h7
                  by_cases h8 : 1 ≤ st
                  · have x8 : decide (1 ≤ st) = true := decide_eq_true h8
                    by_cases h9 : st ≤ 16
                    · have x9 : decide (st ≤ 16) = true := decide_eq_true h9
                      obtain rfl : res = true := by rw [HR.out]; exact decide_eq_true ⟨h0, h1, h2, h3, h4, h5, h6, h7, h8, h9⟩
                      clear HR
                      go_enter Tryz.func154, Tryz.ntmps154
                      go_upto_region 1 with (fail)
                      refine alloc_abs (G := fun w0 => Code.wp _ _ _ _ w0) ?_
                      intro w1 hb1 ho1 hs1
                      have B1 := Lib.hid hb1; have O1 := Lib.hid ho1
                      clear hb1 ho1 hs1
                      have k0 := cell_got B1.out 0; have k1 := cell_got B1.out 1; have k2 := cell_got B1.out 2; have k3 := cell_got B1.out 3; have k4 := cell_got B1.out 4; have lk := got_lt B1.out
                      go_wp2
                      go_ret
                      exact ⟨rfl, O1.out⟩
                    · have x9 : decide (st ≤ 16) = false := decide_eq_false h9
                      obtain rfl : res = false := by rw [HR.out]; exact decide_eq_false (fun h => h9 h.2.2.2.2.2.2.2.2.2)
                      clear HR
                      go_enter Tryz.func154, Tryz.ntmps154
                      go_upto_region 1 with (fail)
                      refine alloc_abs (G := fun w0 => Code.wp _ _ _ _ w0) ?_
                      intro w1 hb1 ho1 hs1
                      have B1 := Lib.hid hb1; have O1 := Lib.hid ho1
                      clear hb1 ho1 hs1
                      have k0 := cell_got B1.out 0; have k1 := cell_got B1.out 1; have k2 := cell_got B1.out 2; have k3 := cell_got B1.out 3; have k4 := cell_got B1.out 4; have lk := got_lt B1.out
                      go_wp2
                      go_ret
                      exact ⟨rfl, O1.out⟩
                  · have x8 : decide (1 ≤ st) = false := decide_eq_false h8
                    obtain rfl : res = false := by rw [HR.out]; exact decide_eq_false (fun h => h8 h.2.2.2.2.2.2.2.2.1)
                    clear HR
                    go_enter Tryz.func154, Tryz.ntmps154
                    go_upto_region 1 with (fail)
                    refine alloc_abs (G := fun w0 => Code.wp _ _ _ _ w0) ?_
                    intro w1 hb1 ho1 hs1
                    have B1 := Lib.hid hb1; have O1 := Lib.hid ho1
                    clear hb1 ho1 hs1
                    have k0 := cell_got B1.out 0; have k1 := cell_got B1.out 1; have k2 := cell_got B1.out 2; have k3 := cell_got B1.out 3; have k4 := cell_got B1.out 4; have lk := got_lt B1.out
                    go_wp2
                    go_ret
                    exact ⟨rfl, O1.out⟩
                · have x7 : decide (ji ≤ 9007199254740992) = false := decide_eq_false h7
                  obtain rfl : res = false := by rw [HR.out]; exact decide_eq_false (fun h => h7 h.2.2.2.2.2.2.2.1)
                  clear HR
                  go_enter Tryz.func154, Tryz.ntmps154
                  go_upto_region 1 with (fail)
                  refine alloc_abs (G := fun w0 => Code.wp _ _ _ _ w0) ?_
                  intro w1 hb1 ho1 hs1
                  have B1 := Lib.hid hb1; have O1 := Lib.hid ho1
                  clear hb1 ho1 hs1
                  have k0 := cell_got B1.out 0; have k1 := cell_got B1.out 1; have k2 := cell_got B1.out 2; have k3 := cell_got B1.out 3; have k4 := cell_got B1.out 4; have lk := got_lt B1.out
                  go_wp2
                  go_ret
                  exact ⟨rfl, O1.out⟩
              · have x6 : decide (0 ≤ ji) = false := decide_eq_false h6
                obtain rfl : res = false := by rw [HR.out]; exact decide_eq_false (fun h => h6 h.2.2.2.2.2.2.1)
                clear HR
                go_enter Tryz.func154, Tryz.ntmps154
                go_upto_region 1 with (fail)
                refine alloc_abs (G := fun w0 => Code.wp _ _ _ _ w0) ?_
                intro w1 hb1 ho1 hs1
                have B1 := Lib.hid hb1; have O1 := Lib.hid ho1
                clear hb1 ho1 hs1
                have k0 := cell_got B1.out 0; have k1 := cell_got B1.out 1; have k2 := cell_got B1.out 2; have k3 := cell_got B1.out 3; have k4 := cell_got B1.out 4; have lk := got_lt B1.out
                go_wp2
                go_ret
                exact ⟨rfl, O1.out⟩
            · have x5 : decide (di ≤ 9007199254740992) = false := decide_eq_false h5
              obtain rfl : res = false := by rw [HR.out]; exact decide_eq_false (fun h => h5 h.2.2.2.2.2.1)
              clear HR
              go_enter Tryz.func154, Tryz.ntmps154
              go_upto_region 1 with (fail)
              refine alloc_abs (G := fun w0 => Code.wp _ _ _ _ w0) ?_
              intro w1 hb1 ho1 hs1
              have B1 := Lib.hid hb1; have O1 := Lib.hid ho1
              clear hb1 ho1 hs1
              have k0 := cell_got B1.out 0; have k1 := cell_got B1.out 1; have k2 := cell_got B1.out 2; have k3 := cell_got B1.out 3; have k4 := cell_got B1.out 4; have lk := got_lt B1.out
              go_wp2
              go_ret
              exact ⟨rfl, O1.out⟩
          · have x4 : decide (0 ≤ di) = false := decide_eq_false h4
            obtain rfl : res = false := by rw [HR.out]; exact decide_eq_false (fun h => h4 h.2.2.2.2.1)
            clear HR
            go_enter Tryz.func154, Tryz.ntmps154
            go_upto_region 1 with (fail)
            refine alloc_abs (G := fun w0 => Code.wp _ _ _ _ w0) ?_
            intro w1 hb1 ho1 hs1
            have B1 := Lib.hid hb1; have O1 := Lib.hid ho1
            clear hb1 ho1 hs1
            have k0 := cell_got B1.out 0; have k1 := cell_got B1.out 1; have k2 := cell_got B1.out 2; have k3 := cell_got B1.out 3; have k4 := cell_got B1.out 4; have lk := got_lt B1.out
            go_wp2
            go_ret
            exact ⟨rfl, O1.out⟩
        · have x3 : decide (of ≤ 4503599627370496) = false := decide_eq_false h3
          obtain rfl : res = false := by rw [HR.out]; exact decide_eq_false (fun h => h3 h.2.2.2.1)
          clear HR
          go_enter Tryz.func154, Tryz.ntmps154
          go_upto_region 1 with (fail)
          refine alloc_abs (G := fun w0 => Code.wp _ _ _ _ w0) ?_
          intro w1 hb1 ho1 hs1
          have B1 := Lib.hid hb1; have O1 := Lib.hid ho1
          clear hb1 ho1 hs1
          have k0 := cell_got B1.out 0; have k1 := cell_got B1.out 1; have k2 := cell_got B1.out 2; have k3 := cell_got B1.out 3; have k4 := cell_got B1.out 4; have lk := got_lt B1.out
          go_wp2
          go_ret
          exact ⟨rfl, O1.out⟩
      · have x2 : decide (-4503599627370496 ≤ of) = false := decide_eq_false h2
        obtain rfl : res = false := by rw [HR.out]; exact decide_eq_false (fun h => h2 h.2.2.1)
        clear HR
        go_enter Tryz.func154, Tryz.ntmps154
        go_upto_region 1 with (fail)
        refine alloc_abs (G := fun w0 => Code.wp _ _ _ _ w0) ?_
        intro w1 hb1 ho1 hs1
        have B1 := Lib.hid hb1; have O1 := Lib.hid ho1
        clear hb1 ho1 hs1
        have k0 := cell_got B1.out 0; have k1 := cell_got B1.out 1; have k2 := cell_got B1.out 2; have k3 := cell_got B1.out 3; have k4 := cell_got B1.out 4; have lk := got_lt B1.out
        go_wp2
        go_ret
        exact ⟨rfl, O1.out⟩
    · have x1 : decide (id ≤ 2147483647) = false := decide_eq_false h1
      obtain rfl : res = false := by rw [HR.out]; exact decide_eq_false (fun h => h1 h.2.1)
      clear HR
      go_enter Tryz.func154, Tryz.ntmps154
      go_upto_region 1 with (fail)
      refine alloc_abs (G := fun w0 => Code.wp _ _ _ _ w0) ?_
      intro w1 hb1 ho1 hs1
      have B1 := Lib.hid hb1; have O1 := Lib.hid ho1
      clear hb1 ho1 hs1
      have k0 := cell_got B1.out 0; have k1 := cell_got B1.out 1; have k2 := cell_got B1.out 2; have k3 := cell_got B1.out 3; have k4 := cell_got B1.out 4; have lk := got_lt B1.out
      go_wp2
      go_ret
      exact ⟨rfl, O1.out⟩
  · have x0 : decide (0 ≤ id) = false := decide_eq_false h0
    obtain rfl : res = false := by rw [HR.out]; exact decide_eq_false (fun h => h0 h.1)
    clear HR
    go_enter Tryz.func154, Tryz.ntmps154
    go_upto_region 1 with (fail)
    refine alloc_abs (G := fun w0 => Code.wp _ _ _ _ w0) ?_
    intro w1 hb1 ho1 hs1
    have B1 := Lib.hid hb1; have O1 := Lib.hid ho1
    clear hb1 ho1 hs1
    have k0 := cell_got B1.out 0; have k1 := cell_got B1.out 1; have k2 := cell_got B1.out 2; have k3 := cell_got B1.out 3; have k4 := cell_got B1.out 4; have lk := got_lt B1.out
    go_wp2
    go_ret
    exact ⟨rfl, O1.out⟩
end Go.Proofs.YtikjdmbfjkbndaaGreat
