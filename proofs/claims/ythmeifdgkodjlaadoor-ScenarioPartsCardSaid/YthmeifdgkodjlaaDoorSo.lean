/- seed of package scenario. Conditions: the library's variables are laid; the lengths. -/
import Derived.Test.YthmeifdgkodjlaaDoorSl
import Derived.Lib.ParseIntBCases
import Derived.Shelf.Pu.ErrVarParseUint
namespace Go.Proofs.YthmeifdgkodjlaaDoor
open Go.RowKit

theorem natO_parse (l : List UInt8) : natO l = match Lib.parseMag l with
    | .ok u => if Lib.decDigits u = l then some u else none
    | _ => none := by
  cases h : natO l with
  | some m =>
    obtain ⟨h1, h2⟩ := natO_some h
    have := mag_dec m (by omega)
    rw [h2] at this
    rw [this]
    simp [h2]
  | none =>
    rcases hp : Lib.parseMag l with u | _ | _
    · have hu := Lib.parseMag_lt hp
      by_cases hd : Lib.decDigits u = l
      · rw [← hd, natO_dec (by omega)] at h; cases h
      · simp [hd]
    · rfl
    · rfl
/-- what seed returns -/
def SeedR (r : Option Nat) (e : Ending) : Prop := match r with
  | some n => e = .returned (.tuple #[.int .u64 n, .bool true])
  | none => ∃ V, e = .returned (.tuple #[.int .u64 V, .bool false])
theorem pu_ok (l : List UInt8) (u : Nat) (h : Lib.parseMag l = .ok u) (hs : l.length ≤ 1000000) (w : World) :
    Calls Tryd.prog 77 #[.string (bstr l), .int .i64 10, .int .i64 64] w fun e w' => e = .returned (.tuple #[.int .u64 u, .nilIface]) ∧ Only [] w w' := by
  refine (Tryd.strconv_ParseUint_10_at64_ok (bstr l) (by rw [bstr_size]; omega) u (by rw [Lib.parseUintB_64]; exact h) w).mono ?_
  rintro e w' ⟨rfl, rfl | ⟨t, rfl⟩⟩
  · exact ⟨rfl, Only.refl _ _⟩
  · exact ⟨rfl, only_bytes _ _ _⟩
theorem pu_bad (l : List UInt8) (h : ∀ u, Lib.parseMag l ≠ .ok u) (hs : l.length ≤ 1000000) (w : World) (he : Env w) :
    Calls Tryd.prog 77 #[.string (bstr l), .int .i64 10, .int .i64 64] w fun e w' => ∃ (V : Int) (N : Nat), e = .returned (.tuple #[.int .u64 V, .iface 148 (.pointer (some ⟨N, 0, none⟩))]) ∧ Only [] w w' := by
  rcases hq : Lib.parseMag l with u | _ | _
  · exact absurd hq (h u)
  · obtain ⟨tp, p, hv⟩ := he.syn
    have hc : Calls Tryd.prog 77 #[.string (bstr l), .int .i64 10, .int .i64 64] w _ := Any.strconv_ParseUint_10_at64_syntax_var Tryd.laysPu14 (bstr l) (by rw [bstr_size]; omega) (by rw [Lib.parseUintB_64]; exact hq) tp p w hv
    refine hc.mono ?_
    rintro e w' ⟨N, rfl, _, _, hb⟩
    exact ⟨_, N, rfl, only_of_below hb⟩
  · obtain ⟨tp, p, hv⟩ := he.ran
    have hc : Calls Tryd.prog 77 #[.string (bstr l), .int .i64 10, .int .i64 64] w _ := Any.strconv_ParseUint_10_at64_range_var Tryd.laysPu14 (bstr l) (by rw [bstr_size]; omega) (by rw [Lib.parseUintB_64]; exact hq) tp p w hv
    refine hc.mono ?_
    rintro e w' ⟨N, rfl, _, _, hb⟩
    exact ⟨_, N, rfl, only_of_below hb⟩
set_option maxRecDepth 100000 in
set_option maxHeartbeats 2000000 in
theorem pSeed (l : List UInt8) (hs : l.length ≤ 1000000) (w : World) (he : Env w) :
    Calls Tryd.prog 64 #[.string (bstr l)] w fun e w' => SeedR (natO l) e ∧ Only [] w w' := by
  have HE := Lib.hid he
  by_cases ha : ∃ u, Lib.parseMag l = .ok u
  · obtain ⟨u, hz⟩ := ha
    have hb := Lib.parseMag_lt hz
    have HA := Lib.hid (pu_ok l u hz hs w)
    have HI := Lib.hid (fun w' (ho : Only [] w w') => fu_plus u hb w' (HE.out.kept ho).tab)
    have hq : natO l = if Lib.decDigits u = l then some u else none := by rw [natO_parse, hz]
    have heq : ((⟨(Lib.decDigits u).toArray⟩ : ByteArray).toList == (bstr l).toList) = decide (Lib.decDigits u = l) := by
      rw [Lib.toList_data, Lib.toList_data, Bool.eq_iff_iff, beq_iff_eq, decide_eq_true_eq]
      exact Iff.rfl
    have HQ := Lib.hid hq
    clear hq hz hb he
    generalize hS : (⟨(Lib.decDigits u).toArray⟩ : ByteArray) = S at HI heq
    generalize bstr l = T at HA heq
    generalize natO l = res at HQ ⊢
    by_cases hd : Lib.decDigits u = l
    · have HR : Hid (res = some u) := Lib.hid (by rw [HQ.out, if_pos hd])
      rw [decide_eq_true hd] at heq
      clear hd HQ hS
      go_enter Tryd.func64, Tryd.ntmps64
      go_wp2_with fail
      refine HA.out.mono ?_
      rintro e w1 ⟨rfl, ho1⟩
      have O1 := Lib.hid ho1
      clear ho1
      go_wp2_with fail
      refine (HI.out w1 O1.out).mono ?_
      rintro e w2 ⟨rfl, ho2⟩
      have O2 := Lib.hid (O1.out.nil_trans ho2)
      clear ho2
      go_wp2
      refine bodyPost_ret (v := .tuple #[.int .u64 u, .bool true]) (by simp [results, Tryd.results64, go_sem]) rfl ⟨?_, O2.out⟩
      rw [HR.out]; rfl
    · have HR : Hid (res = none) := Lib.hid (by rw [HQ.out, if_neg hd])
      rw [decide_eq_false hd] at heq
      clear hd HQ hS
      go_enter Tryd.func64, Tryd.ntmps64
      go_wp2_with fail
      refine HA.out.mono ?_
      rintro e w1 ⟨rfl, ho1⟩
      have O1 := Lib.hid ho1
      clear ho1
      go_wp2_with fail
      refine (HI.out w1 O1.out).mono ?_
      rintro e w2 ⟨rfl, ho2⟩
      have O2 := Lib.hid (O1.out.nil_trans ho2)
      clear ho2
      go_wp2
      refine bodyPost_ret (v := .tuple #[.int .u64 u, .bool false]) (by simp [results, Tryd.results64, go_sem]) rfl ⟨?_, O2.out⟩
      rw [HR.out]; exact ⟨_, rfl⟩
  · have ha' : ∀ z, Lib.parseMag l ≠ .ok z := fun z hz => ha ⟨z, hz⟩
    have HA := Lib.hid (pu_bad l ha' hs w he)
    have HR : Hid (natO l = none) := Lib.hid (by
      rw [natO_parse]
      rcases hp : Lib.parseMag l with u | _ | _
      · exact absurd hp (ha' u)
      · rfl
      · rfl)
    clear ha ha' he
    generalize natO l = res at HR ⊢
    go_enter Tryd.func64, Tryd.ntmps64
    go_wp2_with fail
    refine HA.out.mono ?_
    rintro e w1 ⟨V, N, rfl, ho1⟩
    have O1 := Lib.hid ho1
    clear ho1
    go_wp2
    refine bodyPost_ret (v := .tuple #[.int .u64 V, .bool false]) (by simp [results, Tryd.results64, go_sem]) rfl ⟨?_, O1.out⟩
    rw [HR.out]; exact ⟨_, rfl⟩
end Go.Proofs.YthmeifdgkodjlaaDoor
