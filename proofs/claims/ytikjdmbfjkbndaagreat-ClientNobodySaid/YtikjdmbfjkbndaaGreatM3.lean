/- fixed.MulDiv where the first factor is at most the divisor, and the contracts of fixed in one form. Conditions: those named in each theorem. -/
import Derived.Test.YtikjdmbfjkbndaaGreatN2
namespace Go.Proofs.YtikjdmbfjkbndaaGreat
open Go.RowKit

theorem md_bd {a b c : Int} (ha : 0 ≤ a) (hac : a ≤ c) (hc : 0 < c) : (0 ≤ b → 0 ≤ a * b / c ∧ a * b / c ≤ b) ∧ (b < 0 → b ≤ a * b / c ∧ a * b / c ≤ 0) := by
  refine ⟨fun hb => ⟨Int.ediv_nonneg (Int.mul_nonneg ha hb) (by omega), ?_⟩, fun hb => ⟨?_, ?_⟩⟩
  · refine Int.ediv_le_of_le_mul hc ?_
    rw [Int.mul_comm b c]
    exact Int.mul_le_mul_of_nonneg_right hac hb
  · rw [Int.le_ediv_iff_mul_le hc, Int.mul_comm b c]
    exact Int.mul_le_mul_of_nonpos_right hac (by omega)
  · refine Int.ediv_le_of_le_mul hc ?_
    rw [Int.zero_mul]
    exact Int.mul_nonpos_of_nonneg_of_nonpos ha (by omega)
theorem muldiv (a b c : Int) (ha : 0 ≤ a) (hac : a ≤ c) (hc : 0 < c) (hcb : c < 17179869184) (hb0 : -2305843009213693952 ≤ b) (hb1 : b ≤ 2305843009213693952) (w : World) :
    Calls Tryz.prog 166 #[.int .i64 a, .int .i64 b, .int .i64 c] w fun e w' => e = .returned (.tuple #[.int .i64 (a * b / c), .bool true]) ∧ ∃ n, w' = w.drewN n := by
  have h := fmuldiv a b c w (by omega) (by omega) (by omega) (by omega) hc (by omega)
  have hm := md_bd (b := b) ha hac hc
  have hbd : -9223372036854775808 ≤ a * b / c ∧ a * b / c ≤ 9223372036854775807 := by
    by_cases hn : b < 0
    · have := hm.2 hn; omega
    · have := hm.1 (by omega); omega
  rw [orZ_yes hbd.1 hbd.2, inI_yes hbd.1 hbd.2] at h
  exact h
theorem o_drew {P : Program} {f : FuncId} {args : Array Value} {w : World} {v : Ending} (h : Calls P f args w fun e w' => e = v ∧ ∃ n, w' = w.drewN n) : Calls P f args w fun e w' => e = v ∧ Only [] w w' :=
  h.mono fun e w' ⟨he, n, hn⟩ => ⟨he, by rw [hn]; exact ⟨rfl, rfl, rfl, Nat.le_refl _, fun _ _ _ => rfl⟩⟩
theorem o_same {P : Program} {f : FuncId} {args : Array Value} {w : World} {v : Ending} (h : Calls P f args w fun e w' => e = v ∧ w = w') : Calls P f args w fun e w' => e = v ∧ Only [] w w' :=
  h.mono fun e w' ⟨he, hn⟩ => ⟨he, by rw [← hn]; exact Only.refl _ _⟩
end Go.Proofs.YtikjdmbfjkbndaaGreat
