/- Bounds on labels. No condition. -/
import Derived.Test.YtnfejojakikeeaaGreatDoorKi
namespace Go.Proofs.YtnfejojakikeeaaGreatDoor
open Go.RowKit
theorem utc_bd (b x : Int) (es : List Le) (tai : Int) : -8000000000 ≤ (utcR b x es tai).1 ∧ (utcR b x es tai).1 ≤ 8000000000 := by
  by_cases hc : chkT b x es = 0
  · by_cases hd : inI (tai - uO b tai es) = true ∧ inM (tai - uO b tai es - (if uE b tai es es.length then 1 else 0)) 8000000000 = true
    · have e : utcR b x es tai = (tai - uO b tai es - (if uE b tai es es.length then 1 else 0), uE b tai es es.length, 0) := by unfold utcR; rw [if_pos hc, if_pos hd]
      rw [e]; exact inM_t.1 hd.2
    · have e : utcR b x es tai = (0, false, 3) := by unfold utcR; rw [if_pos hc, if_neg hd]
      rw [e]; exact ⟨by decide, by decide⟩
  · have e : utcR b x es tai = (0, false, chkT b x es) := by unfold utcR; rw [if_neg hc]
    rw [e]; exact ⟨by simp, by simp⟩
end Go.Proofs.YtnfejojakikeeaaGreatDoor
