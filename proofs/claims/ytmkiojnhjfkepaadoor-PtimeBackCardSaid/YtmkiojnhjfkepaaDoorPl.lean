/- What the frames of this chapter's laws want: two closed facts, and the table out of the row's condition. No condition. -/
import Derived.Test.YtmkiojnhjfkepaaDoorPx
import Derived.Test.YtmkiojnhjfkepaaDoorTie
import Derived.Test.YtmkiojnhjfkepaaDoorCards
import Derived.ProofKit
import Derived.OpenShut
import Derived.LaidMore
import Derived.Lay
import Derived.SevenTiedAt
import Derived.Stop.Joined
import Derived.Lib.LaidU8
namespace Go.Proofs.YtmkiojnhjfkepaaDoor
open Go.ChangeShapes Go.WideShapes Go.ChangeAt Go.RowKit

theorem tab_of_laid {l : List (String × DataW Unit)} {W : World} (hpl : (l.all fun x => x.2.handleName?.isNone) = true) (hm : ("internal/strconv.uint64pow10", Rows.laid_internal_strconv_uint64pow10) ∈ l) (h : laidMetH Tryd.prog l W) : Tab W := by
  rw [MakeChecks.laidMetH_plain _ _ _ hpl] at h
  obtain ⟨g, t, cs, fuel, p, hg, ht, hv, hd⟩ := Lib.laidMet.reads h hm
  obtain rfl := Option.some.inj (tab_glob.symm.trans hg)
  obtain rfl := Option.some.inj ((show (Tryd.prog.globals[3]?).map (·.type) = some 101 by kernel_rfl).symm.trans ht)
  unfold Tab Lib.TabIs
  rw [hv, ← Lib.cells_of_tab (zs := Lib.pow10Tab) Tryd.underlying101 Tryd.underlying48 (by kernel_rfl) (by kernel_rfl) hd]
end Go.Proofs.YtmkiojnhjfkepaaDoor
