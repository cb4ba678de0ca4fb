/- What the frames of this chapter's laws want: the table of the months as it is laid; the entries of a table that is given. No condition. -/
import Derived.Test.YtnfejojakikeeaaGreatDoorKh
import Derived.Test.YtnfejojakikeeaaGreatDoorSt
import Derived.Lib.SmallJoins
namespace Go.Proofs.YtnfejojakikeeaaGreatDoor
open Go.ChangeShapes Go.WideShapes Go.ChangeAt Go.RowKit Go.Deep

theorem mdy_glob : Tryz.prog.globalNamed "timesync/civil.monthDays" = some 0 := by kernel_rfl
theorem mdy_of_laid {l : List (String × DataW Unit)} {W : World} (hpl : (l.all fun x => x.2.handleName?.isNone) = true) (hm : ("timesync/civil.monthDays", Rows.laid_timesync_civil_monthDays) ∈ l) (h : laidMetH Tryz.prog l W) : Mdy W := by
  rw [MakeChecks.laidMetH_plain _ _ _ hpl] at h
  obtain ⟨g, t, cs, fuel, p, hg, ht, hv, hd⟩ := Lib.laidMet.reads h hm
  obtain rfl := Option.some.inj (mdy_glob.symm.trans hg)
  obtain rfl := Option.some.inj ((show (Tryz.prog.globals[0]?).map (·.type) = some 103 by kernel_rfl).symm.trans ht)
  have hc := Lib.cells_of_tab (zs := mdays) Tryz.underlying103 Tryz.underlying3 (by kernel_rfl) (by kernel_rfl) hd
  unfold World.var? at hv
  rw [mdy_glob] at hv
  simp only [Option.bind_some] at hv
  cases hb : W.heap[0]? with
  | none => rw [hb] at hv; cases hv
  | some o =>
    rw [hb] at hv
    cases o with
    | cells c t z =>
      have hcs := Option.some.inj hv
      intro i hi
      rw [cell_got hb, hcs, ← Array.getElem?_toList, hc]
      have h12 : i = 0 ∨ i = 1 ∨ i = 2 ∨ i = 3 ∨ i = 4 ∨ i = 5 ∨ i = 6 ∨ i = 7 ∨ i = 8 ∨ i = 9 ∨ i = 10 ∨ i = 11 := by omega
      rcases h12 with rfl | rfl | rfl | rfl | rfl | rfl | rfl | rfl | rfl | rfl | rfl | rfl <;> rfl
    | _ => cases hv
section
variable {H : Type} {enc : TypeId × Value → H} {w : World}
theorem vrow_les {p : Option Addr} {n cap : Nat} {d : DataW H} {ps : List MemPlace} (h : DataW.Trod enc Tryz.prog w 0 (fun _ => true) true 22 (.slice p n cap) d ps) : ∃ l : List Le, VRow leC 2 w p n cap l := by
  obtain ⟨l, hl, _⟩ := vrow_of leC 2 (fun _ => rfl) (by decide) (fun _ => True) Tryz.underlying22 (by kernel_rfl) h (fun fuel cs x hx => by
    obtain ⟨zs, h1, rfl, _⟩ := ints_of_struct Tryz.underlying42 (by kernel_rfl) (by kernel_rfl) (by kernel_rfl) hx
    match zs, h1 with
    | [a, b], _ => exact ⟨⟨a, b⟩, rfl, trivial⟩)
  exact ⟨l, hl⟩
end
theorem vrow_n {α : Type} {ec : α → List Value} {s : Nat} {w : World} {p : Option Addr} {n cap : Nat} {l : List α} (h : VRow ec s w p n cap l) : n ≤ 9223372036854775807 := by
  have h1 := h.le; have h2 := h.cm
  simp only [maxLen] at h2
  omega
end Go.Proofs.YtnfejojakikeeaaGreatDoor
