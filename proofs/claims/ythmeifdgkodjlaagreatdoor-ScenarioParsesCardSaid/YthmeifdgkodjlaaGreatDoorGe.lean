/- Texts of one chain: XEnw. -/
import Derived.Test.YthmeifdgkodjlaaGreatDoorG1
import Derived.Test.YthmeifdgkodjlaaGreatDoorShelfT
import Derived.Test.YthmeifdgkodjlaaGreatDoorTie
import Derived.Test.YthmeifdgkodjlaaGreatDoorCards
import Derived.LaidMore
import Derived.Lay
import Derived.SevenTiedAt
import Derived.Stop.Joined
import Derived.Lib.LaidU8
import Derived.Lib.LaidTab
import Derived.Lib.ItoaNum
import Derived.Lib.AppendIntMem
import Derived.Lib.ItoaLen
import Derived.Lib.ItoaMem
import Derived.Lib.AtoiErrMem
import Derived.Lib.IndexMore
import Derived.HandedShaped
import Derived.Shelf.Vars
/- What the library's variables hold, and the library's functions on texts: Itoa, Atoi, Cut, Split; the frame of a law whose row lists variables. Conditions: the library's table and variables are laid; the length of a string. -/
namespace Go.Proofs.YthmeifdgkodjlaaGreatDoor
open Go.ChangeShapes Go.WideShapes Go.ChangeAt Go.RowKit

theorem only_dr (w : World) (n : Nat) : Only [] w (w.drewN n) := ⟨rfl, rfl, rfl, Nat.le_refl _, fun _ _ _ => rfl⟩
/-- the table of powers of ten is as the library lays it -/
def Tab (w : World) : Prop := Lib.TabIs Tryz.prog w "internal/strconv.uint64pow10" .u64 Lib.pow10Tab
theorem tab_glob : Tryz.prog.globalNamed "internal/strconv.uint64pow10" = some 0 := by kernel_rfl
theorem Tab.kept {w w' : World} (h : Tab w) (ho : Only [] w w') : Tab w' := by
  unfold Tab Lib.TabIs at *
  unfold World.var? at *
  rw [tab_glob] at *
  simp only [Option.bind_some] at *
  cases hb : w.heap[0]? with
  | none => simp [hb] at h
  | some o => rw [ho.got hb (by simp), ← hb]; exact h

theorem itoa_plus (n : Int) (w : World) (h0 : -9223372036854775808 ≤ n) (h1 : n ≤ 9223372036854775807) (ht : Tab w) :
    Calls Tryz.prog 58 #[.int .i64 n] w fun e w' => e = .returned (.string ⟨(Lib.itoa n).toArray⟩) ∧ Only [] w w' := by
  refine (Tryz.strconv_Itoa n h0 h1 w ht).mono ?_
  rintro e w' ⟨rfl, k, os, rfl⟩
  refine ⟨rfl, ?_⟩
  exact only_of_below (Lib.below_grow w.heap.size w (Nat.le_refl _) k os)

/-- what the library's variables hold -/
structure Env (w : World) : Prop where
  tab : Tab w
  maxLen : ∃ m, w.cell? ⟨1, 0, none⟩ = some (.int .i64 m)
  syn : ∃ tp p, w.var? Tryz.prog "strconv.ErrSyntax" = some #[.iface tp p]
  ran : ∃ tp p, w.var? Tryz.prog "strconv.ErrRange" = some #[.iface tp p]

theorem var_kept {w w' : World} {n : String} {g : Nat} {cs : Array Value} (hg : Tryz.prog.globalNamed n = some g) (h : w.var? Tryz.prog n = some cs) (ho : Only [] w w') : w'.var? Tryz.prog n = some cs := by
  unfold World.var? at *
  rw [hg] at *
  simp only [Option.bind_some] at *
  cases hb : w.heap[g]? with
  | none => simp [hb] at h
  | some o => rw [ho.got hb (by simp), ← hb]; exact h
theorem cell_kept {w w' : World} {b o : Nat} {v : Value} (h : w.cell? ⟨b, o, none⟩ = some v) (ho : Only [] w w') : w'.cell? ⟨b, o, none⟩ = some v := by
  rw [ho.cell (World.block_lt_of_cell? w _ h) (by simp)]; exact h
theorem Env.kept {w w' : World} (h : Env w) (ho : Only [] w w') : Env w' := by
  obtain ⟨h1, ⟨m, h2⟩, ⟨t1, p1, h3⟩, ⟨t2, p2, h4⟩⟩ := h
  exact ⟨h1.kept ho, ⟨m, cell_kept h2 ho⟩, ⟨t1, p1, var_kept (g := 6) (by kernel_rfl) h3 ho⟩, ⟨t2, p2, var_kept (g := 7) (by kernel_rfl) h4 ho⟩⟩

theorem only_bytes (w : World) (e : TypeId) (s : ByteArray) : Only [] w (Lib.bytesWorld w e s) := only_of_below (Lib.bytesWorld_below w e s)

/-- strconv.Atoi, at every string that is not too long -/
theorem atoi_ok (s : ByteArray) (v : Int) (h : Lib.atoiAll s.data.toList = .ok v) (hs : s.size ≤ 1000000) (w : World) :
    Calls Tryz.prog 111 #[.string s] w fun e w' => e = .returned (.tuple #[.int .i64 v, .nilIface]) ∧ Only [] w w' := by
  refine (Tryz.strconv_Atoi_ok s (by omega) v h w).mono ?_
  rintro e w' ⟨rfl, rfl | ⟨t, rfl⟩⟩
  · exact ⟨rfl, Only.refl _ _⟩
  · exact ⟨rfl, only_bytes _ _ _⟩
theorem atoi_bad (s : ByteArray) (h : ∀ v, Lib.atoiAll s.data.toList ≠ .ok v) (hs : s.size ≤ 1000000) (w : World) (he : Env w) :
    Calls Tryz.prog 111 #[.string s] w fun e w' => ∃ (V : Int) (N : Nat), e = .returned (.tuple #[.int .i64 V, .iface 166 (.pointer (some ⟨N, 0, none⟩))]) ∧ Only [] w w' := by
  rcases hq : Lib.atoiAll s.data.toList with v | _ | _
  · exact absurd hq (h v)
  · obtain ⟨tp, p, hv⟩ := he.syn
    have hc : Calls Tryz.prog 111 #[.string s] w _ := Any.strconv_Atoi_syntax_var Tryz.laysC172 s (by omega) hq tp p w hv
    refine hc.mono ?_
    rintro e w' ⟨N, rfl, _, _, hb⟩
    exact ⟨_, N, rfl, only_of_below hb⟩
  · obtain ⟨tp, p, hv⟩ := he.ran
    have hc : Calls Tryz.prog 111 #[.string s] w _ := Any.strconv_Atoi_range_var Tryz.laysC172 s (by omega) hq tp p w hv
    refine hc.mono ?_
    rintro e w' ⟨N, rfl, _, _, hb⟩
    exact ⟨_, N, rfl, only_of_below hb⟩

/-- a string of these bytes -/
def bstr (l : List UInt8) : ByteArray := ⟨l.toArray⟩
theorem bstr_data (l : List UInt8) : (bstr l).data.toList = l := rfl
theorem bstr_size (l : List UInt8) : (bstr l).size = l.length := by simp [bstr, ByteArray.size]
theorem bstr_of (s : ByteArray) : bstr s.data.toList = s := by apply ByteArray.ext; simp [bstr]
theorem bstr_eq {s : ByteArray} {l : List UInt8} (h : s.data.toList = l) : s = bstr l := by rw [← h, bstr_of]
theorem bstr_inj {a b : List UInt8} (h : bstr a = bstr b) : a = b := by have := congrArg (fun s => s.data.toList) h; exact this
def strC (l : List UInt8) : List Value := [.string (bstr l)]
theorem strC_len (l : List UInt8) : (strC l).length = 1 := rfl
/-- strings.Split at one byte -/
theorem split_any (c : UInt8) (s : ByteArray) (w : World) (hs : s.size ≤ 1000000) (he : Env w) :
    Calls Tryz.prog 40 #[.string s, .string ⟨#[c]⟩] w fun e w' => e = .returned (.slice (some ⟨w.heap.size, 0, none⟩) (pcs c s.data.toList).length (pcs c s.data.toList).length) ∧ RowAt strC 9 1 w' w.heap.size (pcs c s.data.toList).length (pcs c s.data.toList) ∧ Only [] w w' := by
  obtain ⟨m, hm⟩ := he.maxLen
  have hd := Lib.splitB_data ⟨#[c]⟩ 0 (Lib.countB s ⟨#[c]⟩) s
  have hsp : Lib.splitK [c] 0 (Lib.countB s ⟨#[c]⟩) s.data.toList = pcs c s.data.toList := split_pcs c s.data.toList
  rw [show ((⟨#[c]⟩ : ByteArray).data.toList) = [c] from rfl, hsp] at hd
  have hlen := Lib.splitB_all ⟨#[c]⟩ (by simp [ByteArray.size]) 0 _ s rfl
  have hl2 : (pcs c s.data.toList).length = Lib.countB s ⟨#[c]⟩ + 1 := by rw [← hd, List.length_map, hlen]
  have hmap : (Lib.splitB ⟨#[c]⟩ 0 (Lib.countB s ⟨#[c]⟩) s).map Value.string = (pcs c s.data.toList).flatMap strC := by
    rw [← hd, List.flatMap_map]
    simp only [strC, bstr_of]
    exact List.map_eq_flatMap
  have hle := pcs_length_le c s.data.toList
  have hsz : s.data.toList.length = s.size := by rw [Array.length_toList]; rfl
  refine (Tryz.strings_Split s ⟨#[c]⟩ m w (by omega) hm (by simp [ByteArray.size])).mono ?_
  rintro e w' ⟨rfl, rfl⟩
  refine ⟨by rw [hl2], ⟨_, alloc_new _ _, ?_, Nat.le_refl _, by simp only [maxLen]; omega, ?_⟩, (Only.refl [] w).alloc _⟩
  · rw [hmap]; simp [flat_length strC 1 strC_len]
  · rw [hmap, List.take_of_length_le (by simp [flat_length strC 1 strC_len])]
theorem tab_of_laid {l : List (String × DataW Unit)} {W : World} (hpl : (l.all fun x => x.2.handleName?.isNone) = true) (hm : ("internal/strconv.uint64pow10", Rows.laid_internal_strconv_uint64pow10) ∈ l) (h : laidMetH Tryz.prog l W) : Tab W := by
  rw [MakeChecks.laidMetH_plain _ _ _ hpl] at h
  obtain ⟨g, t, cs, fuel, p, hg, ht, hv, hd⟩ := Lib.laidMet.reads h hm
  obtain rfl := Option.some.inj (tab_glob.symm.trans hg)
  obtain rfl := Option.some.inj ((show (Tryz.prog.globals[0]?).map (·.type) = some 149 by kernel_rfl).symm.trans ht)
  unfold Tab Lib.TabIs
  rw [hv, ← Lib.cells_of_tab (zs := Lib.pow10Tab) Tryz.underlying149 Tryz.underlying25 (by kernel_rfl) (by kernel_rfl) hd]
theorem returnsInHanded_of_change_and_shaped {H : Type} {enc : TypeId × Value → H} {a : Assume} {C : Checked} {os : Os} {f : FuncId} {fn : Func} {s : ChangeSpec} {conds : List PathCond} {apart fresh handsOn again : Bool} {X : World → Array Value → Prop}
    (hX : ∀ (w w' : World) (args : Array Value), w.heap = w'.heap → X w args → X w' args)
    (own : ownKnob C.prog.godebug = none) (started : os.Started) (noInit : C.prog.inits.idxOf? f = none) (hfn : C.prog.funcs[f]? = some fn)
    (witness : ∃ (w : World) (tape : Tape) (i : Input), w.os = os ∧ (w.forCall tape i).Shaped C.prog ∧ i.vars = [] ∧ Input.okWide C.prog (w.forCall tape i) .any w.heap.size f i ∧
      ((s.pre enc C.prog fn conds apart (w.forCall tape i).memory i.args ∧ X (w.forCall tape i).memory i.args) ∧ sizedMet enc C.prog fn (OpenSpec.ofChange s) apart (w.forCall tape i).memory i.args) ∧ a.holds C.prog (lone (Frame.enter C.prog f i.args .normal) [] (w.forCall tape i)))
    (contract : ∀ (W : World) (base : Nat) (args : Array Value) (ds gs : List (DataW H)) (before : List MemPlace),
      (∀ (j : Nat) t v, fn.params[j]? = some t → args[j]? = some v → Value.okWide C.prog W .any base t v) →
      DataW.Whole enc C.prog fn.params.toList s.vars apart W args.toList ds gs before →
      conds.all (PathCond.test C.prog ⟨fn.params.toList, ds, s.plain.varTypes C.prog, gs⟩) = true →
      (DataW.weightsEach C.prog (fn.params.toList ++ s.plain.varTypes C.prog) (ds ++ gs)).all (· ≤ reachBytes) = true → X W args → W.ShapedOpen C.prog →
      a.holds C.prog (lone (Frame.enter C.prog f args .normal) [] W) →
      Calls C.prog f args W fun e W' => ∃ v, e = .returned v ∧ s.post enc C.prog fn apart fresh handsOn again W args v W') :
    ReturnsInHanded a C os f .any (fun w args => (s.pre enc C.prog fn conds apart w args ∧ X w args) ∧ sizedMet enc C.prog fn (OpenSpec.ofChange s) apart w args) (s.post enc C.prog fn apart fresh handsOn again) := by
  refine returnsInHanded_of_calls own started noInit witness ?_
  intro w tape i _ hsh _ hok hpre hholds
  obtain ⟨_, _, _, fn', hfn', _, _, _, _, hval⟩ := hok
  have e : fn' = fn := Option.some.inj (hfn'.symm.trans hfn)
  subst e
  obtain ⟨⟨⟨ds, gs, before, hw, hc⟩, hx⟩, hz⟩ := hpre
  have hw' := DataW.Whole.of_heap (w' := w.forCall tape i) (by rfl) hw
  refine (contract (w.forCall tape i) w.heap.size i.args ds gs before hval hw' hc (hz.weights hw) (hX _ _ _ (by rfl) hx) hsh hholds).mono fun e W' ⟨v, he, hp⟩ => ?_
  subst he
  exact ChangeSpec.post_blind hp

theorem err_of_laid {l : List (String × DataW Unit)} {W : World} {n : String} {d : DataW Unit} {g : Nat} {t : TypeId} {nm : String} {ms : Array (String × TypeId)} (hpl : (l.all fun x => x.2.handleName?.isNone) = true) (hm : (n, DataW.iface nm d) ∈ l)
    (hg : Tryz.prog.globalNamed n = some g) (ht : (Tryz.prog.globals[g]?).map (·.type) = some t) (hi : Tryz.prog.underlying t = some (.interface ms)) (h : laidMetH Tryz.prog l W) : ∃ tp p, W.var? Tryz.prog n = some #[.iface tp p] := by
  rw [MakeChecks.laidMetH_plain _ _ _ hpl] at h
  obtain ⟨g', t', cs, fuel, p, hg', ht', hv, hd⟩ := Lib.laidMet.reads h hm
  obtain rfl := Option.some.inj (hg.symm.trans hg')
  obtain rfl := Option.some.inj (ht.symm.trans ht')
  obtain ⟨_, u, v, hcs, _, _⟩ := iface_of_trod hi hd
  refine ⟨u, v, ?_⟩
  rw [hv]
  exact congrArg some (Array.ext' hcs)

theorem env_of_laid {l : List (String × DataW Unit)} {W : World} (hpl : (l.all fun x => x.2.handleName?.isNone) = true) (h1 : ("internal/strconv.uint64pow10", Rows.laid_internal_strconv_uint64pow10) ∈ l) (h2 : ("strconv.ErrSyntax", Rows.laid_strconv_ErrSyntax) ∈ l) (h3 : ("strconv.ErrRange", Rows.laid_strconv_ErrRange) ∈ l)
    (h : laidMetH Tryz.prog l W) (hsh : W.ShapedOpen Tryz.prog) : Env W :=
  ⟨tab_of_laid hpl h1 h, cell_of_shapedOpen_int (t := 3) (zero := #[.int .i64 0]) hsh (of_decide_eq_true (by kernel_rfl)) (by kernel_rfl) (by kernel_rfl) (by kernel_rfl) (by kernel_rfl) Tryz.underlying3,
    err_of_laid (g := 6) (t := 70) hpl h2 (by kernel_rfl) (by kernel_rfl) Tryz.underlying70 h, err_of_laid (g := 7) (t := 70) hpl h3 (by kernel_rfl) (by kernel_rfl) Tryz.underlying70 h⟩
end Go.Proofs.YthmeifdgkodjlaaGreatDoor
