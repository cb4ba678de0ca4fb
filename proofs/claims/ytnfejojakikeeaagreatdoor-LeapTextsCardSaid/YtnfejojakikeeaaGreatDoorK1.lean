/- Tables of leap seconds: within, monthStart, step of package leap. Condition: the table of the months is laid. -/
import Derived.Test.YtnfejojakikeeaaGreatDoorCo
import Derived.Test.YtnfejojakikeeaaGreatDoorOwn
import Derived.Deep.Cut
namespace Go.Proofs.YtnfejojakikeeaaGreatDoor
open Go.RowKit

/-- an entry -/
structure Le where
  a : Int
  o : Int
  deriving DecidableEq
def leC (e : Le) : List Value := [.int .i64 e.a, .int .i64 e.o]
theorem leC_len (e : Le) : (leC e).length = 2 := rfl
theorem leC_one (x : Le) : ∀ u ∈ leC x, u.oneCell' = true := by simp [leC, Value.oneCell']
/-- is a number from -most to most? -/
def inM (n most : Int) : Bool := decide (-most ≤ n ∧ n ≤ most)
theorem inM_t {n m : Int} : inM n m = true ↔ (-m ≤ n ∧ n ≤ m) := by simp [inM]
theorem inM_f {n m : Int} : inM n m = false ↔ ¬ (-m ≤ n ∧ n ≤ m) := by simp only [inM, decide_eq_false_iff_not]
theorem kwithin (n m : Int) (w : World) (h0 : 0 ≤ m) (h1 : m ≤ 9223372036854775807) : Calls Tryz.prog 22 #[.int .i64 n, .int .i64 m] w fun e w' => e = .returned (.bool (inM n m)) ∧ w = w' := by
  by_cases h1 : -m ≤ n
  · have d1 : decide (-m ≤ n) = true := by simp [h1]
    by_cases h2 : n ≤ m
    · rw [inM_t.2 ⟨h1, h2⟩]
      have d2 : decide (n ≤ m) = true := by simp [h2]
      go_enter Tryz.func22, Tryz.ntmps22
      go_wp2
      go_ret
      exact ⟨rfl, rfl⟩
    · rw [inM_f.2 (fun h => h2 h.2)]
      have d2 : decide (n ≤ m) = false := by simpa using h2
      go_enter Tryz.func22, Tryz.ntmps22
      go_wp2
      go_ret
      exact ⟨rfl, rfl⟩
  · rw [inM_f.2 (fun h => h1 h.1)]
    have d1 : decide (-m ≤ n) = false := by simpa using h1
    go_enter Tryz.func22, Tryz.ntmps22
    go_wp2
    go_ret
    exact ⟨rfl, rfl⟩
set_option maxHeartbeats 1000000 in
theorem kmonth (sec : Int) (w : World) (h0 : -8000000000 ≤ sec) (h1 : sec ≤ 8000000000) (hd : Mdy w) : Calls Tryz.prog 23 #[.int .i64 sec] w fun e w' => e = .returned (.bool (mst sec)) ∧ Only [] w w' := by
  have hof := cof_yes sec w h0 h1 hd
  have HOF := Lib.hid hof
  clear hof
  go_enter Tryz.func23, Tryz.ntmps23
  go_wp2_with fail
  refine HOF.out.mono ?_
  rintro e w1 ⟨⟨y, m, d, hcv, rfl⟩, ho1⟩
  have O1 := Lib.hid ho1
  have hm := mst_of hcv
  obtain ⟨H, hH⟩ : ∃ H, H = sec % 86400 / 3600 := ⟨_, rfl⟩
  obtain ⟨M, hM⟩ : ∃ M, M = sec % 86400 / 60 % 60 := ⟨_, rfl⟩
  obtain ⟨S, hS⟩ : ∃ S, S = sec % 86400 % 60 := ⟨_, rfl⟩
  rw [← hH, ← hM, ← hS]
  have hz : sec % 86400 = 0 ↔ H = 0 ∧ M = 0 ∧ S = 0 := by omega
  have HM := Lib.hid hm; have HZ := Lib.hid hz
  clear hm hz hcv ho1 hH hM hS HOF
  unfold civV
  by_cases hd1 : d = 1
  · have b1 : (d == 1) = true := by simp [hd1]
    by_cases hh : H = 0
    · have b2 : (H == 0) = true := by simp [hh]
      by_cases hmi : M = 0
      · have b3 : (M == 0) = true := by simp [hmi]
        by_cases hs : S = 0
        · have b4 : (S == 0) = true := by simp [hs]
          have HR : Hid (mst sec = true) := Lib.hid (by rw [HM.out]; simp [hd1, HZ.out.2 ⟨hh, hmi, hs⟩])
          clear hd1 hh hmi hs
          go_wp2
          go_ret
          exact ⟨by rw [HR.out]; rfl, O1.out.alloc _⟩
        · have b4 : (S == 0) = false := by simp [hs]
          have HR : Hid (mst sec = false) := Lib.hid (by rw [HM.out]; simp [show ¬ sec % 86400 = 0 from fun q => hs (HZ.out.1 q).2.2])
          clear hd1 hh hmi hs
          go_wp2
          go_ret
          exact ⟨by rw [HR.out]; rfl, O1.out.alloc _⟩
      · have b3 : (M == 0) = false := by simp [hmi]
        have HR : Hid (mst sec = false) := Lib.hid (by rw [HM.out]; simp [show ¬ sec % 86400 = 0 from fun q => hmi (HZ.out.1 q).2.1])
        clear hd1 hh hmi
        go_wp2
        go_ret
        exact ⟨by rw [HR.out]; rfl, O1.out.alloc _⟩
    · have b2 : (H == 0) = false := by simp [hh]
      have HR : Hid (mst sec = false) := Lib.hid (by rw [HM.out]; simp [show ¬ sec % 86400 = 0 from fun q => hh (HZ.out.1 q).1])
      clear hd1 hh
      go_wp2
      go_ret
      exact ⟨by rw [HR.out]; rfl, O1.out.alloc _⟩
  · have b1 : (d == 1) = false := by simp [hd1]
    have HR : Hid (mst sec = false) := Lib.hid (by rw [HM.out]; simp [hd1])
    clear hd1
    go_wp2
    go_ret
    exact ⟨by rw [HR.out]; rfl, O1.out.alloc _⟩
/-- the offset before an entry -/
def prvO (b : Int) (es : List Le) (i : Nat) : Int := if i = 0 then b else (es.getD (i - 1) ⟨0, 0⟩).o
/-- by how much an entry changes the offset -/
def stp (b : Int) (es : List Le) (i : Nat) : Int := (es.getD i ⟨0, 0⟩).o - prvO b es i
theorem VRow.ent {w wr : World} {bk off cap : Nat} {p : Option Addr} {es : List Le} {k : Nat} (hv : VRow leC 2 w p es.length cap es) (ho : Only [] w wr) (hp : p = some ⟨bk, off, none⟩) (hk : k < es.length) :
    wr.cell? ⟨bk, off + k * 2, none⟩ = some (.int .i64 (es.getD k ⟨0, 0⟩).a) ∧ wr.cell? ⟨bk, off + k * 2 + 1, none⟩ = some (.int .i64 (es.getD k ⟨0, 0⟩).o) ∧ bk < wr.heap.size := by
  have hg : es[k]? = some (es.getD k ⟨0, 0⟩) := by simp [List.getD_eq_getElem?_getD, hk]
  obtain ⟨b', off', hp', hb, hcl⟩ := hv.cell k _ hg
  rw [hp] at hp'
  cases hp'
  refine ⟨?_, ?_, Nat.lt_of_lt_of_le hb ho.size⟩
  · rw [ho.cell hb (by simp)]; exact hcl 0 _ rfl
  · rw [ho.cell hb (by simp)]; exact hcl 1 _ rfl
theorem VRow.ptr {α : Type} {ec : α → List Value} {s : Nat} {w : World} {p : Option Addr} {n cap k : Nat} {l : List α} (hv : VRow ec s w p n cap l) (hk : k < l.length) : ∃ b off, p = some ⟨b, off, none⟩ := by
  obtain ⟨b, off, hp, _⟩ := hv.cell k l[k] (List.getElem?_eq_getElem hk)
  exact ⟨b, off, hp⟩
set_option maxRecDepth 100000 in
set_option maxHeartbeats 1000000 in
theorem kstep {w : World} {p : Option Addr} {cap : Nat} {es : List Le} (b x : Int) (hv : VRow leC 2 w p es.length cap es) (hn : es.length ≤ 100000) (i : Nat) (hi : i < es.length) (hb : inM b 1000 = true) (hr : ∀ e ∈ es, inM e.o 1000 = true) :
    Calls Tryz.prog 24 #[.agg #[.int .i64 b, .int .i64 x, .slice p es.length cap], .int .i64 i] w fun e w' => e = .returned (.int .i64 (stp b es i)) ∧ Only [] w w' := by
  obtain ⟨bk, off, hp⟩ := hv.ptr hi
  subst hp
  have HV := Lib.hid hv
  have hbd := inM_t.1 hb
  have hmem : ∀ k, k < es.length → -1000 ≤ (es.getD k ⟨0, 0⟩).o ∧ (es.getD k ⟨0, 0⟩).o ≤ 1000 := fun k hk => by
    have hg : es[k]? = some (es.getD k ⟨0, 0⟩) := by simp [List.getD_eq_getElem?_getD, hk]
    exact inM_t.1 (hr _ (List.mem_of_getElem? hg))
  have hib := hmem i hi
  have hij : (i : Int) < (es.length : Int) := by omega
  clear hv hb hr
  by_cases h0 : i = 0
  · subst h0
    have hs : stp b es 0 = (es.getD 0 ⟨0, 0⟩).o - b := by simp [stp, prvO]
    have HS := Lib.hid hs
    clear hs
    go_enter Tryz.func24, Tryz.ntmps24
    go_upto_region 2 with (fail)
    refine alloc_abs (G := fun w0 => Code.wp _ _ _ _ w0) ?_
    intro w1 hb1 ho1 hs1
    obtain ⟨c0, c1, lb⟩ := HV.out.ent ho1 rfl hi
    have g0 := cell_got hb1 0; have g2 := cell_got hb1 2
    have l0 := got_lt hb1
    have O1 := Lib.hid ho1
    clear hb1 ho1 hs1
    obtain ⟨o0, ho0⟩ : ∃ o0, o0 = (es.getD 0 ⟨0, 0⟩).o := ⟨_, rfl⟩
    rw [← ho0] at c1 hib
    have HO := Lib.hid ho0
    clear ho0 c0
    simp only [Nat.zero_mul, Nat.add_zero] at c1
    go_quiet (fail)
    go_wp2
    go_ret
    exact ⟨ret_int (by rw [HS.out, HO.out]), O1.out.nil_trans (only_dr2 _ _)⟩
  · have hs : stp b es i = (es.getD i ⟨0, 0⟩).o - (es.getD (i - 1) ⟨0, 0⟩).o := by simp [stp, prvO, h0]
    have HS := Lib.hid hs
    have hpb := hmem (i - 1) (by omega)
    have b1 : ((i : Int) == 0) = false := by simp; omega
    clear hs
    go_enter Tryz.func24, Tryz.ntmps24
    go_upto_region 3 with (fail)
    refine alloc_abs (G := fun w0 => Code.wp _ _ _ _ w0) ?_
    intro w1 hb1 ho1 hs1
    obtain ⟨c0, c1, lb⟩ := HV.out.ent ho1 rfl hi
    obtain ⟨e0, e1, _⟩ := HV.out.ent ho1 rfl (show i - 1 < es.length by omega)
    have g0 := cell_got hb1 0; have g2 := cell_got hb1 2
    have l0 := got_lt hb1
    have O1 := Lib.hid ho1
    clear hb1 ho1 hs1
    obtain ⟨o0, ho0⟩ : ∃ o0, o0 = (es.getD i ⟨0, 0⟩).o := ⟨_, rfl⟩
    obtain ⟨o1, ho1⟩ : ∃ o1, o1 = (es.getD (i - 1) ⟨0, 0⟩).o := ⟨_, rfl⟩
    rw [← ho0] at c1 hib
    rw [← ho1] at e1 hpb
    have HO := Lib.hid ho0; have HP := Lib.hid ho1
    clear ho0 ho1 c0 e0 hmem
    have hi1 : (1 : Int) ≤ (i : Int) := by omega
    have hi2 : (i : Int) - 1 < (es.length : Int) := by omega
    have hi3 : IntKind.i64.wrap ((i : Int) - 1) = (i : Int) - 1 := IntWalk.i64_in _ (by omega)
    have hi4 : ((i : Int) - 1).toNat = i - 1 := by omega
    go_quiet (fail)
    go_wp2
    go_ret
    exact ⟨ret_int (by rw [HS.out, HO.out, HP.out]), O1.out.nil_trans (only_dr2 _ _)⟩
end Go.Proofs.YtnfejojakikeeaaGreatDoor
