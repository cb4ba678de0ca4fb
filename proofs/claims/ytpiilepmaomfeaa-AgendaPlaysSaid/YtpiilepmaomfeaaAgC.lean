/- AgendaCancels: the function literal gone. Conditions: as stated. -/
import Derived.Test.YtpiilepmaomfeaaAgA
import Derived.Test.YtpiilepmaomfeaaLaw
import Derived.Test.YtpiilepmaomfeaaAgG
namespace Go.Proofs.Ytpiilepmaomfeaa
open Go.ChangeShapes Go.WideShapes Go.ChangeAt Go.RowKit

/-- is the event at place `i` cancelled? -/
def goneB (cs : List Bool) (i : Nat) : Bool := cs.getD i false
abbrev VBools (w : World) (p : Option Addr) (n cap : Nat) (l : List Bool) : Prop := VRow (fun z => [.bool z]) 1 w p n cap l

set_option maxHeartbeats 400000 in
theorem gone_any (p : Option Addr) (n cap : Nat) (cs : List Bool) (B i : Nat) (w : World) (hv : VBools w p n cap cs) (hB : w.heap[B]? = some (.cells #[.slice p n cap] 32 (0, 0))) (_hi : i ≤ 1000) :
    Calls Try.prog 24 #[.int .i64 i, .pointer (some ⟨B, 0, none⟩)] w fun e w' => e = .returned (.bool (goneB cs i)) ∧ w = w' := by
  have c0 := cell_got hB 0
  have hBs := got_lt hB
  have hcm := hv.cm
  unfold maxLen at hcm
  have hle := hv.le
  by_cases hin : i < n
  · have hil : i < cs.length := by rw [hv.len]; exact hin
    obtain ⟨b, off, hp, hb, hc⟩ := hv.cell i cs[i] (List.getElem?_eq_getElem hil)
    have h1 := hc 0 _ rfl
    simp only [Nat.mul_one, Nat.add_zero] at h1
    have hg : goneB cs i = cs[i] := by simp [goneB, hil]
    subst hp
    have HG := Lib.hid hg; clear hg hc hv hB
    generalize cs[i] = z at *
    go_enter Try.func24, Try.ntmps24
    go_wp2
    go_ret
    exact ⟨by rw [HG.out]; rfl, rfl⟩
  · have hg : goneB cs i = false := by simp [goneB]; rw [List.getElem?_eq_none (by rw [hv.len]; omega)]; rfl
    have HG := Lib.hid hg; clear hg hv hB
    go_enter Try.func24, Try.ntmps24
    go_wp2
    go_ret
    exact ⟨by rw [HG.out]; rfl, rfl⟩

theorem QRep.nodup {w : World} {q : Nat} {F : List Nat} {a2 a3 a4 : Value} {l : List Ev} (h : QRep w q F a2 a3 a4 l) : (l.map (·.i)).Nodup := by
  rcases h with ⟨_, rfl, _⟩ | ⟨g, cap, b, _, h⟩
  · simp
  · obtain ⟨D, _, hok, _⟩ := h.map
    rw [List.Nodup, List.pairwise_map, List.pairwise_iff_getElem]
    intro i j hi hj hij
    exact hok.apart (List.getElem?_eq_getElem hi) (List.getElem?_eq_getElem hj) (by omega)

/-- two lists of events in which the item tells the event, with the same items, have the same length -/
theorem same_length {l l' : List Ev} (h : (l.map (·.i)).Nodup) (h' : (l'.map (·.i)).Nodup) (hx : ∀ e ∈ l, ∀ f ∈ l, e.x = f.x → e.i = f.i) (hx' : ∀ e ∈ l', ∀ f ∈ l', e.x = f.x → e.i = f.i)
    (hm : ∀ x : Int, (∃ e ∈ l, e.x = x) ↔ ∃ e ∈ l', e.x = x) : l.length = l'.length := by
  have key : ∀ {l : List Ev}, (l.map (·.i)).Nodup → (∀ e ∈ l, ∀ f ∈ l, e.x = f.x → e.i = f.i) → (l.map (·.x)).Nodup := by
    intro l h hx
    rw [List.Nodup, List.pairwise_map] at h ⊢
    exact List.Pairwise.imp_of_mem (fun ha hb hne he => hne (hx _ ha _ hb he)) h
  have hp : (l.map (·.x)).Perm (l'.map (·.x)) := by
    rw [List.perm_ext_iff_of_nodup (key h hx) (key h' hx')]
    intro x
    simpa using hm x
  simpa using hp.length_eq

/-- the queue of all, after `k` pushes of which `gone` says which are cancelled up to `c` -/
structure All (us : List Int) (cs : List Bool) (l : List Ev) (k c : Nat) : Prop where
  ev : ∀ e ∈ l, e.i = e.x + 1 ∧ 0 ≤ e.x ∧ e.x < k ∧ us[e.x.toNat]? = some e.t ∧ ¬ (e.x.toNat < c ∧ goneB cs e.x.toNat = true)
  all : ∀ i : Nat, i < k → ¬ (i < c ∧ goneB cs i = true) → ∃ e ∈ l, e.x = i

/-- the queue of those that are not cancelled -/
structure Left (us : List Int) (cs : List Bool) (l : List Ev) (k : Nat) : Prop where
  ev : ∀ e ∈ l, 0 ≤ e.x ∧ e.x < k ∧ us[e.x.toNat]? = some e.t ∧ goneB cs e.x.toNat = false
  all : ∀ i : Nat, i < k → goneB cs i = false → ∃ e ∈ l, e.x = i
  ord : ∀ e ∈ l, ∀ f ∈ l, e.i < f.i ↔ e.x < f.x

theorem All.push {us : List Int} {cs : List Bool} {l l' : List Ev} {k : Nat} (h : All us cs l k 0) {z : Int} (hz : us[k]? = some z) (hm : ∀ e, e ∈ l' ↔ e = ⟨z, (k : Int) + 1, (k : Int)⟩ ∨ e ∈ l) : All us cs l' (k + 1) 0 := by
  refine ⟨fun e he => ?_, fun i hi _ => ?_⟩
  · rcases (hm e).1 he with rfl | h'
    · exact ⟨rfl, by simp, by simp; omega, by simpa using hz, by simp⟩
    · obtain ⟨h1, h2, h3, h4, h5⟩ := h.ev e h'
      exact ⟨h1, h2, by omega, h4, h5⟩
  · by_cases hik : i = k
    · subst hik; exact ⟨_, (hm _).2 (.inl rfl), rfl⟩
    · obtain ⟨e, he, hex⟩ := h.all i (by omega) (by omega)
      exact ⟨e, (hm e).2 (.inr he), hex⟩

theorem Left.push {us : List Int} {cs : List Bool} {l l' : List Ev} {k : Nat} {pu : Int} (h : Left us cs l k) (hid : ∀ e ∈ l, e.i ≤ pu) (hg : goneB cs k = false) {z : Int} (hz : us[k]? = some z) (hm : ∀ e, e ∈ l' ↔ e = ⟨z, pu + 1, (k : Int)⟩ ∨ e ∈ l) : Left us cs l' (k + 1) := by
  refine ⟨fun e he => ?_, fun i hi hg' => ?_, fun e he f hf => ?_⟩
  · rcases (hm e).1 he with rfl | h'
    · exact ⟨by simp, by simp; omega, by simpa using hz, by simpa using hg⟩
    · obtain ⟨h2, h3, h4, h5⟩ := h.ev e h'
      exact ⟨h2, by omega, h4, h5⟩
  · by_cases hik : i = k
    · subst hik; exact ⟨_, (hm _).2 (.inl rfl), rfl⟩
    · obtain ⟨e, he, hex⟩ := h.all i (by omega) hg'
      exact ⟨e, (hm e).2 (.inr he), hex⟩
  · rcases (hm e).1 he with rfl | he' <;> rcases (hm f).1 hf with rfl | hf'
    · simp
    · have := hid f hf'; have := (h.ev f hf').2.1; simp; omega
    · have := hid e he'; have := (h.ev e he').2.1; simp; omega
    · exact h.ord e he' f hf'

theorem Left.skip {us : List Int} {cs : List Bool} {l : List Ev} {k : Nat} (h : Left us cs l k) (hg : goneB cs k = true) : Left us cs l (k + 1) := by
  refine ⟨fun e he => ?_, fun i hi hg' => ?_, h.ord⟩
  · obtain ⟨h2, h3, h4, h5⟩ := h.ev e he
    exact ⟨h2, by omega, h4, h5⟩
  · by_cases hik : i = k
    · subst hik; rw [hg] at hg'; cases hg'
    · exact h.all i (by omega) hg'

theorem All.cancel {us : List Int} {cs : List Bool} {l l' : List Ev} {k c : Nat} (h : All us cs l k c) (hg : goneB cs c = true) (hm : ∀ e, e ∈ l' ↔ e ∈ l ∧ e.i ≠ (c : Int) + 1) : All us cs l' k (c + 1) := by
  refine ⟨fun e he => ?_, fun i hi hn => ?_⟩
  · obtain ⟨h', hne⟩ := (hm e).1 he
    obtain ⟨h1, h2, h3, h4, h5⟩ := h.ev e h'
    refine ⟨h1, h2, h3, h4, fun ⟨a, b⟩ => h5 ⟨?_, b⟩⟩
    omega
  · obtain ⟨e, he, hex⟩ := h.all i hi (fun ⟨a, b⟩ => hn ⟨by omega, b⟩)
    refine ⟨e, (hm e).2 ⟨he, ?_⟩, hex⟩
    have := (h.ev e he).1
    intro hc
    have : i = c := by omega
    subst this
    exact hn ⟨by omega, hg⟩

theorem All.skip {us : List Int} {cs : List Bool} {l : List Ev} {k c : Nat} (h : All us cs l k c) (hg : goneB cs c = false) : All us cs l k (c + 1) := by
  refine ⟨fun e he => ?_, fun i hi hn => h.all i hi (fun ⟨a, b⟩ => hn ⟨by omega, b⟩)⟩
  obtain ⟨h1, h2, h3, h4, h5⟩ := h.ev e he
  refine ⟨h1, h2, h3, h4, fun ⟨a, b⟩ => ?_⟩
  by_cases hc : e.x.toNat = c
  · rw [hc, hg] at b; cases b
  · exact h5 ⟨by omega, b⟩

/-- the two queues when the cancelled ones are gone: the same items; in both the items tell the times and the order -/
structure Pair (us : List Int) (l1 l2 : List Ev) : Prop where
  ev1 : ∀ e ∈ l1, e.i = e.x + 1 ∧ 0 ≤ e.x ∧ us[e.x.toNat]? = some e.t
  ev2 : ∀ e ∈ l2, 0 ≤ e.x ∧ us[e.x.toNat]? = some e.t
  ord : ∀ e ∈ l2, ∀ f ∈ l2, e.i < f.i ↔ e.x < f.x
  same : ∀ x : Int, (∃ e ∈ l1, e.x = x) ↔ ∃ e ∈ l2, e.x = x

theorem pair_of {us : List Int} {cs : List Bool} {l1 l2 : List Ev} {k : Nat} (h1 : All us cs l1 k k) (h2 : Left us cs l2 k) : Pair us l1 l2 := by
  refine ⟨fun e he => ⟨(h1.ev e he).1, (h1.ev e he).2.1, (h1.ev e he).2.2.2.1⟩, fun e he => ⟨(h2.ev e he).1, (h2.ev e he).2.2.1⟩, h2.ord, fun x => ⟨?_, ?_⟩⟩
  · rintro ⟨e, he, rfl⟩
    obtain ⟨_, a, b, _, c⟩ := h1.ev e he
    obtain ⟨f, hf, hfx⟩ := h2.all e.x.toNat (by omega) (by
      cases hg : goneB cs e.x.toNat
      · rfl
      · exact absurd ⟨by omega, hg⟩ c)
    exact ⟨f, hf, by omega⟩
  · rintro ⟨e, he, rfl⟩
    obtain ⟨a, b, _, c⟩ := h2.ev e he
    obtain ⟨f, hf, hfx⟩ := h1.all e.x.toNat (by omega) (fun ⟨_, h⟩ => by rw [c] at h; cases h)
    exact ⟨f, hf, by omega⟩

theorem Pair.length {us : List Int} {l1 l2 : List Ev} (h : Pair us l1 l2) (n1 : (l1.map (·.i)).Nodup) (n2 : (l2.map (·.i)).Nodup) : l1.length = l2.length := by
  refine same_length n1 n2 (fun e he f hf hx => ?_) (fun e he f hf hx => ?_) h.same
  · rw [(h.ev1 e he).1, (h.ev1 f hf).1, hx]
  · have a := h.ord e he f hf
    have b := h.ord f hf e he
    omega

/-- the first ones of both have the same time and the same item -/
theorem Pair.first {us : List Int} {l1 l2 : List Ev} (h : Pair us l1 l2) {x y : Ev} (hx : x ∈ l1) (hx' : ∀ e ∈ l1, ge e x) (hy : y ∈ l2) (hy' : ∀ e ∈ l2, ge e y) : x.t = y.t ∧ x.x = y.x := by
  obtain ⟨x2, hx2, ex⟩ := (h.same x.x).1 ⟨x, hx, rfl⟩
  obtain ⟨y1, hy1, ey⟩ := (h.same y.x).2 ⟨y, hy, rfl⟩
  have a := hx' y1 hy1
  have b := hy' x2 hx2
  have t1 : x2.t = x.t := by
    have h1 := (h.ev2 x2 hx2).2
    have h2 := (h.ev1 x hx).2.2
    rw [ex, h2] at h1
    exact (Option.some.inj h1).symm
  have t2 : y1.t = y.t := by
    have h1 := (h.ev1 y1 hy1).2.2
    have h2 := (h.ev2 y hy).2
    rw [ey, h2] at h1
    exact (Option.some.inj h1).symm
  have i1 := (h.ev1 x hx).1
  have i2 := (h.ev1 y1 hy1).1
  have o1 := h.ord y hy x2 hx2
  have o2 := h.ord x2 hx2 y hy
  unfold ge at a b
  constructor <;> omega

theorem Pair.pop {us : List Int} {l1 l2 l1' l2' : List Ev} (h : Pair us l1 l2) {x y : Ev} (hx : x ∈ l1) (hy : y ∈ l2) (hxy : x.x = y.x) (m1 : ∀ e, e ∈ l1' ↔ e ∈ l1 ∧ e.i ≠ x.i) (m2 : ∀ e, e ∈ l2' ↔ e ∈ l2 ∧ e.i ≠ y.i) : Pair us l1' l2' := by
  refine ⟨fun e he => h.ev1 e ((m1 e).1 he).1, fun e he => h.ev2 e ((m2 e).1 he).1, fun e he f hf => h.ord e ((m2 e).1 he).1 f ((m2 f).1 hf).1, fun z => ⟨?_, ?_⟩⟩
  · rintro ⟨e, he, rfl⟩
    obtain ⟨h1, h2⟩ := (m1 e).1 he
    obtain ⟨f, hf, hfx⟩ := (h.same e.x).1 ⟨e, h1, rfl⟩
    refine ⟨f, (m2 f).2 ⟨hf, fun hc => h2 ?_⟩, hfx⟩
    have a := h.ord f hf y hy
    have b := h.ord y hy f hf
    have := (h.ev1 e h1).1
    have := (h.ev1 x hx).1
    omega
  · rintro ⟨e, he, rfl⟩
    obtain ⟨h1, h2⟩ := (m2 e).1 he
    obtain ⟨f, hf, hfx⟩ := (h.same e.x).2 ⟨e, h1, rfl⟩
    refine ⟨f, (m1 f).2 ⟨hf, fun hc => h2 ?_⟩, hfx⟩
    have a := h.ord e h1 y hy
    have b := h.ord y hy e h1
    have := (h.ev1 f hf).1
    have := (h.ev1 x hx).1
    omega
end Go.Proofs.Ytpiilepmaomfeaa
