/- The text of a scene is read back; what is read has just this text; a text that is cut. No condition. -/
import Derived.Test.YthmeifdgkodjlaaDoorS2
namespace Go.Proofs.YthmeifdgkodjlaaDoor

theorem pcs_cons_line {c : UInt8} {a r : List UInt8} (h : c ∉ a) : pcs c (a ++ [c] ++ r) = a :: pcs c r := by
  rw [List.append_assoc]; exact pcs_cut r h
def runW : SSt → List (List (List UInt8)) → Option SSt
  | x, [] => some x
  | x, w :: r => match rdW x w with
    | none => none
    | some y => runW y r
theorem runW_append : ∀ (a : List (List (List UInt8))) (x : SSt) (b : List (List (List UInt8))), runW x (a ++ b) = (runW x a).bind fun y => runW y b
  | [], x, b => rfl
  | w :: a, x, b => by
    rw [List.cons_append, runW, runW]
    cases rdW x w with
    | none => rfl
    | some y => exact runW_append a y b
/-- words without blanks and line feeds, at least one -/
def Wok (ws : List (List UInt8)) : Prop := ws ≠ [] ∧ ∀ w ∈ ws, (10 : UInt8) ∉ w ∧ (32 : UInt8) ∉ w
theorem joinC_no {c d : UInt8} (hcd : c ≠ d) : ∀ {ws : List (List UInt8)}, (∀ w ∈ ws, c ∉ w) → c ∉ joinC d ws
  | [], _ => by simp [joinC]
  | [p], h => by simpa [joinC] using h p (by simp)
  | p :: q :: r, h => by
    rw [joinC_cons d p (by simp)]
    intro hm
    rcases List.mem_append.1 hm with h1 | h1
    · exact h p (by simp) h1
    · rcases List.mem_cons.1 h1 with h1 | h1
      · exact hcd h1
      · exact joinC_no hcd (fun w hw => h w (by simp [hw])) h1
theorem Wok.no10 {ws : List (List UInt8)} (h : Wok ws) : (10 : UInt8) ∉ joinC 32 ws := joinC_no (by decide) fun w hw => (h.2 w hw).1
theorem Wok.pcs {ws : List (List UInt8)} (h : Wok ws) : pcs 32 (joinC 32 ws) = ws := pcs_join ws h.1 fun w hw => (h.2 w hw).2
theorem pcs_lines : ∀ (L : List (List (List UInt8))) (r : List UInt8), (∀ ws ∈ L, Wok ws) → pcs 10 (L.flatMap lnT ++ r) = L.map (joinC 32) ++ pcs 10 r
  | [], r, _ => by simp
  | ws :: L, r, h => by
    have h1 := (h ws (by simp)).no10
    rw [List.flatMap_cons, List.map_cons, List.cons_append, ← pcs_lines L r (fun x hx => h x (by simp [hx]))]
    show pcs 10 (joinC 32 ws ++ [10] ++ L.flatMap lnT ++ r) = _
    rw [List.append_assoc (joinC 32 ws ++ [10]), pcs_cons_line h1]
theorem rdA_run : ∀ (L : List (List (List UInt8))) (x : SSt) (n : Nat) (q : List (List UInt8)), q ≠ [] → (∀ ws ∈ L, Wok ws) → ∀ y, runW x L = some y → rdA x n (L.map (joinC 32) ++ q) = rdA y (n + L.length) q
  | [], x, n, q, _, _, y, h => by
    have h' : x = y := Option.some.inj h
    subst h'; simp
  | ws :: L, x, n, q, hq, hw, y, h => by
    have hws := hw ws (by simp)
    rw [runW] at h
    cases hr : rdW x ws with
    | none => rw [hr] at h; cases h
    | some z =>
      rw [hr] at h
      have ih := rdA_run L z (n + 1) q hq (fun a ha => hw a (by simp [ha])) y h
      have hne : L.map (joinC 32) ++ q ≠ [] := by simp [hq]
      obtain ⟨p, r, hpr⟩ : ∃ p r, L.map (joinC 32) ++ q = p :: r := by
        cases hc : L.map (joinC 32) ++ q with
        | nil => exact absurd hc hne
        | cons p r => exact ⟨p, r, rfl⟩
      rw [List.map_cons, List.cons_append]
      rw [hpr] at ih ⊢
      rw [rdA, hws.pcs, hr]
      · show rdA z (n + 1) (p :: r) = _
        rw [ih, List.length_cons]; congr 1; omega
      · intro he; cases he
/-! ### words -/
theorem it_ok (n : Int) : (10 : UInt8) ∉ it n ∧ (32 : UInt8) ∉ it n := by
  have key : ∀ c : UInt8, c.toNat < 45 → c ∉ it n := fun c hc hm => by
    rcases itoa_bytes n c hm with h | h
    · subst h; simp at hc
    · omega
  exact ⟨key 10 (by decide), key 32 (by decide)⟩
theorem dec_ok (n : Nat) : (10 : UInt8) ∉ Lib.decDigits n ∧ (32 : UInt8) ∉ Lib.decDigits n := by
  have := it_ok (n : Int)
  unfold it at this
  rwa [Lib.itoa_nonneg] at this
theorem kind_ok (k : Nat) : (10 : UInt8) ∉ kinds9.getD k [] ∧ (32 : UInt8) ∉ kinds9.getD k [] := by
  by_cases h : k < 9
  · have : k = 0 ∨ k = 1 ∨ k = 2 ∨ k = 3 ∨ k = 4 ∨ k = 5 ∨ k = 6 ∨ k = 7 ∨ k = 8 := by omega
    rcases this with rfl | rfl | rfl | rfl | rfl | rfl | rfl | rfl | rfl <;> decide
  · rw [List.getD_eq_getElem?_getD, List.getElem?_eq_none (by simp [kinds9]; omega)]; simp
theorem wok_of {ws : List (List UInt8)} (h : ws ≠ []) (h2 : ∀ w ∈ ws, (10 : UInt8) ∉ w ∧ (32 : UInt8) ∉ w) : Wok ws := ⟨h, h2⟩
theorem ndH_ok (n : Nd) (i : Int) : Wok (ndH n i) := by
  refine ⟨by simp [ndH], fun w hw => ?_⟩
  simp only [ndH, List.mem_append, List.mem_cons, List.not_mem_nil, or_false] at hw
  rcases hw with (rfl | rfl | rfl | rfl | rfl | rfl) | hw
  · decide
  · exact it_ok _
  · decide
  · exact it_ok _
  · decide
  · exact it_ok _
  · split at hw
    · simp only [List.mem_cons, List.not_mem_nil, or_false] at hw
      rcases hw with rfl | rfl
      · decide
      · exact it_ok _
    · cases hw
theorem ndW_ok (n : Nd) (i : Int) : ∀ ws ∈ ndW n i, Wok ws := by
  intro ws h
  simp only [ndW, List.mem_append, List.mem_cons, List.not_mem_nil, or_false, List.mem_map] at h
  rcases h with ((rfl | rfl) | ⟨s, _, rfl⟩) | ⟨s, _, rfl⟩
  · exact ndH_ok n i
  · refine ⟨by simp, fun w hw => ?_⟩
    simp only [List.mem_cons, List.not_mem_nil, or_false] at hw
    rcases hw with rfl | rfl | rfl
    · decide
    · exact it_ok _
    · exact it_ok _
  · refine ⟨by simp [sgW], fun w hw => ?_⟩
    simp only [sgW, List.mem_cons, List.not_mem_nil, or_false] at hw
    rcases hw with rfl | rfl | rfl | rfl
    · decide
    all_goals exact it_ok _
  · refine ⟨by simp [svW], fun w hw => ?_⟩
    simp only [svW, List.mem_cons, List.not_mem_nil, or_false] at hw
    rcases hw with rfl | rfl | rfl
    · decide
    all_goals exact it_ok _
theorem ndsW_ok : ∀ (l : List Nd) (i : Int), ∀ ws ∈ ndsW l i, Wok ws
  | [], _, ws, h => by cases h
  | n :: r, i, ws, h => by
    rcases List.mem_append.1 h with h | h
    · exact ndW_ok n i ws h
    · exact ndsW_ok r (i + 1) ws h
theorem lkW_ok (l : Lk) : ∀ ws ∈ lkW l, Wok ws := by
  intro ws h
  simp only [lkW, List.mem_cons, List.mem_map] at h
  rcases h with rfl | ⟨c, _, rfl⟩
  · refine ⟨by simp [lkH], fun w hw => ?_⟩
    simp only [lkH, List.mem_cons, List.not_mem_nil, or_false] at hw
    rcases hw with rfl | rfl | rfl | rfl | rfl | rfl | rfl | rfl | rfl
    · decide
    all_goals first | exact it_ok _ | exact dec_ok _
  · refine ⟨by simp [chW], fun w hw => ?_⟩
    simp only [chW, List.mem_cons, List.not_mem_nil, or_false] at hw
    rcases hw with rfl | rfl | rfl | rfl | rfl | rfl
    · decide
    all_goals exact it_ok _
theorem ftW_ok (f : Ft) : Wok (ftW f) := by
  refine ⟨by simp [ftW], fun w hw => ?_⟩
  simp only [ftW, List.mem_cons, List.not_mem_nil, or_false] at hw
  rcases hw with rfl | rfl | rfl | rfl | rfl | rfl
  · decide
  · exact it_ok _
  · exact it_ok _
  · exact it_ok _
  · exact kind_ok _
  · exact it_ok _
theorem scW_ok (s : Sc) : ∀ ws ∈ scW s, Wok ws := by
  intro ws h
  simp only [scW, List.mem_append, List.mem_cons, List.not_mem_nil, or_false, List.mem_flatMap, List.mem_map] at h
  rcases h with (((rfl | rfl) | h) | ⟨l, _, h⟩) | ⟨f, _, rfl⟩
  · refine ⟨by simp, fun w hw => ?_⟩
    simp only [List.mem_cons, List.not_mem_nil, or_false] at hw
    rcases hw with rfl | rfl
    · decide
    · exact it_ok _
  · refine ⟨by simp, fun w hw => ?_⟩
    simp only [List.mem_cons, List.not_mem_nil, or_false] at hw
    rcases hw with rfl | rfl
    · decide
    · exact dec_ok _
  · exact ndsW_ok _ _ _ h
  · exact lkW_ok l _ h
  · exact ftW_ok f
/-! ### the text of a scene is read back -/
theorem natO_dec {n : Nat} (h : n ≤ 18446744073709551615) : natO (Lib.decDigits n) = some n := by
  unfold natO; rw [decFrom_decDigits]; simp [h]
theorem natO_some {l : List UInt8} {n : Nat} (h : natO l = some n) : n ≤ 18446744073709551615 ∧ Lib.decDigits n = l := by
  unfold natO at h
  cases hd : Lib.decFrom 0 l with
  | none => rw [hd] at h; cases h
  | some m =>
    rw [hd] at h
    simp only at h
    split at h
    · rename_i hm; cases h; exact hm
    · cases h
theorem nO {n : Int} (h : i64 n) : numO (it n) = some n := numO_itoa h
theorem lastN_snoc (l : List Nd) (n : Nd) (f : Nd → Nd) : lastN (l ++ [n]) f = l ++ [f n] := by simp [lastN]
theorem lastL_snoc (l : List Lk) (n : Lk) (f : Lk → Lk) : lastL (l ++ [n]) f = l ++ [f n] := by simp [lastL]
theorem i64_in {n lo hi : Int} (h : inR n lo hi = true) (h0 : -9223372036854775808 ≤ lo) (h1 : hi ≤ 9223372036854775807) : i64 n := by
  have := inR_t.1 h; exact ⟨by omega, by omega⟩
theorem rd_node {l : List Nd} {lk : List Lk} {ft : List Ft} {un sd : Int} {a : Nat} {n : Nd} {i : Int} (ha : a = 2 ∨ a = 4 ∨ a = 5) (hi : i = l.length) (i0 : i64 i) (i1 : i64 n.tol) (i2 : i64 n.st) (i3 : i64 n.er) (hr : n.rf = false → n.er = 0) :
    rdW ⟨⟨l, lk, ft, un, sd⟩, a⟩ (ndH n i) = some ⟨⟨l ++ [⟨0, [], n.tol, n.rf, n.er, n.st, []⟩], lk, ft, un, sd⟩, 3⟩ := by
  subst hi
  cases hf : n.rf with
  | false =>
    have e : ndH n l.length = [wNode, it l.length, wTol, it n.tol, wStart, it n.st] := by simp [ndH, hf]
    rw [e, rdW, if_neg (by decide), if_neg (by decide), if_pos rfl]
    simp only [rdNode, ha, and_self, if_true, numsO, nO i0, nO i1, nO i2, addN, hr hf]
  | true =>
    have e : ndH n l.length = [wNode, it l.length, wTol, it n.tol, wStart, it n.st, wRef, it n.er] := by simp [ndH, hf]
    rw [e, rdW, if_neg (by decide), if_neg (by decide), if_pos rfl]
    simp only [rdNode, ha, and_self, if_true, numsO, nO i0, nO i1, nO i2, nO i3, addN]
theorem rd_osc {l : List Nd} {m : Nd} {lk : List Lk} {ft : List Ft} {un sd p i : Int} (hi : i = l.length) (i0 : i64 i) (i1 : i64 p) :
    rdW ⟨⟨l ++ [m], lk, ft, un, sd⟩, 3⟩ [wOsc, it i, it p] = some ⟨⟨l ++ [{ m with ph := p }], lk, ft, un, sd⟩, 4⟩ := by
  subst hi
  rw [rdW, if_neg (by decide), if_neg (by decide), if_neg (by decide), if_pos (.inl rfl)]
  have h1 : 0 < (l ++ [m]).length := by simp
  have h2 : (l.length : Int) = ((l ++ [m]).length : Int) - 1 := by simp
  simp only [rdPart, numsO, nO i0, nO i1, h1, ← h2, and_self, if_true, lastN_snoc]
theorem rd_seg {l : List Nd} {m : Nd} {lk : List Lk} {ft : List Ft} {un sd i : Int} {s : Sg} (hi : i = l.length) (i0 : i64 i) (i1 : i64 s.a) (i2 : i64 s.p) :
    rdW ⟨⟨l ++ [m], lk, ft, un, sd⟩, 4⟩ (sgW i s) = some ⟨⟨l ++ [{ m with sg := m.sg ++ [s] }], lk, ft, un, sd⟩, 4⟩ := by
  subst hi
  unfold sgW
  rw [rdW, if_neg (by decide), if_neg (by decide), if_neg (by decide), if_pos (.inr (.inl rfl))]
  have h1 : 0 < (l ++ [m]).length := by simp
  have h2 : (l.length : Int) = ((l ++ [m]).length : Int) - 1 := by simp
  simp only [rdPart, numsO, nO i0, nO i1, nO i2, h1, ← h2, and_self, if_true, lastN_snoc]
theorem rd_use {l : List Nd} {m : Nd} {lk : List Lk} {ft : List Ft} {un sd i v : Int} {a : Nat} (ha : a = 4 ∨ a = 5) (hi : i = l.length) (i0 : i64 i) (i1 : i64 v) :
    rdW ⟨⟨l ++ [m], lk, ft, un, sd⟩, a⟩ (svW i v) = some ⟨⟨l ++ [{ m with sv := m.sv ++ [v] }], lk, ft, un, sd⟩, 5⟩ := by
  subst hi
  unfold svW
  rw [rdW, if_neg (by decide), if_neg (by decide), if_neg (by decide), if_pos (.inr (.inr rfl))]
  have h1 : 0 < (l ++ [m]).length := by simp
  have h2 : (l.length : Int) = ((l ++ [m]).length : Int) - 1 := by simp
  have h3 : ¬ (wUse = wOsc ∧ a = 3) := fun h => absurd h.1 (by decide)
  simp only [rdPart, numsO, nO i0, nO i1, h1, ← h2, and_self, if_true, lastN_snoc, if_neg h3, ha]
theorem run_segs {l : List Nd} {lk : List Lk} {ft : List Ft} {un sd i : Int} (hi : i = l.length) (i0 : i64 i) : ∀ (sg : List Sg) (m : Nd), (∀ s ∈ sg, i64 s.a ∧ i64 s.p) →
    runW ⟨⟨l ++ [m], lk, ft, un, sd⟩, 4⟩ (sg.map (sgW i)) = some ⟨⟨l ++ [{ m with sg := m.sg ++ sg }], lk, ft, un, sd⟩, 4⟩
  | [], m, _ => by simp [runW]
  | s :: r, m, h => by
    have hs := h s (by simp)
    rw [List.map_cons, runW, rd_seg hi i0 hs.1 hs.2]
    simp only
    rw [run_segs hi i0 r _ (fun x hx => h x (by simp [hx]))]
    simp
theorem run_svs {l : List Nd} {lk : List Lk} {ft : List Ft} {un sd i : Int} (hi : i = l.length) (i0 : i64 i) : ∀ (sv : List Int) (m : Nd) (a : Nat), (a = 4 ∨ a = 5) → (∀ s ∈ sv, i64 s) →
    ∃ b, (b = 4 ∨ b = 5) ∧ runW ⟨⟨l ++ [m], lk, ft, un, sd⟩, a⟩ (sv.map (svW i)) = some ⟨⟨l ++ [{ m with sv := m.sv ++ sv }], lk, ft, un, sd⟩, b⟩
  | [], m, a, ha, _ => ⟨a, ha, by simp [runW]⟩
  | s :: r, m, a, ha, h => by
    obtain ⟨b, hb, hr⟩ := run_svs hi i0 r { m with sv := m.sv ++ [s] } 5 (.inr rfl) (fun x hx => h x (by simp [hx]))
    refine ⟨b, hb, ?_⟩
    rw [List.map_cons, runW, rd_use ha hi i0 (h s (by simp))]
    simp only
    rw [hr]
    simp
structure NdI (n : Nd) : Prop where
  tol : i64 n.tol
  st : i64 n.st
  er : i64 n.er
  ph : i64 n.ph
  sg : ∀ s ∈ n.sg, i64 s.a ∧ i64 s.p
  sv : ∀ s ∈ n.sv, i64 s
  rf : n.rf = false → n.er = 0
theorem run_nd {l : List Nd} {lk : List Lk} {ft : List Ft} {un sd : Int} {a : Nat} {n : Nd} {i : Int} (ha : a = 2 ∨ a = 4 ∨ a = 5) (hi : i = l.length) (i0 : i64 i) (h : NdI n) :
    ∃ b, (b = 4 ∨ b = 5) ∧ runW ⟨⟨l, lk, ft, un, sd⟩, a⟩ (ndW n i) = some ⟨⟨l ++ [n], lk, ft, un, sd⟩, b⟩ := by
  obtain ⟨b, hb, hr⟩ := run_svs (lk := lk) (ft := ft) (un := un) (sd := sd) hi i0 n.sv ⟨n.ph, n.sg, n.tol, n.rf, n.er, n.st, []⟩ 4 (.inl rfl) h.sv
  refine ⟨b, hb, ?_⟩
  unfold ndW
  rw [List.append_assoc, List.cons_append, List.cons_append, runW, rd_node ha hi i0 h.tol h.st h.er h.rf]
  simp only
  rw [runW, rd_osc hi i0 h.ph]
  simp only
  rw [List.nil_append, runW_append, run_segs hi i0 n.sg _ h.sg]
  simp only [Option.bind_some, List.nil_append]
  rw [hr]
  simp
theorem run_nds {lk : List Lk} {ft : List Ft} {un sd : Int} : ∀ (r l : List Nd) (a : Nat), (a = 2 ∨ a = 4 ∨ a = 5) → (∀ n ∈ r, NdI n) → l.length + r.length ≤ 1000 →
    ∃ b, (b = 2 ∨ b = 4 ∨ b = 5) ∧ runW ⟨⟨l, lk, ft, un, sd⟩, a⟩ (ndsW r l.length) = some ⟨⟨l ++ r, lk, ft, un, sd⟩, b⟩
  | [], l, a, ha, _, _ => ⟨a, ha, by simp [ndsW, runW]⟩
  | n :: r, l, a, ha, h, hl => by
    simp only [List.length_cons] at hl
    obtain ⟨b, hb, h1⟩ := run_nd (lk := lk) (ft := ft) (un := un) (sd := sd) (i := l.length) ha rfl ⟨by omega, by omega⟩ (h n (by simp))
    obtain ⟨c, hc, h2⟩ := run_nds (lk := lk) (ft := ft) (un := un) (sd := sd) r (l ++ [n]) b (.inr hb) (fun x hx => h x (by simp [hx])) (by simp; omega)
    refine ⟨c, hc, ?_⟩
    rw [ndsW, runW_append, h1]
    simp only [Option.bind_some]
    rw [List.length_append, List.length_cons, List.length_nil] at h2
    rw [show ((l.length : Int) + 1) = ((l.length + (0 + 1) : Nat) : Int) by omega, h2]
    simp
structure LkI (l : Lk) : Prop where
  A : i64 l.A
  B : i64 l.B
  d0 : i64 l.d0
  d1 : i64 l.d1
  v0 : i64 l.v0
  v1 : i64 l.v1
  lo : i64 l.lo
  sd : 0 ≤ l.sd ∧ l.sd ≤ 18446744073709551615
  ch : ∀ c ∈ l.ch, i64 c.a ∧ i64 c.d ∧ i64 c.y
theorem run_chs {nd : List Nd} {l : List Lk} {ft : List Ft} {un sd : Int} : ∀ (ch : List Ch) (m m0 : Lk), m.A = m0.A → m.B = m0.B → i64 m.A → i64 m.B → (∀ c ∈ ch, i64 c.a ∧ i64 c.d ∧ i64 c.y) →
    runW ⟨⟨nd, l ++ [m], ft, un, sd⟩, 6⟩ (ch.map (chW m0)) = some ⟨⟨nd, l ++ [{ m with ch := m.ch ++ ch }], ft, un, sd⟩, 6⟩
  | [], m, m0, _, _, _, _, _ => by simp [runW]
  | c :: r, m, m0, hA, hB, iA, iB, h => by
    have hc := h c (by simp)
    have h1 : rdW ⟨⟨nd, l ++ [m], ft, un, sd⟩, 6⟩ (chW m0 c) = some ⟨⟨nd, l ++ [{ m with ch := m.ch ++ [c] }], ft, un, sd⟩, 6⟩ := by
      unfold chW
      rw [rdW, if_neg (by decide), if_neg (by decide), if_neg (by decide), if_neg (by decide), if_neg (by decide), if_pos rfl]
      rw [← hA, ← hB]
      simp only [rdChange, if_true, numsO, nO iA, nO iB, nO hc.1, nO hc.2.1, nO hc.2.2, List.getLast?_append, List.getLast?_singleton, Option.some_or, and_self, lastL_snoc]
    rw [List.map_cons, runW, h1]
    simp only
    rw [run_chs r { m with ch := m.ch ++ [c] } m0 hA hB iA iB (fun x hx => h x (by simp [hx]))]
    simp
theorem run_lk {nd : List Nd} {l : List Lk} {ft : List Ft} {un sd : Int} {a : Nat} {k : Lk} (ha : whole a = true ∧ a ≠ 7) (h : LkI k) : runW ⟨⟨nd, l, ft, un, sd⟩, a⟩ (lkW k) = some ⟨⟨nd, l ++ [k], ft, un, sd⟩, 6⟩ := by
  have h1 : rdW ⟨⟨nd, l, ft, un, sd⟩, a⟩ (lkH k) = some ⟨⟨nd, l ++ [⟨k.A, k.B, k.d0, k.d1, k.v0, k.v1, k.lo, k.sd, []⟩], ft, un, sd⟩, 6⟩ := by
    unfold lkH
    rw [rdW, if_neg (by decide), if_neg (by decide), if_neg (by decide), if_neg (by decide), if_pos rfl]
    simp only [rdLink, if_pos ha, numsO, nO h.A, nO h.B, nO h.d0, nO h.d1, nO h.v0, nO h.v1, nO h.lo, natO_dec (n := k.sd.toNat) (by have := h.sd; omega), Option.map_some]
    rw [show ((k.sd.toNat : Nat) : Int) = k.sd by have := h.sd; omega]
  unfold lkW
  rw [runW, h1]
  simp only
  rw [run_chs k.ch ⟨k.A, k.B, k.d0, k.d1, k.v0, k.v1, k.lo, k.sd, []⟩ k rfl rfl h.A h.B h.ch]
  simp
theorem run_lks {nd : List Nd} {ft : List Ft} {un sd : Int} : ∀ (r l : List Lk) (a : Nat), (whole a = true ∧ a ≠ 7) → (∀ k ∈ r, LkI k) → ∃ b, (whole b = true ∧ b ≠ 7) ∧ runW ⟨⟨nd, l, ft, un, sd⟩, a⟩ (r.flatMap lkW) = some ⟨⟨nd, l ++ r, ft, un, sd⟩, b⟩
  | [], l, a, ha, _ => ⟨a, ha, by simp [runW]⟩
  | k :: r, l, a, ha, h => by
    obtain ⟨b, hb, h2⟩ := run_lks (nd := nd) (ft := ft) (un := un) (sd := sd) r (l ++ [k]) 6 ⟨by decide, by decide⟩ (fun x hx => h x (by simp [hx]))
    refine ⟨b, hb, ?_⟩
    rw [List.flatMap_cons, runW_append, run_lk ha (h k (by simp))]
    simp only [Option.bind_some]
    rw [h2]; simp
structure FtI (q : Ft) : Prop where
  n : i64 q.n
  f : i64 q.f
  t : i64 q.t
  v : i64 q.v
  k : 1 ≤ q.k ∧ q.k ≤ 9
theorem run_fts {nd : List Nd} {lk : List Lk} {un sd : Int} : ∀ (r l : List Ft) (a : Nat), whole a = true → (∀ k ∈ r, FtI k) → ∃ b, whole b = true ∧ runW ⟨⟨nd, lk, l, un, sd⟩, a⟩ (r.map ftW) = some ⟨⟨nd, lk, l ++ r, un, sd⟩, b⟩
  | [], l, a, ha, _ => ⟨a, ha, by simp [runW]⟩
  | k :: r, l, a, ha, h => by
    obtain ⟨b, hb, h2⟩ := run_fts (nd := nd) (lk := lk) (un := un) (sd := sd) r (l ++ [k]) 7 (by decide) (fun x hx => h x (by simp [hx]))
    have hk := h k (by simp)
    have hid : ∃ j : Nat, idxW (kinds9.getD (k.k - 1).toNat []) kinds9 1 = some j ∧ (j : Int) = k.k := by
      have := hk.k
      obtain ⟨q, hq, hqk⟩ : ∃ q : Nat, q < 9 ∧ k.k = (q : Int) + 1 := ⟨(k.k - 1).toNat, by omega, by omega⟩
      rw [hqk, show ((q : Int) + 1 - 1).toNat = q by omega]
      have h9 : q = 0 ∨ q = 1 ∨ q = 2 ∨ q = 3 ∨ q = 4 ∨ q = 5 ∨ q = 6 ∨ q = 7 ∨ q = 8 := by omega
      refine ⟨q + 1, ?_, by omega⟩
      rcases h9 with rfl | rfl | rfl | rfl | rfl | rfl | rfl | rfl | rfl <;> decide
    obtain ⟨j, hj, hjk⟩ := hid
    have h1 : rdW ⟨⟨nd, lk, l, un, sd⟩, a⟩ (ftW k) = some ⟨⟨nd, lk, l ++ [k], un, sd⟩, 7⟩ := by
      unfold ftW
      rw [rdW, if_neg (by decide), if_neg (by decide), if_neg (by decide), if_neg (by decide), if_neg (by decide), if_neg (by decide), if_pos rfl]
      simp only [rdFault, if_pos ha, numsO, nO hk.n, nO hk.f, nO hk.t, nO hk.v, hj, Option.map_some, hjk]
    refine ⟨b, hb, ?_⟩
    rw [List.map_cons, runW, h1]
    simp only
    rw [h2]; simp
structure ScI (s : Sc) : Prop where
  nd : ∀ n ∈ s.nd, NdI n
  lk : ∀ l ∈ s.lk, LkI l
  ft : ∀ f ∈ s.ft, FtI f
  un : i64 s.un
  sd : 0 ≤ s.sd ∧ s.sd ≤ 18446744073709551615
  le : s.nd.length ≤ 1000
theorem run_sc {s : Sc} (h : ScI s) : ∃ b, whole b = true ∧ runW ss0 (scW s) = some ⟨s, b⟩ := by
  obtain ⟨b, hb, h1⟩ := run_nds (lk := []) (ft := []) (un := s.un) (sd := s.sd) s.nd [] 2 (.inl rfl) h.nd (by have := h.le; simp; omega)
  obtain ⟨c, hc, h2⟩ := run_lks (nd := s.nd) (ft := []) (un := s.un) (sd := s.sd) s.lk [] b (by rcases hb with rfl | rfl | rfl <;> decide) h.lk
  obtain ⟨d, hd, h3⟩ := run_fts (nd := s.nd) (lk := s.lk) (un := s.un) (sd := s.sd) s.ft [] c hc.1 h.ft
  refine ⟨d, hd, ?_⟩
  unfold scW
  rw [List.append_assoc, List.append_assoc, List.cons_append, List.cons_append, List.nil_append, runW]
  have u1 : rdW ss0 [wUntil, it s.un] = some ⟨⟨[], [], [], s.un, 0⟩, 1⟩ := by
    rw [rdW, if_pos rfl]; simp only [rdUntil, ss0, sc0, if_true, nO h.un, Option.map_some]
  have u2 : rdW ⟨⟨[], [], [], s.un, 0⟩, 1⟩ [wSeed, Lib.decDigits s.sd.toNat] = some ⟨⟨[], [], [], s.un, s.sd⟩, 2⟩ := by
    rw [rdW, if_neg (by decide), if_pos rfl]
    simp only [rdSeed, if_true, natO_dec (n := s.sd.toNat) (by have := h.sd; omega), Option.map_some]
    rw [show ((s.sd.toNat : Nat) : Int) = s.sd by have := h.sd; omega]
  rw [u1]
  simp only
  rw [runW, u2]
  simp only
  simp only [List.length_nil, Int.ofNat_zero, List.nil_append] at h1
  rw [runW_append, h1]
  simp only [Option.bind_some]
  rw [runW_append, h2]
  simp only [Option.bind_some, List.nil_append]
  rw [h3]
  simp
/-! ### what a valid scene is -/
theorem if_ne {c : Prop} [Decidable c] {a b : Int} (h : (if c then a else b) = 0) (ha : a ≠ 0) : ¬ c ∧ b = 0 := by
  by_cases hc : c
  · rw [if_pos hc] at h; exact absurd h ha
  · rw [if_neg hc] at h; exact ⟨hc, h⟩
theorem if_eq {c : Prop} [Decidable c] {a b : Int} (h : (if c then a else b) = 0) (hb : b ≠ 0) : c ∧ a = 0 := by
  by_cases hc : c
  · rw [if_pos hc] at h; exact ⟨hc, h⟩
  · rw [if_neg hc] at h; exact absurd h hb
theorem if_self {a b : Int} (h : (if a = 0 then b else a) = 0) : a = 0 ∧ b = 0 := by
  by_cases hc : a = 0
  · rw [if_pos hc] at h; exact ⟨hc, h⟩
  · rw [if_neg hc] at h; exact absurd h hc
theorem sgE_ok {l : List Sg} {i : Nat} (h : sgE l i = 0) : inR (l.getD i sg0).a 0 1125899906842624 = true ∧ inR (l.getD i sg0).p (-500000) 500000 = true := (if_eq h (by decide)).1
theorem oscE_ok {ph : Int} {l : List Sg} (h : oscE ph l = 0) : inR ph (-1125899906842624) 1125899906842624 = true ∧ 0 < l.length ∧ l.length ≤ 16 ∧ ∀ i, i < l.length → sgE l i = 0 := by
  obtain ⟨h1, h⟩ := if_ne h (by decide)
  obtain ⟨h2, h⟩ := if_ne h (by decide)
  obtain ⟨h3, h⟩ := if_eq h (by decide)
  exact ⟨h3, by omega, by omega, fun i hi => fe_ok.1 h i (Nat.zero_le _) (by omega)⟩
theorem mem_getD {α : Type} {l : List α} {x z : α} (h : x ∈ l) : ∃ i, i < l.length ∧ l.getD i z = x := by
  obtain ⟨i, hi, rfl⟩ := List.getElem_of_mem h
  exact ⟨i, hi, by simp [List.getD_eq_getElem?_getD, hi]⟩
structure NdOk (n : Nd) (i nodes : Int) : Prop where
  osc : oscE n.ph n.sg = 0
  tol : inR n.tol 0 500000 = true
  bnd : oscB n.ph n.sg ≤ n.tol
  er : inR n.er 0 1125899906842624 = true
  er0 : n.er = 0 ∨ n.rf = true
  form : n.rf = true → n.sv = []
  len : n.sv.length ≤ 12
  sv : ∀ k, k < n.sv.length → svE n.sv i nodes k = 0
  st : inR n.st 0 1125899906842624 = true
theorem ndE_ok {n : Nd} {i nodes : Int} (h : ndE n i nodes = 0) : NdOk n i nodes := by
  obtain ⟨h1, h⟩ := if_self h
  obtain ⟨h2, h⟩ := if_eq h (by decide)
  obtain ⟨h3, h⟩ := if_ne h (by decide)
  obtain ⟨h4, h⟩ := if_eq h (by decide)
  obtain ⟨h5, h⟩ := if_ne h (by decide)
  obtain ⟨h6, h⟩ := if_ne h (by decide)
  obtain ⟨h7, h⟩ := if_self h
  obtain ⟨h8, _⟩ := if_eq h (by decide)
  exact ⟨h1, h2, by omega, h4.1, h4.2, fun hr => Decidable.byContradiction fun hn => h5 ⟨hr, List.length_pos_iff.2 hn⟩, by omega, fun k hk => fe_ok.1 h7 k (Nat.zero_le _) (by omega), h8⟩
theorem svE_ok {l : List Int} {a b : Int} {i : Nat} (h : svE l a b i = 0) : inR (l.getD i 0) 0 (b - 1) = true ∧ l.getD i 0 ≠ a := by
  obtain ⟨h1, h⟩ := if_eq h (by decide)
  exact ⟨h1, (if_ne h (by decide)).1⟩
structure LkOk (l : List Lk) (nodes : Int) (i : Nat) : Prop where
  A : inR (l.getD i lk0).A 0 (nodes - 1) = true
  B : inR (l.getD i lk0).B 0 (nodes - 1) = true
  lt : (l.getD i lk0).A < (l.getD i lk0).B
  tw : twin (l.take i) (l.getD i lk0) = false
  lk : linkE (l.getD i lk0) = 0
theorem leE_ok {l : List Lk} {nodes : Int} {i : Nat} (h : leE l nodes i = 0) : LkOk l nodes i := by
  obtain ⟨h1, h⟩ := if_eq h (by decide)
  obtain ⟨h2, h⟩ := if_ne h (by decide)
  obtain ⟨h3, h⟩ := if_ne h (by decide)
  exact ⟨h1.1, h1.2, by omega, by simpa using h3, h⟩
theorem linkE_ok {l : Lk} (h : linkE l = 0) : lkR l = true ∧ l.ch.all chR = true := by
  obtain ⟨h1, h⟩ := if_eq h (by decide)
  exact ⟨h1, (if_eq h (by decide)).1⟩
theorem ftE_ok {f : Ft} (h : ftE f = 0) : (inR f.n 0 23 = true ∧ inR f.f 0 1125899906842624 = true ∧ inR f.t 0 1125899906842624 = true) ∧ inR f.k 1 9 = true ∧ fits f.k f.v = true := by
  obtain ⟨h1, h⟩ := if_eq h (by decide)
  obtain ⟨_, h⟩ := if_ne h (by decide)
  obtain ⟨h2, h⟩ := if_eq h (by decide)
  exact ⟨h1, h2, (if_eq h (by decide)).1⟩
structure ScOk (s : Sc) : Prop where
  n0 : 0 < s.nd.length
  n1 : s.nd.length ≤ 24
  l1 : s.lk.length ≤ 64
  nd : ∀ i, i < s.nd.length → NdOk (s.nd.getD i nd0) i s.nd.length
  lk : ∀ i, i < s.lk.length → LkOk s.lk s.nd.length i
  jn : ∀ i, i < s.nd.length → (s.nd.getD i nd0).sv.all (fun v => (lnk s.lk i v).isSome) = true
  fc : fcE s.ft = 0
  ft : ∀ f ∈ s.ft, ftE f = 0
  fl : s.ft.length ≤ 32
  un : inR s.un 1 1125899906842624 = true
theorem chkS_ok {s : Sc} (h : chkS s = 0) : ScOk s := by
  obtain ⟨h1, h⟩ := if_ne h (by decide)
  obtain ⟨h2, h⟩ := if_ne h (by decide)
  obtain ⟨h3, h⟩ := if_self h
  obtain ⟨h4, h⟩ := if_self h
  obtain ⟨h5, h⟩ := if_eq h (by decide)
  obtain ⟨h6, h⟩ := if_self h
  obtain ⟨_, h⟩ := if_eq h (by decide)
  obtain ⟨h8, _⟩ := if_eq h (by decide)
  obtain ⟨h9, h10⟩ := if_ne (c := 32 < s.ft.length) h6 (by decide)
  refine ⟨by omega, by omega, by omega, fun i hi => ndE_ok (fe_ok.1 h3 i (Nat.zero_le _) (by omega)), fun i hi => leE_ok (fe_ok.1 h4 i (Nat.zero_le _) (by omega)), fun i hi => ?_, h6, fun f hf => ?_, by omega, h8⟩
  · exact (if_eq (fe_ok.1 h5 i (Nat.zero_le _) (by omega)) (by decide)).1
  · obtain ⟨i, hi, rfl⟩ := mem_getD (z := ft0) hf
    exact fe_ok.1 h10 i (Nat.zero_le _) (by omega)
theorem fits_i64 {k v : Int} (h : fits k v = true) : i64 v := by
  unfold fits at h
  split at h
  · exact i64_in h (by decide) (by decide)
  · split at h
    · exact i64_in h (by decide) (by decide)
    · split at h
      · exact i64_in h (by decide) (by decide)
      · split at h
        · exact i64_in h (by decide) (by decide)
        · have : v = 0 := by simpa using h
          subst this; exact ⟨by decide, by decide⟩
/-- the seeds are naturals of 64 bits -/
def SdOk (s : Sc) : Prop := (0 ≤ s.sd ∧ s.sd ≤ 18446744073709551615) ∧ ∀ l ∈ s.lk, 0 ≤ l.sd ∧ l.sd ≤ 18446744073709551615
theorem scI_of {s : Sc} (h : chkS s = 0) (hs : SdOk s) : ScI s := by
  have ho := chkS_ok h
  have hn0 := ho.n0; have hn1 := ho.n1
  refine ⟨fun n hn => ?_, fun l hl => ?_, fun f hf => ?_, i64_in ho.un (by decide) (by decide), hs.1, by omega⟩
  · obtain ⟨i, hi, rfl⟩ := mem_getD (z := nd0) hn
    have q := ho.nd i hi
    have qo := oscE_ok q.osc
    refine ⟨i64_in q.tol (by decide) (by decide), i64_in q.st (by decide) (by decide), i64_in q.er (by decide) (by decide), i64_in qo.1 (by decide) (by decide), fun s hs => ?_, fun v hv => ?_, fun hr => ?_⟩
    · obtain ⟨j, hj, rfl⟩ := mem_getD (z := sg0) hs
      have := sgE_ok (qo.2.2.2 j hj)
      exact ⟨i64_in this.1 (by decide) (by decide), i64_in this.2 (by decide) (by decide)⟩
    · obtain ⟨j, hj, rfl⟩ := mem_getD (z := 0) hv
      exact i64_in (svE_ok (q.sv j hj)).1 (by decide) (by omega)
    · rcases q.er0 with h | h
      · exact h
      · rw [hr] at h; cases h
  · have hsd := hs.2 l hl
    obtain ⟨i, hi, rfl⟩ := mem_getD (z := lk0) hl
    have q := ho.lk i hi
    obtain ⟨q1, q2⟩ := linkE_ok q.lk
    simp only [lkR, Bool.and_eq_true] at q1
    obtain ⟨⟨r0, r1⟩, ⟨r2, r3⟩, r4⟩ := q1
    refine ⟨i64_in q.A (by decide) (by omega), i64_in q.B (by decide) (by omega), i64_in r0 (by decide) (by decide), i64_in r1 (by decide) (by decide), i64_in r2 (by decide) (by decide), i64_in r3 (by decide) (by decide), i64_in r4 (by decide) (by decide), hsd, fun c hc => ?_⟩
    have := List.all_eq_true.1 q2 c hc
    simp only [chR, Bool.and_eq_true] at this
    exact ⟨i64_in this.1 (by decide) (by decide), i64_in this.2.1 (by decide) (by decide), i64_in this.2.2 (by decide) (by decide)⟩
  · obtain ⟨⟨q1, q2, q3⟩, q4, q5⟩ := ftE_ok (ho.ft f hf)
    exact ⟨i64_in q1 (by decide) (by decide), i64_in q2 (by decide) (by decide), i64_in q3 (by decide) (by decide), fits_i64 q5, inR_t.1 q4⟩
theorem pcs_scT (s : Sc) : pcs 10 (scT s) = (scW s).map (joinC 32) ++ [[]] := by
  have := pcs_lines (scW s) [] (scW_ok s)
  rw [List.append_nil] at this
  exact this
/-- a valid scene is read back from its text -/
theorem back_sc {s : Sc} (h : chkS s = 0) (hs : SdOk s) : prsS (scT s) = (s, 0, 0) := by
  obtain ⟨b, hb, hr⟩ := run_sc (scI_of h hs)
  unfold prsS
  rw [pcs_scT, rdA_run (scW s) ss0 1 [[]] (by simp) (scW_ok s) _ hr]
  simp only [rdA, hb, and_self, if_true, h]
/-! ### no error of a scene is that of a text -/
theorem fe_ne {f : Nat → Int} {e : Int} (h0 : e ≠ 0) (h : ∀ i, f i ≠ e) : ∀ k i, fe f k i ≠ e
  | 0, _ => by simp [fe]; omega
  | k + 1, i => by
    unfold fe
    split
    · exact fe_ne h0 h k (i + 1)
    · exact h i
theorem ite_ne {c : Prop} [Decidable c] {a b e : Int} (ha : a ≠ e) (hb : b ≠ e) : (if c then a else b) ≠ e := by
  split
  · exact ha
  · exact hb
theorem chkS_ne (s : Sc) : chkS s ≠ 19 := by
  have ho : ∀ ph l, oscE ph l ≠ 19 := fun ph l => ite_ne (by decide) (ite_ne (by decide) (ite_ne (fe_ne (by decide) (fun i => ite_ne (ite_ne (by decide) (ite_ne (by decide) (by decide))) (by decide)) _ _) (by decide)))
  have hl : ∀ l, linkE l ≠ 19 := fun l => ite_ne (ite_ne (ite_ne (by decide) (fe_ne (by decide) (fun i => ite_ne (by decide) (by decide)) _ _)) (by decide)) (by decide)
  have hsv : ∀ l a b k i, fe (svE l a b) k i ≠ 19 := fun l a b k i => fe_ne (by decide) (fun j => ite_ne (ite_ne (by decide) (ite_ne (by decide) (by decide))) (by decide)) k i
  have hn : ∀ n i m, ndE n i m ≠ 19 := fun n i m => ite_ne (ite_ne (ite_ne (by decide) (ite_ne (ite_ne (by decide) (ite_ne (by decide) (ite_ne (ite_ne (by decide) (by decide)) (hsv _ _ _ _ _)))) (by decide))) (by decide)) (ho _ _)
  have he : ∀ l m i, leE l m i ≠ 19 := fun l m i => ite_ne (ite_ne (by decide) (ite_ne (by decide) (hl _))) (by decide)
  have hf : fcE s.ft ≠ 19 := ite_ne (by decide) (fe_ne (by decide) (fun i => ite_ne (ite_ne (by decide) (ite_ne (ite_ne (by decide) (by decide)) (by decide))) (by decide)) _ _)
  exact ite_ne (by decide) (ite_ne (by decide) (ite_ne (ite_ne (ite_ne (ite_ne (ite_ne (ite_ne (by decide) (by decide)) (by decide)) hf) (by decide)) (fe_ne (by decide) (he _ _) _ _)) (fe_ne (by decide) (fun i => hn _ _ _) _ _)))
/-! ### what is read has just this text -/
theorem num_it {a : List UInt8} {n : Int} (h : numO a = some n) : a = it n := (numO_some h).2.symm
theorem numsO_it : ∀ {r : List (List UInt8)} {ns : List Int}, numsO r = some ns → r = ns.map it
  | [], ns, h => by cases h; rfl
  | x :: r, ns, h => by
    cases hx : numO x with
    | none => simp [numsO, hx] at h
    | some n =>
      cases hr : numsO r with
      | none => simp [numsO, hx, hr] at h
      | some m => simp [numsO, hx, hr] at h; subst h; simp [num_it hx, numsO_it hr]
theorem until_inv {x y : SSt} {r : List (List UInt8)} (h : rdUntil x r = some y) : ∃ n, r = [it n] ∧ x.at_ = 0 ∧ y = ⟨{ x.sc with un := n }, 1⟩ := by
  unfold rdUntil at h
  split at h
  · rename_i a
    split at h
    · rename_i h0
      cases hn : numO a with
      | none => rw [hn] at h; cases h
      | some n => rw [hn] at h; exact ⟨n, by rw [num_it hn], h0, (Option.some.inj h).symm⟩
    · cases h
  · cases h
theorem seed_inv {x y : SSt} {r : List (List UInt8)} (h : rdSeed x r = some y) : ∃ n : Nat, r = [Lib.decDigits n] ∧ x.at_ = 1 ∧ y = ⟨{ x.sc with sd := (n : Int) }, 2⟩ ∧ n ≤ 18446744073709551615 := by
  unfold rdSeed at h
  split at h
  · rename_i a
    split at h
    · rename_i h0
      cases hn : natO a with
      | none => rw [hn] at h; cases h
      | some n => rw [hn] at h; exact ⟨n, by rw [(natO_some hn).2], h0, (Option.some.inj h).symm, (natO_some hn).1⟩
    · cases h
  · cases h
theorem node_inv {x y : SSt} {r : List (List UInt8)} (h : rdNode x r = some y) : ∃ n : Nd, wNode :: r = ndH n x.sc.nd.length ∧ (x.at_ = 2 ∨ x.at_ = 4 ∨ x.at_ = 5) ∧ y = addN x n ∧ n.ph = 0 ∧ n.sg = [] ∧ n.sv = [] := by
  unfold rdNode at h
  split at h
  · rename_i i w2 t w4 s
    split at h
    · rename_i hc
      cases hn : numsO [i, t, s] with
      | none => rw [hn] at h; cases h
      | some ns =>
        rw [hn] at h
        have hm := numsO_it hn
        rcases ns with _ | ⟨a, _ | ⟨b, _ | ⟨c, _ | ⟨d, r⟩⟩⟩⟩
        · cases h
        · cases h
        · cases h
        · simp only at h
          split at h
          · rename_i ha
            simp only [List.map_cons, List.map_nil, List.cons.injEq, and_true] at hm
            obtain ⟨rfl, rfl, rfl⟩ := hm
            exact ⟨⟨0, [], b, false, 0, c, []⟩, by simp [ndH, hc.2.1, hc.2.2, ha], hc.1, (Option.some.inj h).symm, rfl, rfl, rfl⟩
          · cases h
        · cases h
    · cases h
  · rename_i i w2 t w4 s w6 e
    split at h
    · rename_i hc
      cases hn : numsO [i, t, s] with
      | none => rw [hn] at h; cases h
      | some ns =>
        rw [hn] at h
        have hm := numsO_it hn
        rcases ns with _ | ⟨a, _ | ⟨b, _ | ⟨c, _ | ⟨d, r⟩⟩⟩⟩
        · cases h
        · cases h
        · cases h
        · simp only at h
          split at h
          · rename_i ha
            cases he : numO e with
            | none => rw [he] at h; cases h
            | some d =>
              rw [he] at h
              simp only at h
              split at h
              · rename_i h6
                simp only [List.map_cons, List.map_nil, List.cons.injEq, and_true] at hm
                obtain ⟨rfl, rfl, rfl⟩ := hm
                exact ⟨⟨0, [], b, true, d, c, []⟩, by simp [ndH, hc.2.1, hc.2.2, ha, h6, num_it he], hc.1, (Option.some.inj h).symm, rfl, rfl, rfl⟩
              · cases h
          · cases h
        · cases h
    · cases h
  · cases h
theorem snoc_of {α : Type} {l : List α} (h : 0 < l.length) : ∃ r m, l = r ++ [m] := by
  have hn : l ≠ [] := List.length_pos_iff.1 h
  exact ⟨l.dropLast, l.getLast hn, (List.dropLast_concat_getLast hn).symm⟩
/-- a line of the last node -/
theorem part_inv {x y : SSt} {w : List UInt8} {r : List (List UInt8)} (h : rdPart x w r = some y) : ∃ l m, x.sc.nd = l ++ [m] ∧
    ((∃ a, w = wOsc ∧ x.at_ = 3 ∧ r = [it l.length, it a] ∧ y = ⟨{ x.sc with nd := l ++ [{ m with ph := a }] }, 4⟩) ∨
     (∃ a, w = wUse ∧ (x.at_ = 4 ∨ x.at_ = 5) ∧ r = [it l.length, it a] ∧ y = ⟨{ x.sc with nd := l ++ [{ m with sv := m.sv ++ [a] }] }, 5⟩) ∨
     (∃ s : Sg, w = wSeg ∧ x.at_ = 4 ∧ r = [it l.length, it s.a, it s.p] ∧ y = ⟨{ x.sc with nd := l ++ [{ m with sg := m.sg ++ [s] }] }, 4⟩)) := by
  unfold rdPart at h
  cases hn : numsO r with
  | none => rw [hn] at h; cases h
  | some ns =>
    rw [hn] at h
    have hm := numsO_it hn
    rcases ns with _ | ⟨k, ns⟩
    · cases h
    · simp only at h
      split at h
      · rename_i hc
        obtain ⟨l, m, hl⟩ := snoc_of hc.1
        have hk : k = (l.length : Int) := by rw [hc.2, hl]; simp
        refine ⟨l, m, hl, ?_⟩
        rw [hl] at h
        simp only [lastN_snoc] at h
        rcases ns with _ | ⟨a, _ | ⟨p, _ | ⟨q, t⟩⟩⟩
        · cases h
        · simp only at h
          simp only [List.map_cons, List.map_nil] at hm
          split at h
          · rename_i h1
            exact .inl ⟨a, h1.1, h1.2, by rw [hm, hk], (Option.some.inj h).symm⟩
          · split at h
            · rename_i h1
              exact .inr (.inl ⟨a, h1.1, h1.2, by rw [hm, hk], (Option.some.inj h).symm⟩)
            · cases h
        · simp only at h
          simp only [List.map_cons, List.map_nil] at hm
          split at h
          · rename_i h1
            exact .inr (.inr ⟨⟨a, p⟩, h1.1, h1.2, by rw [hm, hk], (Option.some.inj h).symm⟩)
          · cases h
        · cases h
      · cases h
theorem link_inv {x y : SSt} {r : List (List UInt8)} (h : rdLink x r = some y) : ∃ k : Lk, wLink :: r = lkH k ∧ (whole x.at_ = true ∧ x.at_ ≠ 7) ∧ y = ⟨{ x.sc with lk := x.sc.lk ++ [k] }, 6⟩ ∧ k.ch = [] ∧ 0 ≤ k.sd ∧ k.sd ≤ 18446744073709551615 := by
  unfold rdLink at h
  split at h
  · rename_i a b c d e f g i
    split at h
    · rename_i hc
      cases hn : numsO [a, b, c, d, e, f, g] with
      | none => rw [hn] at h; cases h
      | some ns =>
        rw [hn] at h
        have hm := numsO_it hn
        have hl : ns.length = 7 := by have := congrArg List.length hm; simp at this; omega
        match ns, hl with
        | [a', b', c', d', e', f', g'], _ =>
          simp only at h
          cases hd : natO i with
          | none => rw [hd] at h; cases h
          | some n =>
            rw [hd] at h
            simp only [List.map_cons, List.map_nil, List.cons.injEq, and_true] at hm
            obtain ⟨rfl, rfl, rfl, rfl, rfl, rfl, rfl⟩ := hm
            have hdn := natO_some hd
            exact ⟨⟨a', b', c', d', e', f', g', n, []⟩, by simp [lkH, hdn.2], hc, (Option.some.inj h).symm, rfl, by simp, by simp; omega⟩
    · cases h
  · cases h
theorem change_inv {x y : SSt} {r : List (List UInt8)} (h : rdChange x r = some y) : ∃ l k c, x.sc.lk = l ++ [k] ∧ x.at_ = 6 ∧ wChange :: r = chW k c ∧ y = ⟨{ x.sc with lk := l ++ [{ k with ch := k.ch ++ [c] }] }, 6⟩ := by
  unfold rdChange at h
  split at h
  · rename_i h6
    cases hn : numsO r with
    | none => rw [hn] at h; cases h
    | some ns =>
      rw [hn] at h
      have hm := numsO_it hn
      rcases ns with _ | ⟨a, _ | ⟨b, _ | ⟨t, _ | ⟨d, _ | ⟨y', _ | ⟨z, q⟩⟩⟩⟩⟩⟩
      · cases h
      · cases h
      · cases h
      · cases h
      · cases h
      · simp only at h
        cases hg : x.sc.lk.getLast? with
        | none => rw [hg] at h; cases h
        | some k =>
          rw [hg] at h
          simp only at h
          split at h
          · rename_i hab
            have hpos : 0 < x.sc.lk.length := by
              cases hl : x.sc.lk with
              | nil => rw [hl] at hg; cases hg
              | cons p q => simp
            obtain ⟨l, k', hl⟩ := snoc_of hpos
            have hkk : k' = k := by rw [hl] at hg; simpa using hg
            subst hkk
            rw [hl, lastL_snoc] at h
            refine ⟨l, k', ⟨t, d, y'⟩, hl, h6, ?_, (Option.some.inj h).symm⟩
            rw [hm]; simp [chW, hab.1, hab.2]
          · cases h
      · cases h
  · cases h
theorem idxW_some {w : List UInt8} : ∀ {l : List (List UInt8)} {i k : Nat}, idxW w l i = some k → i ≤ k ∧ l.getD (k - i) [] = w ∧ k - i < l.length
  | [], i, k, h => by cases h
  | x :: r, i, k, h => by
    unfold idxW at h
    split at h
    · rename_i hx
      cases h
      exact ⟨Nat.le_refl _, by simp [hx], by simp⟩
    · obtain ⟨h1, h2, h3⟩ := idxW_some h
      refine ⟨by omega, ?_, by simp; omega⟩
      rw [show k - i = (k - (i + 1)) + 1 by omega]
      simpa using h2
theorem fault_inv {x y : SSt} {r : List (List UInt8)} (h : rdFault x r = some y) : ∃ f : Ft, wFault :: r = ftW f ∧ whole x.at_ = true ∧ y = ⟨{ x.sc with ft := x.sc.ft ++ [f] }, 7⟩ := by
  unfold rdFault at h
  split at h
  · rename_i a b c w d
    split at h
    · rename_i hc
      cases hn : numsO [a, b, c, d] with
      | none => rw [hn] at h; cases h
      | some ns =>
        rw [hn] at h
        have hm := numsO_it hn
        have hl : ns.length = 4 := by have := congrArg List.length hm; simp at this; omega
        match ns, hl with
        | [a', b', c', d'], _ =>
          simp only at h
          cases hi : idxW w kinds9 1 with
          | none => rw [hi] at h; cases h
          | some k =>
            rw [hi] at h
            simp only [List.map_cons, List.map_nil, List.cons.injEq, and_true] at hm
            obtain ⟨rfl, rfl, rfl, rfl⟩ := hm
            obtain ⟨k1, k2, _⟩ := idxW_some hi
            refine ⟨⟨a', b', c', k, d'⟩, ?_, hc, (Option.some.inj h).symm⟩
            simp only [ftW]
            rw [show ((k : Int) - 1).toNat = k - 1 by omega, k2]
    · cases h
  · cases h
theorem ndsW_append : ∀ (l r : List Nd) (i : Int), ndsW (l ++ r) i = ndsW l i ++ ndsW r (i + l.length)
  | [], r, i => by simp [ndsW]
  | n :: l, r, i => by
    rw [List.cons_append, ndsW, ndsW, ndsW_append l r (i + 1), List.append_assoc, List.length_cons]
    congr 3
    omega
/-- what holds of what has been read -/
structure SIn (x : SSt) : Prop where
  le : x.at_ ≤ 7
  lf : x.at_ ≤ 5 → x.sc.lk = [] ∧ x.sc.ft = []
  f6 : x.at_ = 6 → x.sc.ft = []
  n2 : x.at_ ≤ 2 → x.sc.nd = []
  n3 : x.at_ = 3 → ∃ l n, x.sc.nd = l ++ [n] ∧ n.ph = 0 ∧ n.sg = [] ∧ n.sv = []
  n4 : x.at_ = 4 → ∃ l n, x.sc.nd = l ++ [n] ∧ n.sv = []
  sd : SdOk x.sc
def partW (x : SSt) : List (List (List UInt8)) :=
  if x.at_ = 0 then [] else if x.at_ = 1 then [[wUntil, it x.sc.un]] else if x.at_ = 3 then (scW x.sc).dropLast else scW x.sc
theorem partW_full {x : SSt} (h : x.at_ ≠ 0) (h1 : x.at_ ≠ 1) (h3 : x.at_ ≠ 3) : partW x = scW x.sc := by unfold partW; rw [if_neg h, if_neg h1, if_neg h3]
theorem partW_3 {x : SSt} (h : x.at_ = 3) : partW x = (scW x.sc).dropLast := by unfold partW; rw [if_neg (by omega), if_neg (by omega), if_pos h]
theorem scW_nd (l : List Nd) (n : Nd) (un sd : Int) : scW ⟨l ++ [n], [], [], un, sd⟩ = scW ⟨l, [], [], un, sd⟩ ++ ndW n l.length := by
  simp [scW, ndsW_append, ndsW]
theorem read_step {x y : SSt} {ws : List (List UInt8)} (hi : SIn x) (h : rdW x ws = some y) : SIn y ∧ partW y = partW x ++ [ws] := by
  obtain ⟨⟨nd, lk, ft, un, sd⟩, a⟩ := x
  obtain ⟨i1, i2, i3, i4, i5, i6, i7⟩ := hi
  simp only at i1 i2 i3 i4 i5 i6 i7
  rcases ws with _ | ⟨w, r⟩
  · cases h
  · rw [rdW] at h
    split at h
    · rename_i hw
      obtain ⟨n, rfl, h0, rfl⟩ := until_inv h
      simp only at h0
      subst h0 hw
      obtain ⟨rfl, rfl⟩ := i2 (by decide)
      obtain rfl := i4 (by decide)
      exact ⟨⟨by simp, fun _ => ⟨rfl, rfl⟩, fun h => (by cases h), fun _ => rfl, fun h => (by cases h), fun h => (by cases h), i7⟩, rfl⟩
    · split at h
      · rename_i _ hw
        obtain ⟨n, rfl, h0, rfl, hn⟩ := seed_inv h
        simp only at h0
        subst h0 hw
        obtain ⟨rfl, rfl⟩ := i2 (by decide)
        obtain rfl := i4 (by decide)
        refine ⟨⟨by simp, fun _ => ⟨rfl, rfl⟩, fun h => (by cases h), fun _ => rfl, fun h => (by cases h), fun h => (by cases h), ⟨by simp; omega, by simp⟩⟩, ?_⟩
        simp [partW, scW, ndsW]
      · split at h
        · rename_i _ _ hw
          obtain ⟨n, hr, h0, rfl, e1, e2, e3⟩ := node_inv h
          simp only at h0 hr
          subst hw
          have ha5 : a ≤ 5 := by omega
          obtain ⟨rfl, rfl⟩ := i2 ha5
          refine ⟨⟨by simp [addN], fun _ => ⟨rfl, rfl⟩, fun h => (by cases h), fun h => absurd h (by simp [addN]), fun _ => ⟨nd, n, rfl, e1, e2, e3⟩, fun h => (by cases h), i7⟩, ?_⟩
          have a0 : a ≠ 0 := by omega
          have a1 : a ≠ 1 := by omega
          have a3 : a ≠ 3 := by omega
          rw [partW_full (x := ⟨⟨nd, [], [], un, sd⟩, a⟩) a0 a1 a3, partW_3 rfl]
          simp only [addN]
          rw [scW_nd, hr]
          have : ndW n nd.length = [ndH n nd.length] ++ [[wOsc, it nd.length, it n.ph]] := by simp [ndW, e2, e3]
          rw [this, ← List.append_assoc, List.dropLast_concat]
        · split at h
          · rename_i _ _ _ hw
            obtain ⟨l, m, hl, hc⟩ := part_inv h
            simp only at hl
            rcases hc with ⟨p, rfl, h3, rfl, rfl⟩ | ⟨v, rfl, h3, rfl, rfl⟩ | ⟨s, rfl, h3, rfl, rfl⟩
            · simp only at h3
              subst h3
              obtain ⟨rfl, rfl⟩ := i2 (by decide)
              obtain ⟨l', m', hl', e1, e2, e3⟩ := i5 rfl
              obtain ⟨rfl, rfl⟩ : l = l' ∧ m = m' := by
                rw [hl] at hl'
                have := List.append_inj' hl' rfl
                exact ⟨this.1, by simpa using this.2⟩
              subst hl
              refine ⟨⟨by simp, fun _ => ⟨rfl, rfl⟩, fun h => (by cases h), fun h => absurd h (by simp), fun h => (by cases h), fun _ => ⟨l, _, rfl, e3⟩, i7⟩, ?_⟩
              rw [partW_full (by simp) (by simp) (by simp), partW_3 rfl]
              simp only
              rw [scW_nd, scW_nd]
              have t1 : ndW m l.length = [ndH m l.length] ++ [[wOsc, it l.length, it m.ph]] := by simp [ndW, e2, e3]
              have t2 : ndW { m with ph := p } l.length = [ndH m l.length] ++ [[wOsc, it l.length, it p]] := by simp [ndW, e2, e3, ndH]
              rw [t1, t2, ← List.append_assoc, ← List.append_assoc, List.dropLast_concat]
            · simp only at h3
              obtain ⟨rfl, rfl⟩ := i2 (by omega)
              subst hl
              refine ⟨⟨by simp, fun _ => ⟨rfl, rfl⟩, fun h => (by cases h), fun h => absurd h (by simp), fun h => (by cases h), fun h => (by cases h), i7⟩, ?_⟩
              have a0 : a ≠ 0 := fun e => by rw [e] at h3; revert h3; decide
              have a1 : a ≠ 1 := fun e => by rw [e] at h3; revert h3; decide
              have a3 : a ≠ 3 := fun e => by rw [e] at h3; revert h3; decide
              rw [partW_full (x := ⟨⟨l ++ [m], [], [], un, sd⟩, a⟩) a0 a1 a3, partW_full (by simp) (by simp) (by simp)]
              simp only
              rw [scW_nd, scW_nd, List.append_assoc]
              congr 1
              simp [ndW, ndH, svW]
            · simp only at h3
              subst h3
              obtain ⟨rfl, rfl⟩ := i2 (by decide)
              obtain ⟨l', m', hl', e3⟩ := i6 rfl
              obtain ⟨rfl, rfl⟩ : l = l' ∧ m = m' := by
                rw [hl] at hl'
                have := List.append_inj' hl' rfl
                exact ⟨this.1, by simpa using this.2⟩
              subst hl
              refine ⟨⟨by simp, fun _ => ⟨rfl, rfl⟩, fun h => (by cases h), fun h => absurd h (by simp), fun h => (by cases h), fun _ => ⟨l, _, rfl, e3⟩, i7⟩, ?_⟩
              rw [partW_full (by simp) (by simp) (by simp), partW_full (by simp) (by simp) (by simp)]
              simp only
              rw [scW_nd, scW_nd, List.append_assoc]
              congr 1
              simp [ndW, ndH, sgW, e3]
          · split at h
            · rename_i _ _ _ _ hw
              obtain ⟨k, hr, h0, rfl, e1, e2, e3⟩ := link_inv h
              simp only at h0
              subst hw
              have ha : a = 2 ∨ 4 ≤ a := by have := h0.1; simpa [whole] using this
              have hft : ft = [] := by
                rcases Nat.lt_or_ge a 6 with h6 | h6
                · exact (i2 (by omega)).2
                · exact i3 (by omega)
              subst hft
              refine ⟨⟨by simp, fun h => absurd h (by simp), fun _ => rfl, fun h => absurd h (by simp), fun h => (by cases h), fun h => (by cases h), ⟨i7.1, fun q hq => ?_⟩⟩, ?_⟩
              · rcases List.mem_append.1 hq with hq | hq
                · exact i7.2 q hq
                · simp only [List.mem_singleton] at hq; subst hq; exact ⟨e2, e3⟩
              · have a0 : a ≠ 0 := by omega
                have a1 : a ≠ 1 := by omega
                have a3 : a ≠ 3 := by omega
                rw [partW_full (x := ⟨⟨nd, lk, [], un, sd⟩, a⟩) a0 a1 a3, partW_full (by simp) (by simp) (by simp), hr]
                simp [scW, lkW, e1]
            · split at h
              · rename_i _ _ _ _ _ hw
                obtain ⟨l, k, c, hl, h6, hr, rfl⟩ := change_inv h
                simp only at h6 hl
                subst h6 hw hl
                obtain rfl := i3 rfl
                refine ⟨⟨by simp, fun h => absurd h (by simp), fun _ => rfl, fun h => absurd h (by simp), fun h => (by cases h), fun h => (by cases h), ⟨i7.1, fun q hq => ?_⟩⟩, ?_⟩
                · rcases List.mem_append.1 hq with hq | hq
                  · exact i7.2 q (by simp [hq])
                  · simp only [List.mem_singleton] at hq; subst hq; exact i7.2 k (by simp)
                · rw [partW_full (by simp) (by simp) (by simp), partW_full (by simp) (by simp) (by simp), hr]
                  simp [scW, lkW, lkH, chW]
              · split at h
                · rename_i _ _ _ _ _ _ hw
                  obtain ⟨f, hr, h0, rfl⟩ := fault_inv h
                  simp only at h0
                  subst hw
                  have ha : a = 2 ∨ 4 ≤ a := by simpa [whole] using h0
                  refine ⟨⟨by simp, fun h => absurd h (by simp), fun h => (by cases h), fun h => absurd h (by simp), fun h => (by cases h), fun h => (by cases h), i7⟩, ?_⟩
                  have a0 : a ≠ 0 := by omega
                  have a1 : a ≠ 1 := by omega
                  have a3 : a ≠ 3 := by omega
                  rw [partW_full (x := ⟨⟨nd, lk, ft, un, sd⟩, a⟩) a0 a1 a3, partW_full (by simp) (by simp) (by simp), hr]
                  simp [scW]
                · cases h

theorem rdA_again : ∀ (ps : List (List UInt8)) (x y : SSt) (n : Nat), SIn x → rdA x n ps = .ok y → ∃ L, ps = L.map (joinC 32) ++ [[]] ∧ partW y = partW x ++ L ∧ SIn y ∧ whole y.at_ = true
  | [], x, y, n, _, h => by cases h
  | [l], x, y, n, hi, h => by
    rw [rdA] at h
    split at h
    · rename_i hc
      cases h
      exact ⟨[], by simp [hc.1], by simp, hi, hc.2⟩
    · cases h
  | l :: q :: r, x, y, n, hi, h => by
    rw [rdA] at h
    · cases hw : rdW x (pcs 32 l) with
      | none => rw [hw] at h; cases h
      | some z =>
        rw [hw] at h
        obtain ⟨h1, h2⟩ := read_step hi hw
        obtain ⟨L, h3, h4, h5, h6⟩ := rdA_again (q :: r) z y (n + 1) h1 h
        refine ⟨pcs 32 l :: L, ?_, ?_, h5, h6⟩
        · rw [List.map_cons, join_pcs, List.cons_append, ← h3]
        · rw [h4, h2, List.append_assoc]; rfl
    · intro e; cases e
theorem joinC_lines : ∀ (L : List (List (List UInt8))), joinC 10 (L.map (joinC 32) ++ [[]]) = L.flatMap lnT
  | [] => rfl
  | ws :: L => by
    rw [List.map_cons, List.cons_append, joinC_cons 10 _ (by simp), joinC_lines L, List.flatMap_cons]
    simp [lnT]
theorem sin0 : SIn ss0 := ⟨by decide, fun _ => ⟨rfl, rfl⟩, fun h => (by cases h), fun _ => rfl, fun h => (by cases h), fun h => (by cases h), ⟨by decide, fun l hl => (by cases hl)⟩⟩
/-- what is read from a text has just this text -/
theorem again_sc {t : List UInt8} {x : SSt} (h : rdA ss0 1 (pcs 10 t) = .ok x) : scT x.sc = t ∧ SdOk x.sc := by
  obtain ⟨L, h1, h2, h3, h4⟩ := rdA_again _ _ _ _ sin0 h
  have ha : x.at_ = 2 ∨ 4 ≤ x.at_ := by simpa [whole] using h4
  have h5 : partW x = scW x.sc := partW_full (by omega) (by omega) (by omega)
  refine ⟨?_, h3.sd⟩
  rw [← join_pcs 10 t, h1, joinC_lines]
  unfold scT
  rw [← h5, h2]
  simp [partW, ss0]
/-- the wrong line is one of those of the text, or the next one -/
theorem rdA_err : ∀ (ps : List (List UInt8)) (x : SSt) (n m : Nat), ps ≠ [] → rdA x n ps = .error m → n ≤ m ∧ m < n + ps.length
  | [], x, n, m, hp, _ => absurd rfl hp
  | [l], x, n, m, _, h => by
    rw [rdA] at h
    split at h
    · cases h
    · cases h; simp
  | l :: q :: r, x, n, m, _, h => by
    rw [rdA] at h
    · cases hw : rdW x (pcs 32 l) with
      | none => rw [hw] at h; cases h; simp
      | some z =>
        rw [hw] at h
        have := rdA_err (q :: r) z (n + 1) m (by simp) h
        simp only [List.length_cons] at this ⊢
        omega
    · intro e; cases e
/-! ### a text that is cut -/
theorem cut_lines : ∀ (L : List (List (List UInt8))) (p : Nat), p < (L.flatMap lnT).length → ∃ k q r, k < L.length ∧ (L.flatMap lnT).take p = (L.take k).flatMap lnT ++ q ∧ joinC 32 (L.getD k []) = q ++ r
  | [], p, h => by simp at h
  | ws :: L, p, h => by
    by_cases hp : p < (lnT ws).length
    · refine ⟨0, (joinC 32 ws).take p, (joinC 32 ws).drop p, by simp, ?_, by simp⟩
      have h1 : p ≤ (joinC 32 ws).length := by simp [lnT] at hp; omega
      simp only [List.flatMap_cons, List.take_zero, List.flatMap_nil, List.nil_append, lnT]
      rw [List.append_assoc, List.take_append_of_le_length h1]
    · obtain ⟨k, q, r, h1, h2, h3⟩ := cut_lines L (p - (lnT ws).length) (by rw [List.flatMap_cons, List.length_append] at h; omega)
      refine ⟨k + 1, q, r, by simpa using h1, ?_, by simpa using h3⟩
      rw [List.flatMap_cons, List.take_append, List.take_of_length_le (by omega), h2, List.take_succ_cons, List.flatMap_cons, List.append_assoc]
theorem count_lines : ∀ (L : List (List (List UInt8))), (∀ ws ∈ L, Wok ws) → (L.flatMap lnT).count 10 = L.length
  | [], _ => rfl
  | ws :: L, h => by
    have h1 := (h ws (by simp)).no10
    rw [List.flatMap_cons, List.count_append, count_lines L (fun x hx => h x (by simp [hx]))]
    simp only [lnT, List.count_append, List.count_eq_zero.2 h1, List.length_cons]
    simp; omega
theorem runW_cut {x z : SSt} {L : List (List (List UInt8))} (h : runW x L = some z) (k : Nat) : ∃ y, runW x (L.take k) = some y := by
  rw [← List.take_append_drop k L, runW_append] at h
  cases hr : runW x (L.take k) with
  | none => rw [hr] at h; cases h
  | some y => exact ⟨y, rfl⟩
theorem last_line (L : List (List (List UInt8))) (h : L ≠ []) : (L.flatMap lnT).getLast? = some 10 := by
  obtain ⟨r, m, rfl⟩ := snoc_of (List.length_pos_iff.2 h)
  rw [List.flatMap_append]
  simp [lnT]
theorem cut_sc {s : Sc} (h : chkS s = 0) (hs : SdOk s) {p : Nat} (hp : p < (scT s).length) :
    ((prsS ((scT s).take p)).2.1 = 0 ∧ (prsS ((scT s).take p)).2.2 ≠ 19 ∧ 2 ≤ ((scT s).take p).count 10 ∧ ((scT s).take p).getLast? = some 10) ∨
    ((prsS ((scT s).take p)).2.1 = ((scT s).take p).count 10 + 1 ∧ (prsS ((scT s).take p)).2.2 = 19) := by
  obtain ⟨k, q, r, hk, h1, h2⟩ := cut_lines (scW s) p hp
  obtain ⟨b, _, hr⟩ := run_sc (scI_of h hs)
  obtain ⟨y, hy⟩ := runW_cut hr k
  have hwk : ∀ ws ∈ (scW s).take k, Wok ws := fun ws hw => scW_ok s ws (List.mem_of_mem_take hw)
  have hLk : ((scW s).getD k []) ∈ scW s := by
    rw [List.getD_eq_getElem?_getD, List.getElem?_eq_getElem hk]; exact List.getElem_mem hk
  have hq : (10 : UInt8) ∉ q := fun hm => (scW_ok s _ hLk).no10 (by rw [h2]; simp [hm])
  have hlen : ((scW s).take k).length = k := by simp; omega
  have hc : ((scT s).take p).count 10 = k := by
    show ((scW s).flatMap lnT |>.take p).count 10 = k
    rw [h1, List.count_append, count_lines _ hwk, List.count_eq_zero.2 hq, hlen]; rfl
  have hps : pcs 10 ((scT s).take p) = ((scW s).take k).map (joinC 32) ++ [q] := by
    show pcs 10 ((scW s).flatMap lnT |>.take p) = _
    rw [h1, pcs_lines _ _ hwk, pcs_no hq]
  have hrd : rdA ss0 1 (pcs 10 ((scT s).take p)) = if q = [] ∧ whole y.at_ = true then .ok y else .error (k + 1) := by
    rw [hps, rdA_run _ ss0 1 [q] (by simp) hwk y hy, hlen, rdA]
    rw [show 1 + k = k + 1 by omega]
  rw [hc]
  by_cases hw : q = [] ∧ whole y.at_ = true
  · rw [if_pos hw] at hrd
    left
    have h2k : 2 ≤ k := by
      rcases Nat.lt_or_ge k 2 with hk2 | hk2
      · exfalso
        have hk01 : k = 0 ∨ k = 1 := by omega
        have hwy := hw.2
        rcases hk01 with rfl | rfl
        · have : ss0 = y := Option.some.inj hy
          rw [← this] at hwy; revert hwy; decide
        · have e : (scW s).take 1 = [[wUntil, it s.un]] := by simp [scW]
          rw [e, runW, rdW, if_pos rfl] at hy
          simp only [rdUntil, ss0, sc0, if_true, nO (scI_of h hs).un, Option.map_some, runW] at hy
          have := Option.some.inj hy
          rw [← this] at hwy; revert hwy; simp [whole]
      · exact hk2
    refine ⟨?_, ?_, h2k, ?_⟩
    · unfold prsS; rw [hrd]; simp only; split <;> rfl
    · unfold prsS; rw [hrd]; simp only; split
      · simp
      · exact chkS_ne _
    · show ((scW s).flatMap lnT |>.take p).getLast? = some 10
      rw [h1, hw.1, List.append_nil]
      exact last_line _ (by intro e; rw [e] at hlen; simp at hlen; omega)
  · rw [if_neg hw] at hrd
    right
    unfold prsS
    rw [hrd]
    exact ⟨rfl, rfl⟩
/-! ### links -/
theorem lnk_fst (a b : Int) : ∀ (l : List Lk) (i : Nat), (lnkF a b l i).map Prod.fst = (lnkF b a l i).map Prod.fst
  | [], _ => rfl
  | x :: r, i => by
    unfold lnkF
    by_cases h1 : x.A = a ∧ x.B = b
    · rw [if_pos h1]
      by_cases h2 : x.A = b ∧ x.B = a
      · rw [if_pos h2]
      · rw [if_neg h2, if_pos h1]; rfl
    · rw [if_neg h1]
      by_cases h2 : x.A = b ∧ x.B = a
      · rw [if_pos h2, if_pos h2]; rfl
      · rw [if_neg h2, if_neg h2, if_neg h1]; exact lnk_fst a b r (i + 1)
theorem lnk_rev {a b : Int} (hab : a ≠ b) : ∀ (l : List Lk) (i j : Nat) (d : Bool), lnkF a b l i = some (j, d) → lnkF b a l i = some (j, !d)
  | [], _, _, _, h => by cases h
  | x :: r, i, j, d, h => by
    unfold lnkF at h ⊢
    by_cases h1 : x.A = a ∧ x.B = b
    · rw [if_pos h1] at h
      cases h
      rw [if_neg (fun h2 => hab (h1.1.symm.trans h2.1)), if_pos h1]; rfl
    · rw [if_neg h1] at h
      by_cases h2 : x.A = b ∧ x.B = a
      · rw [if_pos h2] at h
        cases h
        rw [if_pos h2]; rfl
      · rw [if_neg h2] at h
        rw [if_neg h2, if_neg h1]; exact lnk_rev hab r (i + 1) j d h
theorem lnk_lt {a b : Int} : ∀ (l : List Lk) (i j : Nat) (d : Bool), lnkF a b l i = some (j, d) → i ≤ j ∧ j < i + l.length
  | [], _, _, _, h => by cases h
  | x :: r, i, j, d, h => by
    unfold lnkF at h
    split at h
    · cases h; simp
    · split at h
      · cases h; simp
      · have := lnk_lt r (i + 1) j d h
        simp only [List.length_cons]; omega
end Go.Proofs.YthmeifdgkodjlaaDoor
