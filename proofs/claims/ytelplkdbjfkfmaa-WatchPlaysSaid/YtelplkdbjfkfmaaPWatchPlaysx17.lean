-- Laid by a program of the session over the kit's print. Not trusted: Lean checks it.
import Derived.Test.YtelplkdbjfkfmaaPWatchPlaysx0
import Derived.Test.YtelplkdbjfkfmaaPWatchPlaysx1
import Derived.Test.YtelplkdbjfkfmaaPWatchPlaysx3
import Derived.Test.YtelplkdbjfkfmaaPWatchPlaysx4
import Derived.Test.YtelplkdbjfkfmaaPWatchPlaysx5
import Derived.Test.YtelplkdbjfkfmaaPWatchPlaysx6
import Derived.Test.YtelplkdbjfkfmaaPWatchPlaysx7
import Derived.Test.YtelplkdbjfkfmaaPWatchPlaysx8
import Derived.Test.YtelplkdbjfkfmaaPWatchPlaysx9
import Derived.Test.YtelplkdbjfkfmaaPWatchPlaysx10
import Derived.Test.YtelplkdbjfkfmaaPWatchPlaysx14
import Derived.Test.YtelplkdbjfkfmaaPWatchPlaysx15
import Derived.Test.YtelplkdbjfkfmaaPWatchPlaysx16
namespace Go.Proofs.Ytelplkdbjfkfmaa.PWatchPlays
open Go.RowKit Go.Proofs.YtelplkdbjfkfmaaW.PrintWords Go.Proofs.YtelplkdbjfkfmaaW.PrintLast Go.Proofs.YtelplkdbjfkfmaaW.PrintMore
attribute [local go_sem] max2_int min2_int max_two min_two max_three min_three max_four min_four   -- for this text's walks alone
set_option linter.unusedVariables false
set_option linter.unusedSimpArgs false

/-! ### signalboxlaw23_WatchPlays: function 6 -/
def isT (e : S65) : Bool := e.f1 && (e.f2.f0 == 1)
def isH (e : S65) : Bool := !e.f1
def isQ (e : S65) : Bool := e.f1 && (e.f2.f0 == 2)
theorem rd65_app (h : List S65) (e : S65) (j : Int) (h0 : 0 ≤ j) (h1 : j < h.length) : rd_T65 (h ++ [e]) j = rd_T65 h j := by
  unfold rd_T65
  rw [List.getD_eq_getElem?_getD, List.getD_eq_getElem?_getD, List.getElem?_append_left (by omega)]
theorem rd65_last (h : List S65) (e : S65) : rd_T65 (h ++ [e]) (h.length : Int) = e := by
  unfold rd_T65
  rw [List.getD_eq_getElem?_getD, show ((h.length : Int)).toNat = h.length by omega, List.getElem?_append_right (Nat.le_refl _), Nat.sub_self]
  rfl
/-- The place of the last event of a kind; -1: there is none. -/
def LastAt (p : S65 → Bool) (h : List S65) (r : Int) : Prop := (r = -1 ∨ (0 ≤ r ∧ r < h.length ∧ p (rd_T65 h r) = true)) ∧ ∀ j : Int, r < j → 0 ≤ j → j < h.length → p (rd_T65 h j) = false
theorem LastAt.nil (p : S65 → Bool) : LastAt p [] (-1) := ⟨Or.inl rfl, fun j _ h0 h1 => absurd h1 (by simp only [List.length_nil]; omega)⟩
theorem LastAt.app {p : S65 → Bool} {h : List S65} {r : Int} (hl : LastAt p h r) (e : S65) : LastAt p (h ++ [e]) (if p e = true then (h.length : Int) else r) := by
  have len : ((h ++ [e]).length : Int) = h.length + 1 := by simp
  by_cases hp : p e = true
  · rw [if_pos hp]
    refine ⟨Or.inr ⟨by omega, by omega, by rw [rd65_last]; exact hp⟩, fun j h0 h1 h2 => ?_⟩
    omega
  · rw [if_neg hp]
    refine ⟨?_, fun j h0 h1 h2 => ?_⟩
    · rcases hl.1 with h1 | ⟨h1, h2, h3⟩
      · exact Or.inl h1
      · exact Or.inr ⟨h1, by omega, by rw [rd65_app h e r h1 h2]; exact h3⟩
    · by_cases hj : j < h.length
      · rw [rd65_app h e j h1 hj]
        exact hl.2 j h0 h1 hj
      · obtain rfl : j = h.length := by omega
        rw [rd65_last]
        exact Bool.eq_false_iff.mpr hp
theorem w64s (x : Int) (h0 : -1000000 ≤ x) (h1 : x ≤ 1000000) : wrap64 x = x := by
  unfold wrap64
  omega
theorem last_l0 {h : List S65} {r : Int} (hl : LastAt isT h r) (hn : h.length ≤ 1000) : ∀ (n : Nat) (k : Nat), n < k → n ≤ h.length → r < n → signalboxref23_last.l0 k h ((n : Int) - 1) = some r := by
  intro n; induction n with
  | zero =>
    intro k hk hle hr
    obtain ⟨m, rfl⟩ : ∃ m, k = m + 1 := ⟨k - 1, by omega⟩
    have e : r = -1 := by rcases hl.1 with h1 | ⟨h1, h2, h3⟩ <;> omega
    subst e; unfold signalboxref23_last.l0
    rw [if_neg (by omega)]
  | succ n ih =>
    intro k hk hle hr
    obtain ⟨m, rfl⟩ : ∃ m, k = m + 1 := ⟨k - 1, by omega⟩
    unfold signalboxref23_last.l0
    rw [show (((n + 1 : Nat) : Int) - 1) = (n : Int) by omega, if_pos (by omega), if_pos (by omega), if_pos (by omega), w64s ((n : Int) - 1) (by omega) (by omega)]
    by_cases hp : isT (rd_T65 h n) = true
    · have e : r = n := by
        rcases Int.lt_trichotomy r n with h1 | h1 | h1
        · have := hl.2 n h1 (by omega) (by omega)
          rw [this] at hp
          cases hp
        · exact h1
        · omega
      unfold isT at hp
      rw [Bool.and_eq_true, beq_iff_eq] at hp
      rw [if_pos hp.1, if_pos hp.2, e]
    · have hr2 : r < n := by
        rcases Int.lt_or_eq_of_le (show r ≤ n by omega) with h1 | h1
        · exact h1
        · rcases hl.1 with h2 | ⟨h2, h3, h4⟩
          · omega
          · rw [h1] at h4
            exact absurd h4 hp
      have key := ih m (by omega) (by omega) hr2
      by_cases q : (rd_T65 h n).f1 = true
      · rw [if_pos q]
        by_cases q2 : (rd_T65 h n).f2.f0 = 1
        · exfalso
          apply hp
          unfold isT
          rw [q, q2]
          rfl
        · rw [if_neg q2]
          exact key
      · rw [if_neg q]
        exact key
theorem last_f {h : List S65} {r : Int} (hl : LastAt isT h r) (hn : h.length ≤ 1000) (k : Nat) (hk : 1001 ≤ k) : signalboxref23_last.f k h = some r := by
  unfold signalboxref23_last.f
  rw [w64s _ (by omega) (by omega)]
  exact last_l0 hl hn h.length k (by omega) (Nat.le_refl _) (by rcases hl.1 with h1 | ⟨h1, h2, h3⟩ <;> omega)
theorem heard_l0 {h : List S65} {r : Int} (hl : LastAt isH h r) (hn : h.length ≤ 1000) : ∀ (n : Nat) (k : Nat), n < k → n ≤ h.length → r < n → signalboxref23_heard.l0 k h ((n : Int) - 1) = some r := by
  intro n; induction n with
  | zero =>
    intro k hk hle hr
    obtain ⟨m, rfl⟩ : ∃ m, k = m + 1 := ⟨k - 1, by omega⟩
    have e : r = -1 := by rcases hl.1 with h1 | ⟨h1, h2, h3⟩ <;> omega
    subst e; unfold signalboxref23_heard.l0
    rw [if_neg (by omega)]
  | succ n ih =>
    intro k hk hle hr
    obtain ⟨m, rfl⟩ : ∃ m, k = m + 1 := ⟨k - 1, by omega⟩
    unfold signalboxref23_heard.l0
    rw [show (((n + 1 : Nat) : Int) - 1) = (n : Int) by omega, if_pos (by omega), if_pos (by omega), if_pos (by omega), w64s ((n : Int) - 1) (by omega) (by omega)]
    by_cases q : (rd_T65 h n).f1 = true
    · rw [if_pos q]
      have hr2 : r < n := by
        rcases Int.lt_or_eq_of_le (show r ≤ n by omega) with h1 | h1
        · exact h1
        · rcases hl.1 with h2 | ⟨h2, h3, h4⟩
          · omega
          · rw [h1] at h4
            unfold isH at h4
            rw [q] at h4
            cases h4
      exact ih m (by omega) (by omega) hr2
    · rw [if_neg q]
      have e : r = n := by
        rcases Int.lt_trichotomy r n with h1 | h1 | h1
        · have := hl.2 n h1 (by omega) (by omega)
          unfold isH at this
          rw [Bool.eq_false_iff.mpr q] at this
          cases this
        · exact h1
        · omega
      rw [e]
theorem heard_f {h : List S65} {r : Int} (hl : LastAt isH h r) (hn : h.length ≤ 1000) (k : Nat) (hk : 1001 ≤ k) : signalboxref23_heard.f k h = some r := by
  unfold signalboxref23_heard.f
  rw [w64s _ (by omega) (by omega)]
  exact heard_l0 hl hn h.length k (by omega) (Nat.le_refl _) (by rcases hl.1 with h1 | ⟨h1, h2, h3⟩ <;> omega)
def frS (f : S33) : Int × Int × Int × ByteArray := (f.f0, f.f1, f.f2, f.f3)
def o4 : Option (Int × Int × Int × ByteArray) → Int × Int × Int × ByteArray × Bool
  | none => (0, 0, 0, (⟨#[]⟩ : ByteArray), false)
  | some f => (f.1, f.2.1, f.2.2.1, f.2.2.2, true)
def difR (mk : ByteArray) (a b : S33) : Option Bool := if a.f2 = b.f2 then octet_Differ.f a.f3 b.f3 mk else some true
def FD (mk : ByteArray) (l : List S61) : Prop := ∀ x ∈ l, ∀ y ∈ l, ∃ d K, octet_Differ.f x.f2.f3 y.f2.f3 mk = some d ∧ ∀ k, K ≤ k → signalboxref01_Differ.f k x.f2.f3 y.f2.f3 mk = some d
def evB (nw : Int) (f : S33) : S65 := ⟨nw, false, ⟨0, 0, ⟨0, 0, 0, (⟨#[]⟩ : ByteArray)⟩, 0⟩, f⟩
def evC (id nw : Int) (f : S33) : S65 := ⟨nw, true, ⟨1, wrap64 id, f, nw⟩, ⟨0, 0, 0, (⟨#[]⟩ : ByteArray)⟩⟩
def evQ (id nw : Int) : S65 := ⟨nw, true, ⟨2, wrap64 id, ⟨0, 0, 0, (⟨#[]⟩ : ByteArray)⟩, nw⟩, ⟨0, 0, 0, (⟨#[]⟩ : ByteArray)⟩⟩
/-- A job and the document's events say the same. -/
structure Sm (l : List S61) (mk : ByteArray) (wb : Int) (h : List S65) (s : WS) (t hh : Int) : Prop where
  lt : LastAt isT h t
  lh : LastAt isH h hh
  told : (t < 0 ∧ s.told = none) ∨ (0 ≤ t ∧ s.told = some (frS (rd_T65 h t).f2.f2) ∧ s.at_ = (rd_T65 h t).f0)
  heard : s.heard = if hh ≥ 0 then (rd_T65 h hh).f0 else wb
  held : ((t < 0 ∨ hh < t) ∧ s.held = none) ∨ (0 ≤ t ∧ t ≤ hh ∧ ∃ d, difR mk (rd_T65 h t).f2.f2 (rd_T65 h hh).f3 = some d ∧ s.held = if d = true then some (frS (rd_T65 h hh).f3) else none)
  quiet : s.quiet = true ↔ ∃ i : Int, hh < i ∧ 0 ≤ i ∧ i < h.length ∧ isQ (rd_T65 h i) = true
  memT : ∀ j : Int, 0 ≤ j → j < h.length → isT (rd_T65 h j) = true → ∃ x ∈ l, (rd_T65 h j).f2.f2 = x.f2
  memH : ∀ j : Int, 0 ≤ j → j < h.length → isH (rd_T65 h j) = true → ∃ x ∈ l, (rd_T65 h j).f3 = x.f2
theorem put_f (h : List S65) (e : S65) (hn : h.length ≤ 1000) : signalboxref23_put.f h e.f0 e.f1 e.f2.f0 e.f2.f1 e.f2.f2.f0 e.f2.f2.f1 e.f2.f2.f2 e.f2.f2.f3 e.f2.f3 e.f3.f0 e.f3.f1 e.f3.f2 e.f3.f3 = some (h ++ [e]) := by
  show (if ([] : List S65).length + h.length < 1172812402961 then (if (([] : List S65) ++ h).length < 1172812402961 then some (([] : List S65) ++ h ++ [e]) else none) else none) = _
  rw [if_pos (by simp; omega), if_pos (by simp; omega)]
  rfl
theorem len1 (h : List S65) (e : S65) : ((h ++ [e]).length : Int) = h.length + 1 := by simp
theorem nth_app {p : S65 → Bool} {P : S65 → Prop} {h : List S65} {e : S65} (H : ∀ j : Int, 0 ≤ j → j < h.length → p (rd_T65 h j) = true → P (rd_T65 h j)) (he : p e = true → P e) : ∀ j : Int, 0 ≤ j → j < (h ++ [e]).length → p (rd_T65 (h ++ [e]) j) = true → P (rd_T65 (h ++ [e]) j) := by
  intro j h0 h1 h2
  rw [len1] at h1
  by_cases hj : j < h.length
  · rw [rd65_app h e j h0 hj] at h2 ⊢
    exact H j h0 hj h2
  · obtain rfl : j = h.length := by omega
    rw [rd65_last] at h2 ⊢
    exact he h2
theorem last_lt {p : S65 → Bool} {h : List S65} {r : Int} (hl : LastAt p h r) : r < h.length ∧ -1 ≤ r := by
  rcases hl.1 with h1 | ⟨h1, h2, h3⟩ <;> omega
/-- A frame that is heard. -/
theorem Sm.beat {l : List S61} {mk : ByteArray} {wb : Int} {h : List S65} {s : WS} {t hh : Int} (H : Sm l mk wb h s t hh) (nw : Int) (x : S61) (hx : x ∈ l) (d : Bool) (hd : 0 ≤ t → difR mk (rd_T65 h t).f2.f2 x.f2 = some d) (hl : Option (Int × Int × Int × ByteArray))
    (he : hl = if t < 0 then none else if d = true then some (frS x.f2) else none) : Sm l mk wb (h ++ [evB nw x.f2]) { s with heard := nw, quiet := false, held := hl } t h.length := by
  have ht := last_lt H.lt
  have a1 := H.lt.app (evB nw x.f2)
  rw [if_neg (show ¬ isT (evB nw x.f2) = true from fun q => by cases q)] at a1
  have a2 := H.lh.app (evB nw x.f2)
  rw [if_pos (by rfl)] at a2
  refine ⟨a1, a2, ?_, ?_, ?_, ?_, ?_, ?_⟩
  · rcases H.told with ⟨h1, h2⟩ | ⟨h1, h2, h3⟩
    · exact Or.inl ⟨h1, h2⟩
    · exact Or.inr ⟨h1, by rw [rd65_app h _ t h1 ht.1]; exact h2, by rw [rd65_app h _ t h1 ht.1]; exact h3⟩
  · rw [if_pos (by omega), rd65_last]
    rfl
  · by_cases h0 : t < 0
    · exact Or.inl ⟨Or.inl h0, by rw [he, if_pos h0]⟩
    · refine Or.inr ⟨by omega, by omega, d, ?_, ?_⟩
      · rw [rd65_app h _ t (by omega) ht.1, rd65_last]
        exact hd (by omega)
      · rw [rd65_last]
        show hl = _
        rw [he, if_neg h0]
        rfl
  · constructor
    · intro hq
      cases hq
    · rintro ⟨i, h1, h2, h3, h4⟩
      rw [len1] at h3
      omega
  · exact nth_app (P := fun e => ∃ x ∈ l, e.f2.f2 = x.f2) H.memT (fun hq => by cases hq)
  · exact nth_app (P := fun e => ∃ x ∈ l, e.f3 = x.f2) H.memH (fun _ => ⟨x, hx, rfl⟩)
/-- A frame that is told. -/
theorem Sm.changed {l : List S61} {mk : ByteArray} {wb : Int} {h : List S65} {s : WS} {t hh : Int} (H : Sm l mk wb h s t hh) (id nw : Int) (x : S61) (hx : x ∈ l) (f : S33) (hf : f = x.f2) : Sm l mk wb (h ++ [evC id nw f]) { s with told := some (frS f), at_ := nw, held := none } h.length hh := by
  have ht := last_lt H.lh
  have a1 := H.lt.app (evC id nw f)
  rw [if_pos (by rfl)] at a1
  have a2 := H.lh.app (evC id nw f)
  rw [if_neg (show ¬ isH (evC id nw f) = true from fun q => by cases q)] at a2
  refine ⟨a1, a2, ?_, ?_, ?_, ?_, ?_, ?_⟩
  · exact Or.inr ⟨by omega, by rw [rd65_last]; rfl, by rw [rd65_last]; rfl⟩
  · show s.heard = _
    rw [H.heard]
    by_cases h0 : hh ≥ 0
    · rw [if_pos h0, if_pos h0, rd65_app h _ hh h0 ht.1]
    · rw [if_neg h0, if_neg h0]
  · exact Or.inl ⟨Or.inr ht.1, rfl⟩
  · show s.quiet = true ↔ _
    rw [H.quiet]
    constructor
    · rintro ⟨i, h1, h2, h3, h4⟩
      exact ⟨i, h1, h2, by rw [len1]; omega, by rw [rd65_app h _ i h2 h3]; exact h4⟩
    · rintro ⟨i, h1, h2, h3, h4⟩
      rw [len1] at h3
      by_cases hi : i < h.length
      · exact ⟨i, h1, h2, hi, by rw [rd65_app h _ i h2 hi] at h4; exact h4⟩
      · obtain rfl : i = h.length := by omega
        rw [rd65_last] at h4
        cases h4
  · exact nth_app (P := fun e => ∃ x ∈ l, e.f2.f2 = x.f2) H.memT (fun _ => ⟨x, hx, hf⟩)
  · exact nth_app (P := fun e => ∃ x ∈ l, e.f3 = x.f2) H.memH (fun hq => by cases hq)
/-- Silence that is told. -/
theorem Sm.silent {l : List S61} {mk : ByteArray} {wb : Int} {h : List S65} {s : WS} {t hh : Int} (H : Sm l mk wb h s t hh) (id nw : Int) : Sm l mk wb (h ++ [evQ id nw]) { s with quiet := true } t hh := by
  have ht := last_lt H.lt
  have hh' := last_lt H.lh
  have a1 := H.lt.app (evQ id nw)
  rw [if_neg (show ¬ isT (evQ id nw) = true from fun q => by cases q)] at a1
  have a2 := H.lh.app (evQ id nw)
  rw [if_neg (show ¬ isH (evQ id nw) = true from fun q => by cases q)] at a2
  refine ⟨a1, a2, ?_, ?_, ?_, ?_, ?_, ?_⟩
  · rcases H.told with ⟨h1, h2⟩ | ⟨h1, h2, h3⟩
    · exact Or.inl ⟨h1, h2⟩
    · exact Or.inr ⟨h1, by rw [rd65_app h _ t h1 ht.1]; exact h2, by rw [rd65_app h _ t h1 ht.1]; exact h3⟩
  · show s.heard = _
    rw [H.heard]
    by_cases h0 : hh ≥ 0
    · rw [if_pos h0, if_pos h0, rd65_app h _ hh h0 hh'.1]
    · rw [if_neg h0, if_neg h0]
  · rcases H.held with ⟨h1, h2⟩ | ⟨h1, h2, d, h3, h4⟩
    · exact Or.inl ⟨h1, h2⟩
    · exact Or.inr ⟨h1, h2, d, by rw [rd65_app h _ t h1 ht.1, rd65_app h _ hh (by omega) hh'.1]; exact h3, by rw [rd65_app h _ hh (by omega) hh'.1]; exact h4⟩
  · constructor
    · intro _
      exact ⟨h.length, hh'.1, by omega, by rw [len1]; omega, by rw [rd65_last]; rfl⟩
    · intro _
      rfl
  · exact nth_app (P := fun e => ∃ x ∈ l, e.f2.f2 = x.f2) H.memT (fun hq => by cases hq)
  · exact nth_app (P := fun e => ∃ x ∈ l, e.f3 = x.f2) H.memH (fun hq => by cases hq)
theorem Sm.start (l : List S61) (mk : ByteArray) (wb : Int) (s : WS) (h1 : s.told = none) (h2 : s.held = none) (h3 : s.heard = wb) (h4 : s.quiet = false) : Sm l mk wb [] s (-1) (-1) :=
  ⟨LastAt.nil _, LastAt.nil _, Or.inl ⟨by omega, h1⟩, h3, Or.inl ⟨Or.inl (by omega), h2⟩, ⟨fun q => (by rw [h4] at q; cases q), fun ⟨i, q1, q2, q3, q4⟩ => absurd q3 (by simp only [List.length_nil]; omega)⟩,
    fun j q0 q1 => absurd q1 (by simp only [List.length_nil]; omega), fun j q0 q1 => absurd q1 (by simp only [List.length_nil]; omega)⟩
theorem rdif_f {mk : ByteArray} {l : List S61} (hD : FD mk l) (a b : S33) (ha : ∃ x ∈ l, a = x.f2) (hb : ∃ x ∈ l, b = x.f2) : ∃ d K, difR mk a b = some d ∧ ∀ k, K ≤ k → ∀ (id km : Int) (inv : Bool) (thr sil : Int), signalboxref23_Differ.f k id km inv mk thr sil a.f0 a.f1 a.f2 a.f3 b.f0 b.f1 b.f2 b.f3 = some d := by
  obtain ⟨x, hx, rfl⟩ := ha
  obtain ⟨y, hy, rfl⟩ := hb
  obtain ⟨d, K, h1, h2⟩ := hD x hx y hy
  by_cases e : x.f2.f2 = y.f2.f2
  · refine ⟨d, K, by unfold difR; rw [if_pos e]; exact h1, fun k hk id km inv thr sil => ?_⟩
    unfold signalboxref23_Differ.f
    rw [if_pos e, h2 k hk]
    rfl
  · refine ⟨true, 0, by unfold difR; rw [if_neg e], fun k hk id km inv thr sil => ?_⟩
    unfold signalboxref23_Differ.f
    rw [if_neg e]
theorem held_f {l : List S61} {mk : ByteArray} {wb : Int} {h : List S65} {s : WS} {t hh : Int} (H : Sm l mk wb h s t hh) (hD : FD mk l) (hn : h.length ≤ 1000) : ∃ K, ∀ k, K ≤ k → ∀ (id km : Int) (inv : Bool) (thr sil : Int), signalboxref23_Held.f k id km inv mk thr sil h = some (o4 s.held) := by
  have ht := last_lt H.lt
  have hh' := last_lt H.lh
  by_cases h0 : t < 0 ∨ hh < t
  · have e : s.held = none := by
      rcases H.held with ⟨h1, h2⟩ | ⟨h1, h2, d, h3, h4⟩
      · exact h2
      · omega
    refine ⟨1001, fun k hk id km inv thr sil => ?_⟩
    unfold signalboxref23_Held.f
    rw [last_f H.lt hn k hk, heard_f H.lh hn k hk, e]
    show (if t < 0 then _ else _) = _
    by_cases h1 : t < 0
    · rw [if_pos h1]; rfl
    · rw [if_neg h1, if_pos (by omega)]; rfl
  · have h1 : 0 ≤ t := by omega
    have h2 : t ≤ hh := by omega
    have hT : isT (rd_T65 h t) = true := by rcases H.lt.1 with q | q; omega; exact q.2.2
    have hH : isH (rd_T65 h hh) = true := by rcases H.lh.1 with q | q; omega; exact q.2.2
    obtain ⟨d, K, e1, e2⟩ := rdif_f hD _ _ (H.memT t h1 ht.1 hT) (H.memH hh (by omega) hh'.1 hH)
    have e : s.held = if d = true then some (frS (rd_T65 h hh).f3) else none := by
      rcases H.held with ⟨q1, q2⟩ | ⟨q1, q2, d', q3, q4⟩
      · exact absurd q1 h0
      · rw [e1] at q3
        rw [Option.some.inj q3]
        exact q4
    refine ⟨max K 1001, fun k hk id km inv thr sil => ?_⟩
    unfold signalboxref23_Held.f
    rw [last_f H.lt hn k (by omega), heard_f H.lh hn k (by omega), e]
    show (if t < 0 then _ else _) = _
    rw [if_neg (by omega), if_neg (by omega), if_pos h1, if_pos ht.1, if_pos (by omega), if_pos hh'.1, e2 k (by omega)]
    show (if d = true then _ else _) = _
    cases d
    · rfl
    · rfl
theorem told_f {l : List S61} {mk : ByteArray} {wb : Int} {h : List S65} {s : WS} {t hh : Int} (H : Sm l mk wb h s t hh) (hn : h.length ≤ 1000) (k : Nat) (hk : 1001 ≤ k) : signalboxref23_Told.f k h = some (o4 s.told) := by
  have ht := last_lt H.lt
  unfold signalboxref23_Told.f
  rw [last_f H.lt hn k hk]
  show (if t < 0 then _ else _) = _
  rcases H.told with ⟨h1, h2⟩ | ⟨h1, h2, h3⟩
  · rw [if_pos h1, h2]
    rfl
  · rw [if_neg (by omega), if_pos h1, if_pos ht.1, h2]
    rfl
def evH (id nw : Int) (f : S33) (m told : Bool) : List S65 := if m = true then evB nw f :: (if told = true then [evC id nw f] else []) else []
theorem difS_of {l : List S61} {mk : ByteArray} {wb : Int} {h : List S65} {s : WS} {t hh : Int} (H : Sm l mk wb h s t hh) (hmk : s.wmk = mk) (f : S33) (nw : Int) (d : Bool) (hd : 0 ≤ t → difR mk (rd_T65 h t).f2.f2 f = some d) : difS { s with heard := nw, quiet := false } f.f2 f.f3 = if t < 0 then some true else some d := by
  rcases H.told with ⟨h1, h2⟩ | ⟨h1, h2, h3⟩
  · rw [if_pos h1]
    unfold difS
    show (match s.told with | none => _ | some f => _) = _
    rw [h2]
  · rw [if_neg (by omega), ← hd h1]
    unfold difS difR
    show (match s.told with | none => _ | some f => _) = _
    rw [h2]
    show (if (rd_T65 h t).f2.f2.f2 = f.f2 then octet_Differ.f (rd_T65 h t).f2.f2.f3 f.f3 s.wmk else some true) = _
    rw [hmk]
theorem within_f (x : Int) : signalboxref23_Within.f x = watch_within.f x := by
  unfold signalboxref23_Within.f watch_within.f mn mx
  by_cases h1 : x < 0
  · rw [if_pos h1]
    simp [h1]
  · rw [if_neg h1]
    by_cases h2 : x > 2305843009213693952
    · rw [if_pos h2]
      simp [h1, h2]
    · rw [if_neg h2]
      simp only [h1, if_false]
      rw [if_neg (by omega)]
/-- What hearing makes of both. -/
theorem sim_hear {l : List S61} {mk : ByteArray} {wb : Int} {h : List S65} {s : WS} {t hh : Int} (H : Sm l mk wb h s t hh) (hD : FD mk l) (hn : h.length ≤ 900) (hmk : s.wmk = mk) (x : S61) (hx : x ∈ l) (now nw : Int) (hw : watch_within.f now = some nw) (m : Bool) (K0 : Nat)
    (hm : ∀ k, K0 ≤ k → signalboxref05_Match.f k s.id s.km s.inv x.f2.f0 x.f2.f1 x.f2.f2 x.f2.f3 = some m) :
    ∃ df, difS { s with heard := nw, quiet := false } x.f2.f2 x.f2.f3 = some df ∧
      (∃ K, ∀ k, K ≤ k → signalboxref23_Hear.f k s.id s.km s.inv mk s.thr s.sil h now x.f2.f0 x.f2.f1 x.f2.f2 x.f2.f3 = some (h ++ evH s.id nw x.f2 m (hearS s nw (frS x.f2) m df).1)) ∧
      ∃ t' hh', Sm l mk wb (h ++ evH s.id nw x.f2 m (hearS s nw (frS x.f2) m df).1) (hearS s nw (frS x.f2) m df).2 t' hh' := by
  have ht := last_lt H.lt
  have hwR : signalboxref23_Within.f now = some nw := (within_f now).trans hw
  have hdd : ∃ d K, (0 ≤ t → difR mk (rd_T65 h t).f2.f2 x.f2 = some d) ∧ ∀ k, K ≤ k → 0 ≤ t → ∀ (id km : Int) (inv : Bool) (thr sil : Int), signalboxref23_Differ.f k id km inv mk thr sil (rd_T65 h t).f2.f2.f0 (rd_T65 h t).f2.f2.f1 (rd_T65 h t).f2.f2.f2 (rd_T65 h t).f2.f2.f3 x.f2.f0 x.f2.f1 x.f2.f2 x.f2.f3 = some d := by
    by_cases h0 : 0 ≤ t
    · have hT : isT (rd_T65 h t) = true := by rcases H.lt.1 with q | q; omega; exact q.2.2
      obtain ⟨d, K, e1, e2⟩ := rdif_f hD _ x.f2 (H.memT t h0 ht.1 hT) ⟨x, hx, rfl⟩
      exact ⟨d, K, fun _ => e1, fun k hk _ => e2 k hk⟩
    · exact ⟨true, 0, fun q => absurd q h0, fun k hk q => absurd q h0⟩
  obtain ⟨d, K1, hd, hd2⟩ := hdd
  have hdf := difS_of H hmk x.f2 nw d hd
  cases m with
  | false =>
    refine ⟨_, by rw [hdf]; exact (apply_ite some (t < 0) true d).symm, ⟨K0, fun k hk => ?_⟩, t, hh, ?_⟩
    · unfold signalboxref23_Hear.f
      rw [hm k hk]
      show some h = some (h ++ [])
      rw [List.append_nil]
    · show Sm l mk wb (h ++ []) s t hh
      rw [List.append_nil]
      exact H
  | true =>
    have hput := put_f h (evB nw x.f2) (by omega)
    have hput' : signalboxref23_put.f h nw false 0 0 0 0 0 (⟨#[]⟩ : ByteArray) 0 x.f2.f0 x.f2.f1 x.f2.f2 x.f2.f3 = some (h ++ [evB nw x.f2]) := hput
    have hputC : signalboxref23_put.f (h ++ [evB nw x.f2]) nw true 1 (wrap64 s.id) x.f2.f0 x.f2.f1 x.f2.f2 x.f2.f3 nw 0 0 0 (⟨#[]⟩ : ByteArray) = some (h ++ [evB nw x.f2] ++ [evC s.id nw x.f2]) := put_f (h ++ [evB nw x.f2]) (evC s.id nw x.f2) (by rw [List.length_append, List.length_singleton]; omega)
    have hB := H.beat nw x hx d hd _ rfl
    have hC := hB.changed s.id nw x hx x.f2 rfl
    have eC : h ++ [evB nw x.f2] ++ [evC s.id nw x.f2] = h ++ [evB nw x.f2, evC s.id nw x.f2] := by rw [List.append_assoc]; rfl
    rw [eC] at hC hputC
    have j0 : ∀ (k : Nat) (b : Bool), signalboxref23_Hear.j0 (k + 1) (h ++ [evB nw x.f2]) nw b s.id s.km s.inv mk s.thr s.sil x.f2.f0 x.f2.f1 x.f2.f2 x.f2.f3 = some (h ++ if b = true then [evB nw x.f2, evC s.id nw x.f2] else [evB nw x.f2]) := by
      intro k b
      unfold signalboxref23_Hear.j0
      cases b with
      | false => rfl
      | true =>
        show (signalboxref23_put.f (h ++ [evB nw x.f2]) nw true 1 (wrap64 s.id) x.f2.f0 x.f2.f1 x.f2.f2 x.f2.f3 nw 0 0 0 (⟨#[]⟩ : ByteArray)).bind (fun t266 => some t266) = some (h ++ [evB nw x.f2, evC s.id nw x.f2])
        rw [hputC]
        rfl
    rcases H.told with ⟨h1, h2⟩ | ⟨h1, h2, h3⟩
    · rw [if_pos h1] at hdf
      refine ⟨true, hdf, ⟨max K0 1002, fun k hk => ?_⟩, h.length + 1, h.length, ?_⟩
      · obtain ⟨k', rfl⟩ : ∃ k', k = k' + 1 := ⟨k - 1, by omega⟩
        have e : (hearS s nw (frS x.f2) true true).1 = true := by unfold hearS; rw [h2]; rfl
        rw [e]
        unfold signalboxref23_Hear.f
        rw [hm _ (by omega)]
        show (signalboxref23_Within.f now).bind _ = _
        rw [hwR]
        show (signalboxref23_last.f (k' + 1) h).bind _ = _
        rw [last_f H.lt (by omega) _ (by omega)]
        show (signalboxref23_put.f h nw false 0 0 0 0 0 (⟨#[]⟩ : ByteArray) 0 x.f2.f0 x.f2.f1 x.f2.f2 x.f2.f3).bind _ = _
        rw [hput']
        show (if t < 0 then _ else _) = _
        rw [if_pos h1]
        exact j0 k' true
      · have e : hearS s nw (frS x.f2) true true = (true, { s with heard := nw, quiet := false, told := some (frS x.f2), at_ := nw, held := none }) := by unfold hearS; rw [h2]; rfl
        rw [e]
        have e2 : ((h ++ [evB nw x.f2]).length : Int) = (h.length : Int) + 1 := len1 _ _
        rw [e2] at hC
        exact hC
    · rw [if_neg (by omega)] at hdf
      have hrd : rd_T65 (h ++ [evB nw x.f2]) t = rd_T65 h t := rd65_app h _ t h1 ht.1
      have hfun : ∀ k, max (max K0 K1) 1002 ≤ k → signalboxref23_Hear.f k s.id s.km s.inv mk s.thr s.sil h now x.f2.f0 x.f2.f1 x.f2.f2 x.f2.f3 = some (h ++ if (d && decide ((wrap64 (nw - s.at_)) ≥ s.thr)) = true then [evB nw x.f2, evC s.id nw x.f2] else [evB nw x.f2]) := by
        intro k hk
        obtain ⟨k', rfl⟩ : ∃ k', k = k' + 1 := ⟨k - 1, by omega⟩
        unfold signalboxref23_Hear.f
        rw [hm _ (by omega)]
        show (signalboxref23_Within.f now).bind _ = _
        rw [hwR]
        show (signalboxref23_last.f (k' + 1) h).bind _ = _
        rw [last_f H.lt (by omega) _ (by omega)]
        show (signalboxref23_put.f h nw false 0 0 0 0 0 (⟨#[]⟩ : ByteArray) 0 x.f2.f0 x.f2.f1 x.f2.f2 x.f2.f3).bind _ = _
        rw [hput']
        show (if t < 0 then _ else _) = _
        rw [if_neg (by omega), if_pos h1, if_pos (by rw [len1]; omega), hrd, hd2 _ (by omega) h1]
        show (if d = true then _ else _) = _
        cases d with
        | false => exact j0 k' false
        | true =>
          rw [if_pos rfl, ← h3, Bool.true_and]
          exact j0 k' _
      have eB : (if t < 0 then none else if d = true then some (frS x.f2) else none) = if d = true then some (frS x.f2) else none := if_neg (by omega)
      rw [eB] at hB
      cases d with
      | false =>
        refine ⟨false, hdf, ⟨_, hfun⟩, t, h.length, ?_⟩
        exact hB
      | true =>
        by_cases hl : wrap64 (nw - s.at_) < s.thr
        · have e : hearS s nw (frS x.f2) true true = (false, { s with heard := nw, quiet := false, held := some (frS x.f2) }) := by
            unfold hearS
            rw [h2]
            exact if_pos hl
          refine ⟨true, hdf, ⟨max (max K0 K1) 1002, fun k hk => ?_⟩, t, h.length, ?_⟩
          · rw [hfun k hk, e]
            rw [decide_eq_false (by omega : ¬ wrap64 (nw - s.at_) ≥ s.thr)]
            rfl
          · rw [e]
            exact hB
        · have e : hearS s nw (frS x.f2) true true = (true, { s with heard := nw, quiet := false, told := some (frS x.f2), at_ := nw, held := none }) := by
            unfold hearS
            rw [h2]
            exact if_neg hl
          refine ⟨true, hdf, ⟨max (max K0 K1) 1002, fun k hk => ?_⟩, h.length + 1, h.length, ?_⟩
          · rw [hfun k hk, e]
            rw [decide_eq_true (by omega : wrap64 (nw - s.at_) ≥ s.thr)]
            rfl
          · rw [e]
            have e2 : ((h ++ [evB nw x.f2]).length : Int) = (h.length : Int) + 1 := len1 _ _
            rw [e2] at hC
            exact hC
def evT (s : WS) (nw : Int) : List S65 := (match due s nw with | none => [] | some f => [evC s.id nw ⟨f.1, f.2.1, f.2.2.1, f.2.2.2⟩]) ++ if silB s nw = true then [evQ s.id nw] else []
theorem quiet_l0 {h : List S65} (hn : h.length ≤ 1000) (nw since : Int) (id km : Int) (inv : Bool) (mk : ByteArray) (thr sil : Int) (Q : Bool) : ∀ (n : Nat) (i : Int) (q : Bool) (k : Nat), n < k → 0 ≤ i → i + n = h.length → (Q = true ↔ (q = true ∨ ∃ j : Int, i ≤ j ∧ j < h.length ∧ isQ (rd_T65 h j) = true)) →
    signalboxref23_Tick.l0 k h nw since q i id km inv mk thr sil = (if sil > 0 then (if Q = true then some h else (if wrap64 (nw - since) ≥ sil then (signalboxref23_put.f h nw true 2 (wrap64 id) 0 0 0 (⟨#[]⟩ : ByteArray) nw 0 0 0 (⟨#[]⟩ : ByteArray)).bind (fun t => some t) else some h)) else some h) := by
  intro n; induction n with
  | zero =>
    intro i q k hk h0 hi hQ
    obtain ⟨m, rfl⟩ : ∃ m, k = m + 1 := ⟨k - 1, by omega⟩
    have e : Q = q := by
      cases q with
      | true => exact hQ.mpr (Or.inl rfl)
      | false =>
        cases Q with
        | false => rfl
        | true =>
          rcases hQ.mp rfl with c | ⟨j, j1, j2, j3⟩
          · exact c.symm
          · omega
    rw [e]
    unfold signalboxref23_Tick.l0
    rw [if_neg (by omega)]
  | succ n ih =>
    intro i q k hk h0 hi hQ
    obtain ⟨m, rfl⟩ : ∃ m, k = m + 1 := ⟨k - 1, by omega⟩
    unfold signalboxref23_Tick.l0
    have hw : wrap64 (i + 1) = i + 1 := w64s _ (by omega) (by omega)
    rw [if_pos (by omega), hw]
    cases q with
    | true =>
      rw [if_pos rfl]
      exact ih (i + 1) true m (by omega) (by omega) (by omega) ⟨fun _ => Or.inl rfl, fun _ => hQ.mpr (Or.inl rfl)⟩
    | false =>
      have step : ∀ b : Bool, b = isQ (rd_T65 h i) → signalboxref23_Tick.l0 m h nw since b (i + 1) id km inv mk thr sil = (if sil > 0 then (if Q = true then some h else (if wrap64 (nw - since) ≥ sil then (signalboxref23_put.f h nw true 2 (wrap64 id) 0 0 0 (⟨#[]⟩ : ByteArray) nw 0 0 0 (⟨#[]⟩ : ByteArray)).bind (fun t => some t) else some h)) else some h) := by
        intro b hb
        refine ih (i + 1) b m (by omega) (by omega) (by omega) (hQ.trans ?_)
        constructor
        · rintro (e | ⟨j, j1, j2, j3⟩)
          · cases e
          · rcases Int.lt_or_eq_of_le j1 with j4 | j4
            · exact Or.inr ⟨j, by omega, j2, j3⟩
            · subst j4
              exact Or.inl (hb.trans j3)
        · rintro (e | ⟨j, j1, j2, j3⟩)
          · exact Or.inr ⟨i, Int.le_refl _, by omega, hb ▸ e⟩
          · exact Or.inr ⟨j, by omega, j2, j3⟩
      rw [if_neg (by decide), if_pos h0]
      by_cases hf : (rd_T65 h i).f1 = true
      · rw [if_pos hf]
        exact step _ (by unfold isQ; rw [hf]; rfl)
      · rw [if_neg hf]
        exact step _ (by unfold isQ; rw [Bool.eq_false_iff.mpr hf]; rfl)
theorem j1_tick {l : List S61} {mk : ByteArray} {wb begun : Int} {h : List S65} {s : WS} {t hh : Int} (H : Sm l mk wb h s t hh) (hn : h.length ≤ 950) (hb : watch_within.f begun = some wb) (nw : Int) (id km : Int) (inv : Bool) (thr sil : Int) (hid : s.sil = sil) (k : Nat) (hk : 1010 ≤ k) :
    signalboxref23_Tick.j1 k h begun nw id km inv mk thr sil = some (h ++ if silB s nw = true then [evQ id nw] else []) := by
  obtain ⟨k', rfl⟩ : ∃ k', k = k' + 1 := ⟨k - 1, by omega⟩
  obtain ⟨k2, rfl⟩ : ∃ k2, k' = k2 + 1 := ⟨k' - 1, by omega⟩
  have hh' := last_lt H.lh
  have hW : signalboxref23_Within.f begun = some wb := (within_f begun).trans hb
  have core : signalboxref23_Tick.j2 (k2 + 1) h nw hh s.heard id km inv mk thr sil = some (h ++ if silB s nw = true then [evQ id nw] else []) := by
    unfold signalboxref23_Tick.j2
    show signalboxref23_Tick.l0 k2 h nw s.heard false (wrap64 (hh + 1)) id km inv mk thr sil = _
    have e : s.quiet = true ↔ (false = true ∨ (∃ j : Int, hh + 1 ≤ j ∧ j < h.length ∧ isQ (rd_T65 h j) = true)) := by
      rw [H.quiet]
      constructor
      · rintro ⟨j, j1, j0, j2, j3⟩
        exact Or.inr ⟨j, by omega, j2, j3⟩
      · rintro (e | ⟨j, j1, j2, j3⟩)
        · cases e
        · exact ⟨j, by omega, by omega, j2, j3⟩
    rw [w64s _ (by omega) (by omega), quiet_l0 (by omega) nw s.heard id km inv mk thr sil s.quiet (h.length - (hh + 1).toNat) (hh + 1) false k2 (by omega) (by omega) (by omega) e]
    have hp := put_f h (evQ id nw) (by omega)
    have hp' : signalboxref23_put.f h nw true 2 (wrap64 id) 0 0 0 (⟨#[]⟩ : ByteArray) nw 0 0 0 (⟨#[]⟩ : ByteArray) = some (h ++ [evQ id nw]) := hp
    rw [hp']
    unfold silB
    rw [hid]
    by_cases h1 : sil > 0
    · rw [if_pos h1, decide_eq_true h1]
      cases hq : s.quiet with
      | true =>
        rw [if_pos rfl]
        show some h = some (h ++ [])
        rw [List.append_nil]
      | false =>
        rw [if_neg (by decide)]
        by_cases h3 : wrap64 (nw - s.heard) ≥ sil
        · rw [if_pos h3, decide_eq_true h3]
          rfl
        · rw [if_neg h3, decide_eq_false h3]
          show some h = some (h ++ [])
          rw [List.append_nil]
    · rw [if_neg h1, decide_eq_false h1]
      show some h = some (h ++ [])
      rw [List.append_nil]
  unfold signalboxref23_Tick.j1
  show (signalboxref23_heard.f (k2 + 1) h).bind _ = _
  rw [heard_f H.lh (by omega) _ (by omega)]
  show (signalboxref23_Within.f begun).bind _ = _
  rw [hW]
  show (if hh ≥ 0 then _ else _) = _
  have hhd := H.heard
  by_cases h0 : hh ≥ 0
  · rw [if_pos h0] at hhd ⊢
    rw [if_pos h0, if_pos hh'.1, ← hhd]
    exact core
  · rw [if_neg h0] at hhd ⊢
    rw [← hhd]
    exact core
/-- What a tick makes of both. -/
theorem sim_tick {l : List S61} {mk : ByteArray} {wb begun : Int} {h : List S65} {s : WS} {t hh : Int} (H : Sm l mk wb h s t hh) (hD : FD mk l) (hn : h.length ≤ 900) (hb : watch_within.f begun = some wb) (now nw : Int) (hw : watch_within.f now = some nw) :
    (∃ K, ∀ k, K ≤ k → signalboxref23_Tick.f k s.id s.km s.inv mk s.thr s.sil h begun now = some (h ++ evT s nw)) ∧
      ∃ t' hh', Sm l mk wb (h ++ evT s nw) (if silB s nw = true then { dueS s nw (due s nw) with quiet := true } else dueS s nw (due s nw)) t' hh' := by
  have ht := last_lt H.lt
  have hwR : signalboxref23_Within.f now = some nw := (within_f now).trans hw
  obtain ⟨K1, hH⟩ := held_f H hD (by omega)
  -- what is due
  have D : ∃ (t2 hh2 : Int), Sm l mk wb (h ++ (match due s nw with | none => [] | some f => [evC s.id nw ⟨f.1, f.2.1, f.2.2.1, f.2.2.2⟩])) (dueS s nw (due s nw)) t2 hh2 := by
    cases hdu : due s nw with
    | none => exact ⟨t, hh, by show Sm l mk wb (h ++ []) s t hh; rw [List.append_nil]; exact H⟩
    | some f =>
      have hs : s.held = some f := by
        unfold due at hdu
        cases e : s.held with
        | none => rw [e] at hdu; cases hdu
        | some f' =>
          rw [e] at hdu
          by_cases c : wrap64 (nw - s.at_) ≥ s.thr
          · have : some f' = some f := by rw [← hdu]; exact (if_pos c).symm
            exact this
          · have : (none : Option (Int × Int × Int × ByteArray)) = some f := by rw [← hdu]; exact (if_neg c).symm
            cases this
      have hf : ∃ x ∈ l, (⟨f.1, f.2.1, f.2.2.1, f.2.2.2⟩ : S33) = x.f2 := by
        rcases H.held with ⟨h1, h2⟩ | ⟨h1, h2, d, h3, h4⟩
        · rw [hs] at h2; cases h2
        · rw [hs] at h4
          have hH' : isH (rd_T65 h hh) = true := by rcases H.lh.1 with q | q; omega; exact q.2.2
          obtain ⟨x, hx, e⟩ := H.memH hh (by omega) (last_lt H.lh).1 hH'
          cases d with
          | false => cases h4
          | true =>
            have e3 : f = frS (rd_T65 h hh).f3 := Option.some.inj h4
            exact ⟨x, hx, by rw [e3, ← e]; rfl⟩
      obtain ⟨x, hx, e⟩ := hf
      exact ⟨_, _, H.changed s.id nw x hx _ e⟩
  obtain ⟨t2, hh2, D⟩ := D
  have hsil2 : ∀ o, (dueS s nw o).sil = s.sil := fun o => by cases o <;> rfl
  have hq2 : ∀ o, silB (dueS s nw o) nw = silB s nw := fun o => by cases o <;> rfl
  have hlen : (h ++ (match due s nw with | none => ([] : List S65) | some f => [evC s.id nw ⟨f.1, f.2.1, f.2.2.1, f.2.2.2⟩])).length ≤ 950 := by
    cases due s nw with
    | none => simp; omega
    | some f => simp; omega
  have J1 := fun k (hk : 1010 ≤ k) => j1_tick D hlen hb nw s.id s.km s.inv s.thr s.sil (hsil2 _) k hk
  refine ⟨⟨max K1 1020, fun k hk => ?_⟩, ?_⟩
  · obtain ⟨k', rfl⟩ : ∃ k', k = k' + 1 := ⟨k - 1, by omega⟩
    have eJ : signalboxref23_Tick.j1 k' (h ++ (match due s nw with | none => ([] : List S65) | some f => [evC s.id nw ⟨f.1, f.2.1, f.2.2.1, f.2.2.2⟩])) begun nw s.id s.km s.inv mk s.thr s.sil = some (h ++ evT s nw) := by
      rw [J1 k' (by omega), hq2, List.append_assoc]
      rfl
    unfold signalboxref23_Tick.f
    rw [hwR]
    show (signalboxref23_Held.f (k' + 1) s.id s.km s.inv mk s.thr s.sil h).bind _ = _
    rw [hH _ (by omega)]
    cases hs : s.held with
    | none =>
      have hdu : due s nw = none := by unfold due; rw [hs]
      rw [hdu] at eJ
      show signalboxref23_Tick.j0 (k' + 1) h begun nw false s.id s.km s.inv mk s.thr s.sil 0 0 0 (⟨#[]⟩ : ByteArray) = _
      unfold signalboxref23_Tick.j0
      rw [List.append_nil] at eJ
      exact eJ
    | some f =>
      have h1 : 0 ≤ t := by
        rcases H.held with ⟨_, h2⟩ | ⟨h1, _⟩
        · rw [hs] at h2; cases h2
        · exact h1
      have hat : s.at_ = (rd_T65 h t).f0 := by
        rcases H.told with ⟨q, _⟩ | ⟨_, _, q⟩
        · omega
        · exact q
      show (signalboxref23_last.f (k' + 1) h).bind _ = _
      rw [last_f H.lt (by omega) _ (by omega)]
      show (if 0 ≤ t then _ else _) = _
      rw [if_pos h1, if_pos ht.1, ← hat]
      by_cases c : wrap64 (nw - s.at_) ≥ s.thr
      · have hdu : due s nw = some f := by unfold due; rw [hs]; exact if_pos c
        rw [hdu] at eJ
        rw [decide_eq_true c]
        unfold signalboxref23_Tick.j0
        show (signalboxref23_put.f h nw true 1 (wrap64 s.id) f.1 f.2.1 f.2.2.1 f.2.2.2 nw 0 0 0 (⟨#[]⟩ : ByteArray)).bind _ = _
        have hp : signalboxref23_put.f h nw true 1 (wrap64 s.id) f.1 f.2.1 f.2.2.1 f.2.2.2 nw 0 0 0 (⟨#[]⟩ : ByteArray) = some (h ++ [evC s.id nw ⟨f.1, f.2.1, f.2.2.1, f.2.2.2⟩]) := put_f h (evC s.id nw ⟨f.1, f.2.1, f.2.2.1, f.2.2.2⟩) (by omega)
        rw [hp]
        exact eJ
      · have hdu : due s nw = none := by unfold due; rw [hs]; exact if_neg c
        rw [hdu] at eJ
        rw [decide_eq_false c]
        unfold signalboxref23_Tick.j0
        rw [List.append_nil] at eJ
        exact eJ
  · unfold evT
    rw [← List.append_assoc]
    by_cases c : silB s nw = true
    · rw [if_pos c, if_pos c]
      have e : (dueS s nw (due s nw)).id = s.id := by cases due s nw <;> rfl
      exact ⟨_, _, D.silent s.id nw⟩
    · rw [if_neg c, if_neg c, List.append_nil]
      exact ⟨_, _, D⟩
theorem WAt.lowerP {W : World} {base b g : Nat} {s : WS} (h : WAt W base g s) (hb : b ≤ base) : WAt W b g s := by
  obtain ⟨h0, pt, ph, h1, h2, h3⟩ := h
  have far : ∀ (v : Value) (o : Option (Int × Int × Int × ByteArray)), FrAt W base v o → FrAt W b v o := by
    intro v o hf
    cases o with
    | none => exact hf
    | some f =>
      obtain ⟨c, q1, q2, q3⟩ := hf
      exact ⟨c, q1, Nat.le_trans hb q2, q3⟩
  exact ⟨Nat.le_trans hb h0, pt, ph, h1, far _ _ h2, far _ _ h3⟩
theorem right_f (id km : Int) (inv : Bool) (mk : ByteArray) (thr sil : Int) (b : Bool) (h : signalboxref23_Right.f id km inv mk thr sil = some b) : watch_Right.f 5 id km inv mk thr sil = some (if b = true then 0 else 2) := by
  unfold signalboxref23_Right.f at h
  unfold watch_Right.f watch_count.f
  by_cases h1 : thr ≥ 0
  · rw [if_pos h1] at h
    by_cases h2 : thr ≤ 1099511627776
    · rw [if_pos h2] at h
      by_cases h3 : sil ≥ 0
      · rw [if_pos h3] at h
        by_cases h4 : sil ≤ 1099511627776
        · rw [if_pos h4] at h
          have hb := Option.some.inj h
          subst hb; by_cases h5 : (mk.size : Int) ≤ 64
          · simp [h1, h2, h3, h4, h5, watch_Right.j0, show ¬ ((mk.size : Int) > 64) by omega]
          · simp [h1, h2, h3, h4, h5, watch_Right.j0, show ((mk.size : Int) > 64) by omega]
        · rw [if_neg h4] at h
          have hb := Option.some.inj h
          subst hb; simp [h1, h2, h3, h4, watch_Right.j0]
      · rw [if_neg h3] at h
        have hb := Option.some.inj h
        subst hb; simp [h1, h2, h3, watch_Right.j0]
    · rw [if_neg h2] at h
      have hb := Option.some.inj h
      subst hb; simp [h1, h2, watch_Right.j0]
  · rw [if_neg h1] at h
    have hb := Option.some.inj h
    subst hb; simp [h1, watch_Right.j0]
/-- What lies in the world: the job that was told, our own one, the document's events. -/
structure StW (w W : World) (jb g : Nat) (jc : Array Value) (s : WS) (v : Value) (h : List S65) : Prop where
  HB : Below w.heap.size w W
  HA : WAt W w.heap.size g s
  HJ : W.heap[jb]? = some (.cells jc 31 (0, 0))
  HR : Kd.R k65 65 W w.heap.size (fun k => some k = v.ownBlock) v h
theorem StW.call {w W W' : World} {jb g : Nat} {jc : Array Value} {s : WS} {v : Value} {h : List S65} (H : StW w W jb g jc s v h) (k : Below W.heap.size W W') : StW w W' jb g jc s v h :=
  ⟨below_step H.HB k, H.HA.call k, blk_below H.HJ k, Kd.R_below H.HR k⟩
theorem WAt.ne_ty {W : World} {base g n t : Nat} {s : WS} {cs : Array Value} (h : WAt W base g s) (hn : W.heap[n]? = some (.cells cs t (0, 0))) (ht : t ≠ 72) : n ≠ g := by
  obtain ⟨h0, pt, ph, h1, h2, h3⟩ := h
  intro e; rw [e, h1] at hn
  injection hn with hn
  injection hn with _ hn
  exact ht hn.symm
theorem StW.wk {w W W' : World} {jb g : Nat} {jc : Array Value} {s s' : WS} {v : Value} {h : List S65} (H : StW w W jb g jc s v h) (hA : WAt W' w.heap.size g s') (hK : Wk w.heap.size g W W') : StW w W' jb g jc s' v h := by
  refine ⟨H.HB.trans hK.below, hA, hK.keep.blk H.HJ (H.HA.ne_ty H.HJ (by decide)) (fun e => by cases e), Kd.R_keep H.HR hK.keep (fun k hk e => ?_)⟩
  obtain ⟨h0, pt, ph, h1, h2, h3⟩ := H.HA
  exact Kd.R_ne H.HR h1 (by decide) (e ▸ hk)
theorem StW.ref {w W W' : World} {jb g : Nat} {jc : Array Value} {s : WS} {v v' : Value} {h h' : List S65} {P : Nat → Prop} (H : StW w W jb g jc s v h) (hR : Kd.R k65 65 W' w.heap.size P v' h') (hB : Below w.heap.size w W') (hK : Kept W W' (fun k => some k = v.ownBlock)) : StW w W' jb g jc s v' h' := by
  have far : ∀ (b t : Nat) (cs : Array Value), W.heap[b]? = some (.cells cs t (0, 0)) → t ≠ 65 → W'.heap[b]? = some (.cells cs t (0, 0)) := by
    intro b t cs hb ht
    exact (hK.2 b (blk_lt hb) (Kd.R_ne H.HR hb (fun e => ht e.symm))).trans hb
  refine ⟨hB, ?_, far _ _ _ H.HJ (by decide), Kd.R_tight (by rfl) hR⟩
  obtain ⟨h0, pt, ph, h1, h2, h3⟩ := H.HA
  have ff : ∀ (u : Value) (o : Option (Int × Int × Int × ByteArray)), FrAt W w.heap.size u o → FrAt W' w.heap.size u o := by
    intro u o hf
    cases o with
    | none => exact hf
    | some f =>
      obtain ⟨b, q1, q2, q3⟩ := hf
      exact ⟨b, q1, q2, far _ _ _ q3 (by decide)⟩
  exact ⟨h0, pt, ph, far _ _ _ h1 (by decide), ff _ _ h2, ff _ _ h3⟩
theorem StW.drew {w W : World} {jb g : Nat} {jc : Array Value} {s : WS} {v : Value} {h : List S65} (H : StW w W jb g jc s v h) : StW w W.drew jb g jc s v h := H.call (below_drew1 (Below.refl _ _))
theorem StW.drewN {w W : World} {jb g : Nat} {jc : Array Value} {s : WS} {v : Value} {h : List S65} (H : StW w W jb g jc s v h) (n : Nat) : StW w (W.drewN n) jb g jc s v h := H.call (pw_below_drewN (Below.refl _ _) n)
theorem StW.alloc {w W : World} {jb g : Nat} {jc : Array Value} {s : WS} {v : Value} {h : List S65} (H : StW w W jb g jc s v h) (o : Obj) : StW w (W.alloc o) jb g jc s v h := H.call (below_alloc (Below.refl _ _) o)
/-- A slice that can be read. -/
def NR (W : World) (v : Value) (ns : List S35) : Prop := ∃ A c, v = .slice A ns.length c ∧ ns.length ≤ c ∧ Kd.C k35 W A ns.length ns
theorem NR.call {W W' : World} {v : Value} {ns : List S35} (H : NR W v ns) (k : Below W.heap.size W W') : NR W' v ns := by
  obtain ⟨A, c, e, h1, h2⟩ := H
  exact ⟨A, c, e, h1, Kd.C_below h2 k⟩
theorem NR.of {W : World} {v : Value} {ns : List S35} {base : Nat} {ok : Nat → Prop} (H : Kd.R k35 35 W base ok v ns) : NR W v ns := by
  obtain ⟨A, c, e, h1, h2⟩ := Kd.R_reads H
  exact ⟨A, c, e, h1, h2⟩
theorem rd61_mem (l : List S61) (i : Int) (h0 : 0 ≤ i) (h1 : i < l.length) : rd_T61 l i ∈ l := by
  unfold rd_T61
  rw [List.getD_eq_getElem?_getD, List.getElem?_eq_getElem (by omega : i.toNat < l.length)]
  exact List.getElem_mem _
theorem within_b {x y : Int} (h : watch_within.f x = some y) : 0 ≤ y ∧ y ≤ 2305843009213693952 := by
  have e : (mn (mx x 0) 2305843009213693952) = y := Option.some.inj h
  unfold mn mx at e
  repeat' split at e
  all_goals omega
theorem half_b {x y : Int} (h : watch_within.f x = some y) (l : List S61) : 0 ≤ (0 : Int) ∧ (0 : Int) ≤ l.length ∧ ((200 : Nat) : Int) + 0 = 200 ∧ 0 ≤ wrap64 (y.tdiv 2) ∧ wrap64 (y.tdiv 2) ≤ 2305843009213693952 + 0 * 1000000 ∧ ((([] : List S65).length : Nat) : Int) ≤ 2 * 0 := by
  obtain ⟨h0, h1⟩ := within_b h
  have e : y.tdiv 2 = y / 2 := Int.tdiv_eq_ediv_of_nonneg h0
  rw [e]
  have e2 : wrap64 (y / 2) = y / 2 := by
    unfold wrap64
    omega
  rw [e2]
  simp only [List.length_nil]
  omega
def notesOf (l : List S65) : List S35 := (l.filter (fun e => e.f1)).map (fun e => e.f2)
theorem notes_evT (s : WS) (nw : Int) : dueL s nw (due s nw) ++ (if silB s nw = true then [(⟨2, wrap64 s.id, (⟨0, 0, 0, ⟨#[]⟩⟩ : S33), nw⟩ : S35)] else []) = notesOf (evT s nw) := by
  unfold evT notesOf
  cases due s nw with
  | none =>
    by_cases c : silB s nw = true
    · rw [if_pos c, if_pos c]
      rfl
    · rw [if_neg c, if_neg c]
      rfl
  | some f =>
    by_cases c : silB s nw = true
    · rw [if_pos c, if_pos c]
      rfl
    · rw [if_neg c, if_neg c]
      rfl
theorem len_evT (s : WS) (nw : Int) : (evT s nw).length ≤ 2 := by
  unfold evT
  cases due s nw with
  | none =>
    by_cases c : silB s nw = true
    · rw [if_pos c]
      exact Nat.le_succ 1
    · rw [if_neg c]
      exact Nat.zero_le 2
  | some f =>
    by_cases c : silB s nw = true
    · rw [if_pos c]
      exact Nat.le_refl 2
    · rw [if_neg c]
      exact Nat.le_succ 1
theorem tick_c (s : WS) (nw : Int) (a b : Int) (c : Bool) (d : ByteArray) (e f : Int) (h : s.id = a ∧ s.km = b ∧ s.inv = c ∧ s.wmk = d ∧ s.thr = e ∧ s.sil = f) : (if silB s nw = true then { dueS s nw (due s nw) with quiet := true } else dueS s nw (due s nw)).id = a ∧ (if silB s nw = true then { dueS s nw (due s nw) with quiet := true } else dueS s nw (due s nw)).km = b ∧ (if silB s nw = true then { dueS s nw (due s nw) with quiet := true } else dueS s nw (due s nw)).inv = c ∧ (if silB s nw = true then { dueS s nw (due s nw) with quiet := true } else dueS s nw (due s nw)).wmk = d ∧ (if silB s nw = true then { dueS s nw (due s nw) with quiet := true } else dueS s nw (due s nw)).thr = e ∧ (if silB s nw = true then { dueS s nw (due s nw) with quiet := true } else dueS s nw (due s nw)).sil = f := by
  by_cases c : silB s nw = true
  · simp only [if_pos c]
    cases due s nw with
    | none => exact h
    | some f => exact h
  · simp only [if_neg c]
    cases due s nw with
    | none => exact h
    | some f => exact h
theorem hear_t (k base g : Nat) (s : WS) (now nw : Int) (x : S33) (m df : Bool) (w : World) (hb : base ≤ w.heap.size) (hgw : g < w.heap.size) (hW : WAt w base g s) (hm : match_Match.f k s.id s.km s.inv x.f0 x.f1 x.f2 x.f3 = some m) (hw : watch_within.f now = some nw) (hd : difS { s with heard := nw, quiet := false } x.f2 x.f3 = some df) (ht : (hearS s nw (frS x) m df).1 = true) :
    Calls Try.prog 10 #[.pointer (some ⟨g, 0, none⟩), .int .i64 now, .agg #[.int .i64 x.f0, .int .i64 x.f1, .int .i64 x.f2, .string x.f3]] w fun e w' => e = .returned (.tuple #[.agg #[.int .i64 1, .int .i64 (wrap64 s.id), .int .i64 x.f0, .int .i64 x.f1, .int .i64 x.f2, .string x.f3, .int .i64 nw], .bool true]) ∧ WAt w' base g (hearS s nw (frS x) m df).2 ∧ Wk base g w w' := by
  refine (hear_ok k base g s now nw x.f0 x.f1 x.f2 x.f3 m df w hb hgw hW hm hw hd).mono ?_
  rintro e w' ⟨rfl, hA, hK⟩
  refine ⟨?_, hA, hK⟩
  show Ending.returned (if (hearS s nw (frS x) m df).1 = true then _ else _) = _
  rw [if_pos ht]
theorem hear_f (k base g : Nat) (s : WS) (now nw : Int) (x : S33) (m df : Bool) (w : World) (hb : base ≤ w.heap.size) (hgw : g < w.heap.size) (hW : WAt w base g s) (hm : match_Match.f k s.id s.km s.inv x.f0 x.f1 x.f2 x.f3 = some m) (hw : watch_within.f now = some nw) (hd : difS { s with heard := nw, quiet := false } x.f2 x.f3 = some df) (ht : (hearS s nw (frS x) m df).1 = false) :
    Calls Try.prog 10 #[.pointer (some ⟨g, 0, none⟩), .int .i64 now, .agg #[.int .i64 x.f0, .int .i64 x.f1, .int .i64 x.f2, .string x.f3]] w fun e w' => e = .returned (.tuple #[.agg #[.int .i64 0, .int .i64 0, .int .i64 0, .int .i64 0, .int .i64 0, .string (⟨#[]⟩ : ByteArray), .int .i64 0], .bool false]) ∧ WAt w' base g (hearS s nw (frS x) m df).2 ∧ Wk base g w w' := by
  refine (hear_ok k base g s now nw x.f0 x.f1 x.f2 x.f3 m df w hb hgw hW hm hw hd).mono ?_
  rintro e w' ⟨rfl, hA, hK⟩
  refine ⟨?_, hA, hK⟩
  show Ending.returned (if (hearS s nw (frS x) m df).1 = true then _ else _) = _
  rw [if_neg (by rw [ht]; decide)]
theorem hear_c (s : WS) (nw : Int) (fr : Int × Int × Int × ByteArray) (m df : Bool) (a b : Int) (c : Bool) (d : ByteArray) (e f : Int) (h : s.id = a ∧ s.km = b ∧ s.inv = c ∧ s.wmk = d ∧ s.thr = e ∧ s.sil = f) : (hearS s nw fr m df).2.id = a ∧ (hearS s nw fr m df).2.km = b ∧ (hearS s nw fr m df).2.inv = c ∧ (hearS s nw fr m df).2.wmk = d ∧ (hearS s nw fr m df).2.thr = e ∧ (hearS s nw fr m df).2.sil = f := by
  unfold hearS
  by_cases c1 : m = false
  · rw [if_pos c1]
    exact h
  · rw [if_neg c1]
    by_cases c2 : df = false
    · rw [if_pos c2]
      exact h
    · rw [if_neg c2]
      cases s.told with
      | none => exact h
      | some t =>
        show (if wrap64 (nw - s.at_) < s.thr then _ else _ : Bool × WS).2.id = a ∧ _
        by_cases c3 : wrap64 (nw - s.at_) < s.thr
        · simp only [if_pos c3]
          exact h
        · simp only [if_neg c3]
          exact h
theorem len_evH (id nw : Int) (f : S33) (m t : Bool) : (evH id nw f m t).length ≤ 2 := by
  unfold evH
  cases m with
  | false => exact Nat.zero_le 2
  | true =>
    cases t with
    | false => exact Nat.le_succ 1
    | true => exact Nat.le_refl 2
theorem notes_evH_f (id nw : Int) (f : S33) (m : Bool) : notesOf (evH id nw f m false) = [] := by
  cases m with
  | false => rfl
  | true => rfl
theorem notes_evH_t (s : WS) (nw : Int) (fr : Int × Int × Int × ByteArray) (m df : Bool) (f : S33) (h : (hearS s nw fr m df).1 = true) : notesOf (evH s.id nw f m true) = [⟨1, wrap64 s.id, f, nw⟩] := by
  cases m with
  | false =>
    unfold hearS at h
    rw [if_pos rfl] at h
    cases h
  | true => rfl
/-- The block of one call lies apart from what the document's answer may change. -/
theorem OpAt.ref {w W W' : World} {jb g ob : Nat} {jc cs : Array Value} {s : WS} {v : Value} {h : List S65} (H : StW w W jb g jc s v h) (hO : W.heap[ob]? = some (.cells cs 61 (0, 0))) (hK : Kept W W' (fun k => some k = v.ownBlock)) : W'.heap[ob]? = some (.cells cs 61 (0, 0)) :=
  (hK.2 ob (blk_lt hO) (Kd.R_ne H.HR hO (by decide))).trans hO
theorem NR.nil (W : World) : NR W (.slice none 0 0) [] := NR.of (Kd.R_nil k35 35 W 0 (fun _ => True))
theorem drop_C {w : World} {A : Option Addr} {c : Nat} {h evs : List S65} (H : Kd.C k65 w A (h ++ evs).length (h ++ evs)) (hc : (h ++ evs).length ≤ c) : Kd.C k65 w (if c = h.length then A else A.map (·.add (h.length * 13))) evs.length evs := by
  have h1 := Kd.C_drop (m := h.length) H (by rw [List.length_append]; omega) hc
  rw [List.drop_left] at h1
  exact h1
theorem drop65 (l : List S65) (j : Int) (h0 : 0 ≤ j) (h1 : j < l.length) : l.drop j.toNat = rd_T65 l j :: l.drop (j + 1).toNat := by
  have e : (j + 1).toNat = j.toNat + 1 := by omega
  rw [e, List.drop_eq_getElem_cons (by omega : j.toNat < l.length)]
  unfold rd_T65
  rw [List.getD_eq_getElem?_getD, List.getElem?_eq_getElem (by omega : j.toNat < l.length)]
  rfl
theorem NR.cons {W : World} {v : Value} {n : S35} {ns : List S35} (H : NR W v (n :: ns)) : ∃ (ad : Addr) (c : Nat), v = .slice (some ad) (ns.length + 1) c ∧ ns.length + 1 ≤ c ∧
    (W.cell? ad = some (.int .i64 n.f0) ∧ W.cell? ⟨ad.block, ad.off + 1, none⟩ = some (.int .i64 n.f1) ∧ W.cell? ⟨ad.block, ad.off + 2, none⟩ = some (.int .i64 n.f2.f0) ∧ W.cell? ⟨ad.block, ad.off + 3, none⟩ = some (.int .i64 n.f2.f1) ∧ W.cell? ⟨ad.block, ad.off + 4, none⟩ = some (.int .i64 n.f2.f2) ∧ W.cell? ⟨ad.block, ad.off + 5, none⟩ = some (.string n.f2.f3) ∧ W.cell? ⟨ad.block, ad.off + 6, none⟩ = some (.int .i64 n.f3)) ∧
    NR W (.slice (if c = 1 then some ad else (some ad).map (·.add (1 * 7))) ns.length (c - 1)) ns := by
  obtain ⟨A, c, e, hc, hC⟩ := H
  obtain ⟨ad, ea, g0, g1, g2, g3, g4, g5, g6⟩ := at_T35 hC 0 (Int.le_refl _) (by rw [List.length_cons]; omega)
  subst ea; have hd := Kd.C_drop (m := 1) hC (by rw [List.length_cons]; omega) hc
  rw [List.length_cons] at hc
  rw [show ((0 : Int)).toNat = 0 from rfl, show 0 * 7 = 0 from rfl, Addr.add_zero'] at g0 g1 g2 g3 g4 g5 g6
  refine ⟨ad, c, e, hc, ⟨?_, g1, g2, g3, g4, g5, g6⟩, ⟨_, _, rfl, by omega, hd⟩⟩
  exact g0
theorem frT_o4 (o : Option (Int × Int × Int × ByteArray)) : frT o = .tuple #[.agg #[.int .i64 (o4 o).1, .int .i64 (o4 o).2.1, .int .i64 (o4 o).2.2.1, .string (o4 o).2.2.2.1], .bool (o4 o).2.2.2.2] := by
  cases o with
  | none => rfl
  | some f => rfl
theorem frT_q {o : Option (Int × Int × Int × ByteArray)} {q1 q2 q3 : Int} {q4 : ByteArray} {q5 : Bool} (h : o4 o = (q1, q2, q3, q4, q5)) : frT o = .tuple #[.agg #[.int .i64 q1, .int .i64 q2, .int .i64 q3, .string q4], .bool q5] := by
  rw [frT_o4, h]
theorem told_q (base g : Nat) (s : WS) (w : World) (hW : WAt w base g s) {q1 q2 q3 : Int} {q4 : ByteArray} {q5 : Bool} (h : o4 s.told = (q1, q2, q3, q4, q5)) : Calls Try.prog 17 #[.pointer (some ⟨g, 0, none⟩)] w fun e w' => e = .returned (.tuple #[.agg #[.int .i64 q1, .int .i64 q2, .int .i64 q3, .string q4], .bool q5]) ∧ Below w.heap.size w w' := frT_q h ▸ told_ok base g s w hW
theorem held_q (base g : Nat) (s : WS) (w : World) (hW : WAt w base g s) {q1 q2 q3 : Int} {q4 : ByteArray} {q5 : Bool} (h : o4 s.held = (q1, q2, q3, q4, q5)) : Calls Try.prog 18 #[.pointer (some ⟨g, 0, none⟩)] w fun e w' => e = .returned (.tuple #[.agg #[.int .i64 q1, .int .i64 q2, .int .i64 q3, .string q4], .bool q5]) ∧ Below w.heap.size w w' := frT_q h ▸ held_ok base g s w hW
def WPF (id km : Int) (inv : Bool) (mk : ByteArray) (thr sil : Int) (l : List S61) : Prop := ∃ k b rb, signalboxlaw23_few.f k l = some b ∧ signalboxref23_Right.f id km inv mk thr sil = some rb ∧ (b = true → l.length ≤ 150 ∧ (∀ x ∈ l, 0 ≤ x.f1 ∧ x.f1 ≤ 1000000)) ∧
  (b = true → rb = true → FD mk l ∧ ∀ x ∈ l, ∃ m K, ∀ k, K ≤ k → match_Match.f k id km inv x.f2.f0 x.f2.f1 x.f2.f2 x.f2.f3 = some m ∧ signalboxref05_Match.f k id km inv x.f2.f0 x.f2.f1 x.f2.f2 x.f2.f3 = some m)
open Classical in
noncomputable def signalboxlaw23_WatchPlays.f (a0_0 : Int) (a0_1 : Int) (a0_2 : Bool) (a0_3 : ByteArray) (a0_4 : Int) (a0_5 : Int) (a1 : Int) (l2 : List S61) : Option Bool := if WPF a0_0 a0_1 a0_2 a0_3 a0_4 a0_5 l2 then some true else none
set_option maxRecDepth 1000000 in
set_option maxHeartbeats 16000000 in
theorem signalboxlaw23_WatchPlays.calls (a0_0 : Int) (a0_1 : Int) (a0_2 : Bool) (a0_3 : ByteArray) (a0_4 : Int) (a0_5 : Int) (a1 : Int) (A2 : Option Addr) (c2 : Nat) (l2 : List S61) (r : Bool) (w : World) (hr2 : Kd.C k61 w A2 l2.length l2) (hc2 : l2.length ≤ c2) (h : signalboxlaw23_WatchPlays.f a0_0 a0_1 a0_2 a0_3 a0_4 a0_5 a1 l2 = some r) :
    Calls Try.prog 6 #[.agg #[.int .u32 a0_0, .int .u32 a0_1, .bool a0_2, .string a0_3, .int .i64 a0_4, .int .i64 a0_5], .int .i64 a1, .slice A2 l2.length c2] w fun e w' => e = .returned (.bool r) ∧ Below w.heap.size w w' := by
  have HF : WPF a0_0 a0_1 a0_2 a0_3 a0_4 a0_5 l2 ∧ r = true := by
    unfold signalboxlaw23_WatchPlays.f at h
    by_cases c : WPF a0_0 a0_1 a0_2 a0_3 a0_4 a0_5 l2
    · rw [if_pos c] at h
      exact ⟨c, (Option.some.inj h).symm⟩
    · rw [if_neg c] at h
      cases h
  obtain ⟨⟨kf, b, rb, hfew, hright, hlen, hfd⟩, rfl⟩ := HF
  clear h; have HR2 := Aside0.mk hr2; have HC2 := Aside0.mk hc2; have HFW := Aside0.mk hfew; have HRT := Aside0.mk hright; have HLN := Aside0.mk hlen; have HFD := Aside0.mk hfd; clear hr2 hc2 hfew hright hlen hfd; have hu := Try.underlying33
  have hu2 := Try.underlying72
  have hu3 := Try.underlying31
  have hu4 := Try.underlying29
  have hu5 := Try.underlying35
  have hu6 := Try.underlying39
  have HJ := Aside0.mk (blk_new w (Obj.cells #[.int .u32 a0_0, .int .u32 a0_1, .bool a0_2, .string a0_3, .int .i64 a0_4, .int .i64 a0_5] 31 (0, 0)))
  have HB := Aside0.mk (below_alloc (Below.refl w.heap.size w) (Obj.cells #[.int .u32 a0_0, .int .u32 a0_1, .bool a0_2, .string a0_3, .int .i64 a0_4, .int .i64 a0_5] 31 (0, 0)))
  have hu61 := Try.underlying61
  have hu65 := Try.underlying65
  go_enter Try.func6, Try.ntmps6
  go_upto_region 1 with (fail)
  generalize (w.alloc (Obj.cells #[.int .u32 a0_0, .int .u32 a0_1, .bool a0_2, .string a0_3, .int .i64 a0_4, .int .i64 a0_5] 31 (0, 0))) = W0 at HJ HB ⊢
  cases b with
  | false =>
    go_wp2_with (first | (go_at_call 19; (with_reducible refine (signalboxlaw23_few.calls kf A2 c2 l2 _ _ (Kd.C_below HR2.out HB.out) HC2.out HFW.out).mono ?_); rintro e w1 ⟨rfl, hb⟩; have n0_ := Aside0.mk (below_step HB.out hb); have n1_ := Aside0.mk (blk_below HJ.out hb); clear HB HJ hb; have HB := n0_; have HJ := n1_; clear n0_ n1_) | (go_at_call 8; (with_reducible refine (alive_ok _).mono ?_); rintro e w90 ⟨rfl, hb⟩; have n0_ := Aside0.mk (below_step HB.out hb); clear HB hb; have HB := n0_; clear n0_))
    go_ret
    exact ⟨rfl, HB.out⟩
  | true =>
  have HL2 := Aside0.mk (HLN.out rfl)
  clear HLN; go_upto_region 3 with (first | (go_at_call 19; (with_reducible refine (signalboxlaw23_few.calls kf A2 c2 l2 _ _ (Kd.C_below HR2.out HB.out) HC2.out HFW.out).mono ?_); rintro e w1 ⟨rfl, hb⟩; have n0_ := Aside0.mk (below_step HB.out hb); have n1_ := Aside0.mk (blk_below HJ.out hb); clear HB HJ hb; have HB := n0_; have HJ := n1_; clear n0_ n1_))
  have hj0 : w1.cell? ⟨w.heap.size, 0, none⟩ = some (.int .u32 a0_0) := (blk_cell HJ.out 0).trans rfl; have hj1 : w1.cell? ⟨w.heap.size, 1, none⟩ = some (.int .u32 a0_1) := (blk_cell HJ.out 1).trans rfl; have hj2 : w1.cell? ⟨w.heap.size, 2, none⟩ = some (.bool a0_2) := (blk_cell HJ.out 2).trans rfl; have hj3 : w1.cell? ⟨w.heap.size, 3, none⟩ = some (.string a0_3) := (blk_cell HJ.out 3).trans rfl; have hj4 : w1.cell? ⟨w.heap.size, 4, none⟩ = some (.int .i64 a0_4) := (blk_cell HJ.out 4).trans rfl; have hj5 : w1.cell? ⟨w.heap.size, 5, none⟩ = some (.int .i64 a0_5) := (blk_cell HJ.out 5).trans rfl
  cases rb with
  | false =>
    have HW5 := Aside0.mk (show watch_Right.f 5 a0_0 a0_1 a0_2 a0_3 a0_4 a0_5 = some 2 from right_f a0_0 a0_1 a0_2 a0_3 a0_4 a0_5 false HRT.out)
    go_wp2_with (first | (go_at_call 9; (with_reducible refine (new_bad 5 a0_0 a0_1 a0_2 a0_3 a0_4 a0_5 a1 _ HW5.out).mono ?_); rintro e w2 ⟨rfl, hb⟩; clear hj0 hj1 hj2 hj3 hj4 hj5; have n0_ := Aside0.mk (below_step HB.out hb); have n1_ := Aside0.mk (blk_below HJ.out hb); clear HB HJ hb; have HB := n0_; have HJ := n1_; clear n0_ n1_; have hj0 : w2.cell? ⟨w.heap.size, 0, none⟩ = some (.int .u32 a0_0) := (blk_cell HJ.out 0).trans rfl; have hj1 : w2.cell? ⟨w.heap.size, 1, none⟩ = some (.int .u32 a0_1) := (blk_cell HJ.out 1).trans rfl; have hj2 : w2.cell? ⟨w.heap.size, 2, none⟩ = some (.bool a0_2) := (blk_cell HJ.out 2).trans rfl; have hj3 : w2.cell? ⟨w.heap.size, 3, none⟩ = some (.string a0_3) := (blk_cell HJ.out 3).trans rfl; have hj4 : w2.cell? ⟨w.heap.size, 4, none⟩ = some (.int .i64 a0_4) := (blk_cell HJ.out 4).trans rfl; have hj5 : w2.cell? ⟨w.heap.size, 5, none⟩ = some (.int .i64 a0_5) := (blk_cell HJ.out 5).trans rfl) | (go_at_call 20; (with_reducible refine (signalboxref23_Right.calls a0_0 a0_1 a0_2 a0_3 a0_4 a0_5 _ _ HRT.out).mono ?_); rintro e w3 ⟨rfl, hb⟩; clear hj0 hj1 hj2 hj3 hj4 hj5; have n0_ := Aside0.mk (below_step HB.out hb); have n1_ := Aside0.mk (blk_below HJ.out hb); clear HB HJ hb; have HB := n0_; have HJ := n1_; clear n0_ n1_; have hj0 : w3.cell? ⟨w.heap.size, 0, none⟩ = some (.int .u32 a0_0) := (blk_cell HJ.out 0).trans rfl; have hj1 : w3.cell? ⟨w.heap.size, 1, none⟩ = some (.int .u32 a0_1) := (blk_cell HJ.out 1).trans rfl; have hj2 : w3.cell? ⟨w.heap.size, 2, none⟩ = some (.bool a0_2) := (blk_cell HJ.out 2).trans rfl; have hj3 : w3.cell? ⟨w.heap.size, 3, none⟩ = some (.string a0_3) := (blk_cell HJ.out 3).trans rfl; have hj4 : w3.cell? ⟨w.heap.size, 4, none⟩ = some (.int .i64 a0_4) := (blk_cell HJ.out 4).trans rfl; have hj5 : w3.cell? ⟨w.heap.size, 5, none⟩ = some (.int .i64 a0_5) := (blk_cell HJ.out 5).trans rfl) | (go_at_call 21; (with_reducible refine (watch_Right.calls 5 a0_0 a0_1 a0_2 a0_3 a0_4 a0_5 _ _ HW5.out).mono ?_); rintro e w4 ⟨rfl, hb⟩; clear hj0 hj1 hj2 hj3 hj4 hj5; have n0_ := Aside0.mk (below_step HB.out hb); have n1_ := Aside0.mk (blk_below HJ.out hb); clear HB HJ hb; have HB := n0_; have HJ := n1_; clear n0_ n1_) | (go_at_call 8; (with_reducible refine (alive_ok _).mono ?_); rintro e w90 ⟨rfl, hb⟩; have n0_ := Aside0.mk (below_step HB.out hb); clear HB hb; have HB := n0_; clear n0_))
    go_ret
    exact ⟨rfl, HB.out⟩
  | true =>
  have HW5 := Aside0.mk (show watch_Right.f 5 a0_0 a0_1 a0_2 a0_3 a0_4 a0_5 = some 0 from right_f a0_0 a0_1 a0_2 a0_3 a0_4 a0_5 true HRT.out)
  have hfd2 : FD a0_3 l2 ∧ ∀ x ∈ l2, ∃ m K, ∀ k, K ≤ k → match_Match.f k a0_0 a0_1 a0_2 x.f2.f0 x.f2.f1 x.f2.f2 x.f2.f3 = some m ∧ signalboxref05_Match.f k a0_0 a0_1 a0_2 x.f2.f0 x.f2.f1 x.f2.f2 x.f2.f3 = some m := by
    first
    | exact HFD.out rfl rfl
    | exact HFD.out trivial rfl
    | exact HFD.out trivial trivial
    | exact HFD.out trivial
    | exact HFD.out
  have HD := Aside0.mk hfd2.1
  have HM0 := Aside0.mk hfd2.2
  clear hfd2; clear HFD; obtain ⟨wb, hwb⟩ : ∃ wb, watch_within.f a1 = some wb := ⟨_, rfl⟩
  have HWB := Aside0.mk hwb; clear hwb; go_upto_region 6 with (first | (go_at_call 9; (with_reducible refine (new_ok 5 a0_0 a0_1 a0_2 a0_3 a0_4 a0_5 a1 wb _ HW5.out HWB.out).mono ?_); rintro e w2 ⟨g, rfl, hA, hb⟩; have HS := Aside0.mk (show StW w w2 w.heap.size g #[.int .u32 a0_0, .int .u32 a0_1, .bool a0_2, .string a0_3, .int .i64 a0_4, .int .i64 a0_5] _ (.slice none 0 0) [] from ⟨below_step HB.out hb, hA.lowerP (below_size HB.out), blk_below HJ.out hb, Kd.R_nil _ _ _ _ _⟩); clear hj0 hj1 hj2 hj3 hj4 hj5; clear HB HJ hA hb; have HJ := Aside0.mk HS.out.HJ; have hj0 : w2.cell? ⟨w.heap.size, 0, none⟩ = some (.int .u32 a0_0) := (blk_cell HJ.out 0).trans rfl; have hj1 : w2.cell? ⟨w.heap.size, 1, none⟩ = some (.int .u32 a0_1) := (blk_cell HJ.out 1).trans rfl; have hj2 : w2.cell? ⟨w.heap.size, 2, none⟩ = some (.bool a0_2) := (blk_cell HJ.out 2).trans rfl; have hj3 : w2.cell? ⟨w.heap.size, 3, none⟩ = some (.string a0_3) := (blk_cell HJ.out 3).trans rfl; have hj4 : w2.cell? ⟨w.heap.size, 4, none⟩ = some (.int .i64 a0_4) := (blk_cell HJ.out 4).trans rfl; have hj5 : w2.cell? ⟨w.heap.size, 5, none⟩ = some (.int .i64 a0_5) := (blk_cell HJ.out 5).trans rfl; clear HJ) | (go_at_call 20; (with_reducible refine (signalboxref23_Right.calls a0_0 a0_1 a0_2 a0_3 a0_4 a0_5 _ _ HRT.out).mono ?_); rintro e w3 ⟨rfl, hb⟩; clear hj0 hj1 hj2 hj3 hj4 hj5; have n1_ := Aside0.mk (HS.out.call hb); clear HS hb; have HS := n1_; clear n1_; have HJ := Aside0.mk HS.out.HJ; have hj0 : w3.cell? ⟨w.heap.size, 0, none⟩ = some (.int .u32 a0_0) := (blk_cell HJ.out 0).trans rfl; have hj1 : w3.cell? ⟨w.heap.size, 1, none⟩ = some (.int .u32 a0_1) := (blk_cell HJ.out 1).trans rfl; have hj2 : w3.cell? ⟨w.heap.size, 2, none⟩ = some (.bool a0_2) := (blk_cell HJ.out 2).trans rfl; have hj3 : w3.cell? ⟨w.heap.size, 3, none⟩ = some (.string a0_3) := (blk_cell HJ.out 3).trans rfl; have hj4 : w3.cell? ⟨w.heap.size, 4, none⟩ = some (.int .i64 a0_4) := (blk_cell HJ.out 4).trans rfl; have hj5 : w3.cell? ⟨w.heap.size, 5, none⟩ = some (.int .i64 a0_5) := (blk_cell HJ.out 5).trans rfl; clear HJ))
  clear hj0 hj1 hj2 hj3 hj4 hj5; go_region_held3 (fun w' => w'.cell? ⟨w.heap.size, 0, none⟩ = some (.int .u32 a0_0) ∧ w'.cell? ⟨w.heap.size, 1, none⟩ = some (.int .u32 a0_1) ∧ w'.cell? ⟨w.heap.size, 2, none⟩ = some (.bool a0_2) ∧ w'.cell? ⟨w.heap.size, 3, none⟩ = some (.string a0_3) ∧ w'.cell? ⟨w.heap.size, 4, none⟩ = some (.int .i64 a0_4) ∧ w'.cell? ⟨w.heap.size, 5, none⟩ = some (.int .i64 a0_5)) (first | exact ⟨(blk_cell (blk_drew HS.out.HJ) 0).trans rfl, (blk_cell (blk_drew HS.out.HJ) 1).trans rfl, (blk_cell (blk_drew HS.out.HJ) 2).trans rfl, (blk_cell (blk_drew HS.out.HJ) 3).trans rfl, (blk_cell (blk_drew HS.out.HJ) 4).trans rfl, (blk_cell (blk_drew HS.out.HJ) 5).trans rfl⟩ | exact ⟨(blk_cell HS.out.HJ 0).trans rfl, (blk_cell HS.out.HJ 1).trans rfl, (blk_cell HS.out.HJ 2).trans rfl, (blk_cell HS.out.HJ 3).trans rfl, (blk_cell HS.out.HJ 4).trans rfl, (blk_cell HS.out.HJ 5).trans rfl⟩ | go_keep) (first | (go_at_call 22; (with_reducible refine (job_ok w.heap.size g _ _ HS.out.drew.HA).mono ?_); rintro e w4 ⟨rfl, hb⟩; have n0_ := Aside0.mk (HS.out.drew.call hb); clear HS hb; have HS := n0_; clear n0_))
  go_wp2_with (first | (go_at_call 23; (with_reducible refine (signalboxref23_Within.calls a1 wb _ ((within_f a1).trans HWB.out)).mono ?_); rintro e w5 ⟨rfl, hb⟩; have n0_ := Aside0.mk (HS.out.call hb.below); clear HS hb; have HS := n0_; clear n0_))
  go_loopg [9, 10, 71] 200 (fun kq v9 v10 v71 w' => ∃ (x9 i : Int) (h : List S65) (s : WS) (t hh : Int), v9 = .int .i64 x9 ∧ v71 = .int .i64 i ∧ Aside0 (0 ≤ i ∧ i ≤ l2.length ∧ (kq : Int) + i = 200 ∧ 0 ≤ x9 ∧ x9 ≤ 2305843009213693952 + i * 1000000 ∧ (h.length : Int) ≤ 2 * i) ∧ Aside0 (Sm l2 a0_3 wb h s t hh) ∧ Aside0 (s.id = a0_0 ∧ s.km = a0_1 ∧ s.inv = a0_2 ∧ s.wmk = a0_3 ∧ s.thr = a0_4 ∧ s.sil = a0_5) ∧ Aside0 (StW w w' w.heap.size g #[.int .u32 a0_0, .int .u32 a0_1, .bool a0_2, .string a0_3, .int .i64 a0_4, .int .i64 a0_5] s v10 h))
  case atStart => exact ⟨_, 0, [], _, -1, -1, rfl, rfl, ⟨half_b HWB.out l2⟩, ⟨Sm.start l2 a0_3 wb _ rfl rfl rfl rfl⟩, ⟨rfl, rfl, rfl, rfl, rfl, rfl⟩, HS⟩
  case round =>
    clear HS; obtain ⟨x9, i, h, s, t, hh, rfl, rfl, HK, HM, HC, HS⟩ := hrel
    by_cases c : i < (l2.length : Int)
    · have cb : decide (i < (l2.length : Int)) = true := decide_eq_true c
      obtain ⟨x, hx⟩ : ∃ x, x = rd_T61 l2 i := ⟨_, rfl⟩
      obtain ⟨ad, ea, y0, y1, y2, y3, y4, y5⟩ := at_T61 HR2.out i HK.out.1 c
      cases ea
      rw [← hx] at y0 y1 y2 y3 y4 y5
      replace y0 := (HS.out.HB.cell (World.block_lt_of_cell? w _ y0)).trans y0
      replace y1 := (HS.out.HB.cell (World.block_lt_of_cell? w _ y1)).trans y1
      replace y2 := (HS.out.HB.cell (World.block_lt_of_cell? w _ y2)).trans y2
      replace y3 := (HS.out.HB.cell (World.block_lt_of_cell? w _ y3)).trans y3
      replace y4 := (HS.out.HB.cell (World.block_lt_of_cell? w _ y4)).trans y4
      replace y5 := (HS.out.HB.cell (World.block_lt_of_cell? w _ y5)).trans y5
      have HX := Aside0.mk (show x ∈ l2 from hx ▸ rd61_mem l2 i HK.out.1 c)
      have HCI := Aside0.mk c; have p1 : (0 ≤ i) = True := eq_true HK.out.1
      have p2 : (i < (l2.length : Int)) = True := eq_true c
      clear hx c; go_upto_region 13 with (fail)
      have HO := Aside0.mk (blk_new wr (Obj.cells #[.bool x.f0, .int .i64 x.f1, .int .i64 x.f2.f0, .int .i64 x.f2.f1, .int .i64 x.f2.f2, .string x.f2.f3] 61 (0, 0)))
      have n0_ := Aside0.mk (HS.out.alloc (Obj.cells #[.bool x.f0, .int .i64 x.f1, .int .i64 x.f2.f0, .int .i64 x.f2.f1, .int .i64 x.f2.f2, .string x.f2.f3] 61 (0, 0)))
      clear HS y0 y1 y2 y3 y4 y5; generalize (wr.alloc (Obj.cells #[.bool x.f0, .int .i64 x.f1, .int .i64 x.f2.f0, .int .i64 x.f2.f1, .int .i64 x.f2.f2, .string x.f2.f3] 61 (0, 0))) = W1 at HO n0_ ⊢
      generalize wr.heap.size = ob at HO ⊢
      have HS := n0_
      clear n0_; obtain ⟨A10, c10, e10⟩ := Kd.R_slice HS.out.HR
      subst e10; have ho0 : W1.cell? ⟨ob, 0, none⟩ = some (.bool x.f0) := (blk_cell HO.out 0).trans rfl; have ho1 : W1.cell? ⟨ob, 1, none⟩ = some (.int .i64 x.f1) := (blk_cell HO.out 1).trans rfl; have ho2 : W1.cell? ⟨ob, 2, none⟩ = some (.int .i64 x.f2.f0) := (blk_cell HO.out 2).trans rfl; have ho3 : W1.cell? ⟨ob, 3, none⟩ = some (.int .i64 x.f2.f1) := (blk_cell HO.out 3).trans rfl; have ho4 : W1.cell? ⟨ob, 4, none⟩ = some (.int .i64 x.f2.f2) := (blk_cell HO.out 4).trans rfl; have ho5 : W1.cell? ⟨ob, 5, none⟩ = some (.string x.f2.f3) := (blk_cell HO.out 5).trans rfl
      have HX9 := Aside0.mk (show 0 ≤ x9 + x.f1 ∧ x9 + x.f1 ≤ 2305843009213693952 + (i + 1) * 1000000 from by
        have h1 := HL2.out.2 x HX.out
        have h2 := HK.out
        omega)
      obtain ⟨y9, e9⟩ : ∃ y9, y9 = wrap64 (x9 + x.f1) := ⟨_, rfl⟩
      have HY := Aside0.mk (show 0 ≤ y9 ∧ y9 ≤ 2305843009213693952 + (i + 1) * 1000000 from by
        have h1 := HX9.out
        have h2 := HK.out
        have h3 := HL2.out.1
        have h4 := HCI.out
        rw [e9]
        unfold wrap64
        omega)
      clear HX9; obtain ⟨nw, hnw⟩ : ∃ nw, watch_within.f y9 = some nw := ⟨_, rfl⟩
      have HNW := Aside0.mk hnw; clear hnw; go_upto_if 82 with (fail)
      rw [← e9]
      clear e9; go_cut [10, 14, 183] from 72 (fun v10 v14 v183 wc => v183 = undef ∧ ∃ (evs : List S65) (s' : WS) (t' hh' : Int), Aside0 (evs.length ≤ 2) ∧ Aside0 (NR wc v14 (notesOf evs)) ∧ Aside0 (Sm l2 a0_3 wb (h ++ evs) s' t' hh') ∧ Aside0 (s'.id = a0_0 ∧ s'.km = a0_1 ∧ s'.inv = a0_2 ∧ s'.wmk = a0_3 ∧ s'.thr = a0_4 ∧ s'.sil = a0_5) ∧ Aside0 (StW w wc w.heap.size g #[.int .u32 a0_0, .int .u32 a0_1, .bool a0_2, .string a0_3, .int .i64 a0_4, .int .i64 a0_5] s' v10 (h ++ evs)))
      case first =>
        have HH9 := Aside0.mk (show h.length ≤ 900 from by
          have h1 := HK.out
          have h2 := HL2.out.1
          have h3 := HCI.out
          omega)
        have HJ := Aside0.mk HS.out.HJ
        have hj0 : W1.cell? ⟨w.heap.size, 0, none⟩ = some (.int .u32 a0_0) := (blk_cell HJ.out 0).trans rfl; have hj1 : W1.cell? ⟨w.heap.size, 1, none⟩ = some (.int .u32 a0_1) := (blk_cell HJ.out 1).trans rfl; have hj2 : W1.cell? ⟨w.heap.size, 2, none⟩ = some (.bool a0_2) := (blk_cell HJ.out 2).trans rfl; have hj3 : W1.cell? ⟨w.heap.size, 3, none⟩ = some (.string a0_3) := (blk_cell HJ.out 3).trans rfl; have hj4 : W1.cell? ⟨w.heap.size, 4, none⟩ = some (.int .i64 a0_4) := (blk_cell HJ.out 4).trans rfl; have hj5 : W1.cell? ⟨w.heap.size, 5, none⟩ = some (.int .i64 a0_5) := (blk_cell HJ.out 5).trans rfl
        clear HJ; cases hb0 : x.f0 with
        | true =>
          rw [hb0] at ho0
          obtain ⟨⟨K1, hK1⟩, t1, hh1, hM1⟩ := sim_tick HM.out HD.out HH9.out HWB.out y9 nw HNW.out
          have HT1 := Aside0.mk (show signalboxref23_Tick.f K1 a0_0 a0_1 a0_2 a0_3 a0_4 a0_5 h a1 y9 = some (h ++ evT s nw) from by
            obtain ⟨c1, c2, c3, c4, c5, c6⟩ := HC.out
            have := hK1 K1 (Nat.le_refl _)
            rw [c1, c2, c3, c5, c6] at this
            exact this)
          have HM1 := Aside0.mk hM1; clear hK1 hM1; have HTC := Aside0.mk (signalboxref23_Tick.calls K1 a0_0 a0_1 a0_2 a0_3 a0_4 a0_5 (fun k => some k = (Value.slice A10 h.length c10).ownBlock) (.slice A10 h.length c10) h a1 y9 _ w W1 HS.out.HB HS.out.HR HT1.out)
          go_upto_region 18 with (go_at_call 24; (with_reducible refine HTC.out.mono ?_); rintro e w7 ⟨v7, rfl, hR, hB, hKp⟩; have n0_ := Aside0.mk (HS.out.ref hR hB hKp); clear HS hR hB hKp HTC; have HS := n0_; clear n0_; clear hj0 hj1 hj2 hj3 hj4 hj5; clear ho0 ho1 ho2 ho3 ho4 ho5)
          have HTI := Aside0.mk (tick_ok w.heap.size g s y9 nw w7 (below_size HS.out.HB) HS.out.HA.lt HS.out.HA HNW.out)
          go_wp2_with (go_at_call 12; (with_reducible refine HTI.out.mono ?_); rintro e w8 ⟨v8, rfl, hT⟩; have n0_ := Aside0.mk (HS.out.wk hT.2.1 hT.2.2); have HNT := Aside0.mk (notes_evT s nw ▸ NR.of hT.1); clear HS hT HTI; have HS := n0_; clear n0_)
          go_meet
          exact ⟨rfl, evT s nw, _, t1, hh1, ⟨len_evT s nw⟩, HNT, HM1, ⟨tick_c s nw _ _ _ _ _ _ HC.out⟩, HS⟩
        | false =>
          rw [hb0] at ho0
          obtain ⟨m, K0, hK0⟩ := HM0.out x HX.out
          have hcs := HC.out
          obtain ⟨df, hdf, ⟨K1, hK1⟩, t1, hh1, hM1⟩ := sim_hear HM.out HD.out HH9.out hcs.2.2.2.1 x HX.out y9 nw HNW.out m K0 (by
            intro k hk
            rw [hcs.1, hcs.2.1, hcs.2.2.1]
            exact (hK0 k hk).2)
          have HT1 := Aside0.mk (show signalboxref23_Hear.f K1 a0_0 a0_1 a0_2 a0_3 a0_4 a0_5 h y9 x.f2.f0 x.f2.f1 x.f2.f2 x.f2.f3 = some (h ++ evH s.id nw x.f2 m (hearS s nw (frS x.f2) m df).1) from by
            obtain ⟨c1, c2, c3, c4, c5, c6⟩ := hcs
            have := hK1 K1 (Nat.le_refl _)
            rw [c1, c2, c3, c5, c6] at this
            rw [c1]
            exact this)
          have HMT := Aside0.mk (show match_Match.f K0 s.id s.km s.inv x.f2.f0 x.f2.f1 x.f2.f2 x.f2.f3 = some m from by
            rw [hcs.1, hcs.2.1, hcs.2.2.1]
            exact (hK0 K0 (Nat.le_refl _)).1)
          have HM1 := Aside0.mk hM1; have HDF := Aside0.mk hdf; have HDC := Aside0.mk (hear_c s nw (frS x.f2) m df _ _ _ _ _ _ hcs)
          clear hK0 hK1 hM1 hdf hcs; have HTC := Aside0.mk (signalboxref23_Hear.calls K1 a0_0 a0_1 a0_2 a0_3 a0_4 a0_5 (fun k => some k = (Value.slice A10 h.length c10).ownBlock) (.slice A10 h.length c10) h y9 x.f2.f0 x.f2.f1 x.f2.f2 x.f2.f3 _ w W1 HS.out.HB HS.out.HR HT1.out)
          go_upto_region 20 with (go_at_call 25; (with_reducible refine HTC.out.mono ?_); rintro e w7 ⟨v7, rfl, hR, hB, hKp⟩; have n1_ := Aside0.mk (OpAt.ref HS.out HO.out hKp); have n0_ := Aside0.mk (HS.out.ref hR hB hKp); clear HS HO hR hB hKp HTC; have HS := n0_; have HO := n1_; clear n0_ n1_; clear hj0 hj1 hj2 hj3 hj4 hj5; clear ho0 ho1 ho2 ho3 ho4 ho5; have ho2 : w7.cell? ⟨ob, 2, none⟩ = some (.int .i64 x.f2.f0) := (blk_cell HO.out 2).trans rfl; have ho3 : w7.cell? ⟨ob, 3, none⟩ = some (.int .i64 x.f2.f1) := (blk_cell HO.out 3).trans rfl; have ho4 : w7.cell? ⟨ob, 4, none⟩ = some (.int .i64 x.f2.f2) := (blk_cell HO.out 4).trans rfl; have ho5 : w7.cell? ⟨ob, 5, none⟩ = some (.string x.f2.f3) := (blk_cell HO.out 5).trans rfl)
          cases ht : (hearS s nw (frS x.f2) m df).1 with
          | true =>
            have HTI := Aside0.mk (hear_t K0 w.heap.size g s y9 nw x.f2 m df w7 (below_size HS.out.HB) HS.out.HA.lt HS.out.HA HMT.out HNW.out HDF.out ht)
            have HNO := Aside0.mk (notes_evH_t s nw (frS x.f2) m df x.f2 ht)
            have HTT := Aside0.mk ht; clear ht; go_upto_region 21 with (go_at_call 10; (with_reducible refine HTI.out.mono ?_); rintro e w8 ⟨rfl, hA, hT⟩; have n0_ := Aside0.mk (HS.out.wk hA hT); clear HS hA hT HTI; have HS := n0_; clear n0_; clear ho2 ho3 ho4 ho5)
            have HN := Aside0.mk (blk_new w8 (Obj.cells #[.int .i64 1, .int .i64 (wrap64 s.id), .int .i64 x.f2.f0, .int .i64 x.f2.f1, .int .i64 x.f2.f2, .string x.f2.f3, .int .i64 nw] 35 (0, 0)))
            have n0_ := Aside0.mk (HS.out.alloc (Obj.cells #[.int .i64 1, .int .i64 (wrap64 s.id), .int .i64 x.f2.f0, .int .i64 x.f2.f1, .int .i64 x.f2.f2, .string x.f2.f3, .int .i64 nw] 35 (0, 0)))
            clear HS; generalize (w8.alloc (Obj.cells #[.int .i64 1, .int .i64 (wrap64 s.id), .int .i64 x.f2.f0, .int .i64 x.f2.f1, .int .i64 x.f2.f2, .string x.f2.f3, .int .i64 nw] 35 (0, 0))) = W9 at HN n0_ ⊢
            generalize w8.heap.size = nb at HN ⊢
            have HS := n0_
            clear n0_; have hn0 : W9.cell? ⟨nb, 0, none⟩ = some (.int .i64 1) := (blk_cell HN.out 0).trans rfl; have hn1 : W9.cell? ⟨nb, 1, none⟩ = some (.int .i64 (wrap64 s.id)) := (blk_cell HN.out 1).trans rfl; have hn2 : W9.cell? ⟨nb, 2, none⟩ = some (.int .i64 x.f2.f0) := (blk_cell HN.out 2).trans rfl; have hn3 : W9.cell? ⟨nb, 3, none⟩ = some (.int .i64 x.f2.f1) := (blk_cell HN.out 3).trans rfl; have hn4 : W9.cell? ⟨nb, 4, none⟩ = some (.int .i64 x.f2.f2) := (blk_cell HN.out 4).trans rfl; have hn5 : W9.cell? ⟨nb, 5, none⟩ = some (.string x.f2.f3) := (blk_cell HN.out 5).trans rfl; have hn6 : W9.cell? ⟨nb, 6, none⟩ = some (.int .i64 nw) := (blk_cell HN.out 6).trans rfl
            go_wp2_with (first | ((with_reducible refine gate_builtin (b := .append) (xs := #[.tmp 106, .tmp 108]) rfl ?_); at_builtin; refine Kd.R_append k35 (w0 := W9) (W := W9) w.heap.size rfl (.tmp 106) (.tmp 108) 39 35 (.agg #[.int .i64 0, .int .i64 0, .int .i64 0, .int .i64 0, .int .i64 0, .string ⟨#[]⟩, .int .i64 0]) 64 rfl Try.underlying39 infoN rfl (by decide) (by omega) (.slice none 0 0) ([] : List S35) (⟨1, wrap64 s.id, x.f2, nw⟩ : S35) [.int .i64 1, .int .i64 (wrap64 s.id), .int .i64 x.f2.f0, .int .i64 x.f2.f1, .int .i64 x.f2.f2, .string x.f2.f3, .int .i64 nw] (fun _ => True) (fun _ => False) (by first | (go_simp; done) | (go_simp; rfl)) (by first | (go_simp; done) | (go_simp; rfl)) ?aP (fun _ hk => hk.elim) ?aF ?aO ?aB ?aS ?aL ?_; (case aP => exact k35_mkM _ _ _ (⟨1, wrap64 s.id, x.f2, nw⟩ : S35)); (case aF => exact fun k_ hk => trivial); (case aO => exact Kd.R_nil _ _ _ _ _); (case aB => exact Below.refl _ _); (case aS => exact below_size HS.out.HB); (case aL => decide); intro v14 w14 ho hbo hg hat; have n0_ := Aside0.mk (HS.out.wk (HS.out.HA.grown hg) (Wk.grown (Wk.refl _ _ _) hg (Or.inl rfl) hbo)); have HNT := Aside0.mk (NR.of ho); clear HS ho hbo hg hat; have HS := n0_; clear n0_))
            go_meet
            exact ⟨rfl, evH s.id nw x.f2 m (hearS s nw (frS x.f2) m df).1, _, t1, hh1, ⟨len_evH _ _ _ _ _⟩, ⟨by
              rw [HTT.out, HNO.out]
              exact HNT.out⟩, HM1, HDC, HS⟩
          | false =>
            have HTI := Aside0.mk (hear_f K0 w.heap.size g s y9 nw x.f2 m df w7 (below_size HS.out.HB) HS.out.HA.lt HS.out.HA HMT.out HNW.out HDF.out ht)
            have HTT := Aside0.mk ht; clear ht; go_upto_region 21 with (go_at_call 10; (with_reducible refine HTI.out.mono ?_); rintro e w8 ⟨rfl, hA, hT⟩; have n0_ := Aside0.mk (HS.out.wk hA hT); clear HS hA hT HTI; have HS := n0_; clear n0_; clear ho2 ho3 ho4 ho5)
            have HN := Aside0.mk (blk_new w8 (Obj.cells #[.int .i64 0, .int .i64 0, .int .i64 0, .int .i64 0, .int .i64 0, .string (⟨#[]⟩ : ByteArray), .int .i64 0] 35 (0, 0)))
            have n0_ := Aside0.mk (HS.out.alloc (Obj.cells #[.int .i64 0, .int .i64 0, .int .i64 0, .int .i64 0, .int .i64 0, .string (⟨#[]⟩ : ByteArray), .int .i64 0] 35 (0, 0)))
            clear HS; generalize (w8.alloc (Obj.cells #[.int .i64 0, .int .i64 0, .int .i64 0, .int .i64 0, .int .i64 0, .string (⟨#[]⟩ : ByteArray), .int .i64 0] 35 (0, 0))) = W9 at HN n0_ ⊢
            generalize w8.heap.size = nb at HN ⊢
            have HS := n0_
            clear n0_; have hn0 : W9.cell? ⟨nb, 0, none⟩ = some (.int .i64 0) := (blk_cell HN.out 0).trans rfl; have hn1 : W9.cell? ⟨nb, 1, none⟩ = some (.int .i64 0) := (blk_cell HN.out 1).trans rfl; have hn2 : W9.cell? ⟨nb, 2, none⟩ = some (.int .i64 0) := (blk_cell HN.out 2).trans rfl; have hn3 : W9.cell? ⟨nb, 3, none⟩ = some (.int .i64 0) := (blk_cell HN.out 3).trans rfl; have hn4 : W9.cell? ⟨nb, 4, none⟩ = some (.int .i64 0) := (blk_cell HN.out 4).trans rfl; have hn5 : W9.cell? ⟨nb, 5, none⟩ = some (.string (⟨#[]⟩ : ByteArray)) := (blk_cell HN.out 5).trans rfl; have hn6 : W9.cell? ⟨nb, 6, none⟩ = some (.int .i64 0) := (blk_cell HN.out 6).trans rfl
            go_wp2; go_meet
            exact ⟨rfl, evH s.id nw x.f2 m (hearS s nw (frS x.f2) m df).1, _, t1, hh1, ⟨len_evH _ _ _ _ _⟩, ⟨by
              rw [HTT.out, notes_evH_f]
              exact NR.nil _⟩, HM1, HDC, HS⟩
      case rest =>
        clear HS HM HC; obtain ⟨rfl, evs, s2, t2, hh2, HE, HN, HM, HC, HS⟩ := hcut
        have HDR0 := Aside0.mk (fun (A : Option Addr) (c : Nat) (e : u10 = .slice A (h ++ evs).length c) => drop_C (Kd.R_reads' (e ▸ HS.out.HR)).2.2 (Kd.R_reads' (e ▸ HS.out.HR)).2.1)
        have HER := Aside0.mk (show (h ++ evs).length = h.length + evs.length from List.length_append)
        generalize h ++ evs = h3 at HM HS HDR0 HER
        have hle := show h.length ≤ h3.length from by rw [HER.out]; omega
        obtain ⟨A10, c10, e10⟩ := Kd.R_slice HS.out.HR
        subst e10; obtain ⟨A14, c14, e14, hc14, HN2⟩ := HN.out
        subst e14; have HN3 := Aside0.mk HN2; have HC14 := Aside0.mk hc14; clear HN2 hc14 HN; have HDR := Aside0.mk (HDR0.out A10 c10 rfl)
        clear HDR0; go_upto_region 25 with (fail)
        go_cut [113, 114, 115, 116, 117, 183] from 118 (fun v113 v114 v115 v116 v117 v183 wd => wd = wc ∧ v183 = undef ∧ ∃ (A : Option Addr) (n c : Nat) (q : Int), v115 = .slice A n c ∧ v116 = .int .i64 q ∧ v117 = .int .i64 0 ∧ Aside0 (n = evs.length ∧ q = evs.length) ∧ Aside0 (Kd.C k65 wc A evs.length evs))
        case first =>
          by_cases c10e : c10 = h.length
          · have p3 : (c10 = h.length) = True := eq_true c10e
            clear c10e; go_wp2; go_meet
            exact ⟨rfl, rfl, _, _, _, _, rfl, rfl, rfl, ⟨by have := HER.out; omega, by have := HER.out; omega⟩, ⟨by
              have h1 := HDR.out
              rw [if_pos (of_eq_true p3)] at h1
              exact h1⟩⟩
          · have p3 : (c10 = h.length) = False := eq_false c10e
            clear c10e; go_wp2; go_meet
            exact ⟨rfl, rfl, _, _, _, _, rfl, rfl, rfl, ⟨by have := HER.out; omega, by have := HER.out; omega⟩, ⟨by
              have h1 := HDR.out
              rw [if_neg (fun e => of_eq_true (p3.symm.trans (eq_true e)))] at h1
              exact h1⟩⟩
        case rest =>
          clear HDR hle; obtain ⟨rfl, rfl, A, n, c, q, rfl, rfl, rfl, HNQ, HCE⟩ := hcut
          obtain ⟨rfl, rfl⟩ := HNQ.out
          clear HNQ; go_wp2; obtain ⟨gko, hgko⟩ : ∃ k, k = gk := ⟨_, rfl⟩
          have HGO := Aside0.mk hgko; clear hgko; go_loopg [14, 117] 2 (fun kq v14 v117 w' => ∃ (j : Int), v117 = .int .i64 j ∧ Aside0 (0 ≤ j ∧ j ≤ evs.length ∧ (kq : Int) + j = 2) ∧ Aside0 (NR wc v14 (notesOf (evs.drop j.toNat))) ∧ Aside0 (Below wc.heap.size wc w'))
          case atStart => exact ⟨0, rfl, ⟨Int.le_refl _, Int.natCast_nonneg _, rfl⟩, ⟨⟨_, _, rfl, HC14.out, HN3.out⟩⟩, ⟨Below.refl _ _⟩⟩
          case round =>
            obtain ⟨j, rfl, HJ, HNJ, HBJ⟩ := hrel
            by_cases cj : j < (evs.length : Int)
            · have cb2 : decide (j < (evs.length : Int)) = true := decide_eq_true cj
              obtain ⟨x2, hx2⟩ : ∃ x2, x2 = rd_T65 evs j := ⟨_, rfl⟩
              obtain ⟨ad2, ea, z0, z1, z2, z3, z4, z5, z6, z7, z8, z9, z10, z11, z12⟩ := at_T65 HCE.out j HJ.out.1 cj
              cases ea
              rw [← hx2] at z0 z1 z2 z3 z4 z5 z6 z7 z8 z9 z10 z11 z12
              replace z0 := (HBJ.out.cell (World.block_lt_of_cell? wc _ z0)).trans z0
              replace z1 := (HBJ.out.cell (World.block_lt_of_cell? wc _ z1)).trans z1
              replace z2 := (HBJ.out.cell (World.block_lt_of_cell? wc _ z2)).trans z2
              replace z3 := (HBJ.out.cell (World.block_lt_of_cell? wc _ z3)).trans z3
              replace z4 := (HBJ.out.cell (World.block_lt_of_cell? wc _ z4)).trans z4
              replace z5 := (HBJ.out.cell (World.block_lt_of_cell? wc _ z5)).trans z5
              replace z6 := (HBJ.out.cell (World.block_lt_of_cell? wc _ z6)).trans z6
              replace z7 := (HBJ.out.cell (World.block_lt_of_cell? wc _ z7)).trans z7
              replace z8 := (HBJ.out.cell (World.block_lt_of_cell? wc _ z8)).trans z8
              replace z9 := (HBJ.out.cell (World.block_lt_of_cell? wc _ z9)).trans z9
              replace z10 := (HBJ.out.cell (World.block_lt_of_cell? wc _ z10)).trans z10
              replace z11 := (HBJ.out.cell (World.block_lt_of_cell? wc _ z11)).trans z11
              replace z12 := (HBJ.out.cell (World.block_lt_of_cell? wc _ z12)).trans z12
              have HDJ := Aside0.mk (show evs.drop j.toNat = x2 :: evs.drop (j + 1).toNat from hx2 ▸ drop65 evs j HJ.out.1 cj)
              have HCJ := Aside0.mk cj; have p5 : (0 ≤ j) = True := eq_true HJ.out.1
              have p6 : (j < (evs.length : Int)) = True := eq_true cj
              clear hx2 cj; go_upto_region 28 with (fail)
              have HX2 := Aside0.mk (blk_new wr (Obj.cells #[.int .i64 x2.f0, .bool x2.f1, .int .i64 x2.f2.f0, .int .i64 x2.f2.f1, .int .i64 x2.f2.f2.f0, .int .i64 x2.f2.f2.f1, .int .i64 x2.f2.f2.f2, .string x2.f2.f2.f3, .int .i64 x2.f2.f3, .int .i64 x2.f3.f0, .int .i64 x2.f3.f1, .int .i64 x2.f3.f2, .string x2.f3.f3] 65 (0, 0)))
              have n0_ := Aside0.mk (HBJ.out.alloc (below_size HBJ.out) (Obj.cells #[.int .i64 x2.f0, .bool x2.f1, .int .i64 x2.f2.f0, .int .i64 x2.f2.f1, .int .i64 x2.f2.f2.f0, .int .i64 x2.f2.f2.f1, .int .i64 x2.f2.f2.f2, .string x2.f2.f2.f3, .int .i64 x2.f2.f3, .int .i64 x2.f3.f0, .int .i64 x2.f3.f1, .int .i64 x2.f3.f2, .string x2.f3.f3] 65 (0, 0)))
              clear HBJ z0 z1 z2 z3 z4 z5 z6 z7 z8 z9 z10 z11 z12; generalize (wr.alloc (Obj.cells #[.int .i64 x2.f0, .bool x2.f1, .int .i64 x2.f2.f0, .int .i64 x2.f2.f1, .int .i64 x2.f2.f2.f0, .int .i64 x2.f2.f2.f1, .int .i64 x2.f2.f2.f2, .string x2.f2.f2.f3, .int .i64 x2.f2.f3, .int .i64 x2.f3.f0, .int .i64 x2.f3.f1, .int .i64 x2.f3.f2, .string x2.f3.f3] 65 (0, 0))) = W2 at HX2 n0_ ⊢
              generalize wr.heap.size = xb at HX2 ⊢
              have HBJ := n0_
              clear n0_; have hx0 : W2.cell? ⟨xb, 0, none⟩ = some (.int .i64 x2.f0) := (blk_cell HX2.out 0).trans rfl; have hx1 : W2.cell? ⟨xb, 1, none⟩ = some (.bool x2.f1) := (blk_cell HX2.out 1).trans rfl; have hx2 : W2.cell? ⟨xb, 2, none⟩ = some (.int .i64 x2.f2.f0) := (blk_cell HX2.out 2).trans rfl; have hx3 : W2.cell? ⟨xb, 3, none⟩ = some (.int .i64 x2.f2.f1) := (blk_cell HX2.out 3).trans rfl; have hx4 : W2.cell? ⟨xb, 4, none⟩ = some (.int .i64 x2.f2.f2.f0) := (blk_cell HX2.out 4).trans rfl; have hx5 : W2.cell? ⟨xb, 5, none⟩ = some (.int .i64 x2.f2.f2.f1) := (blk_cell HX2.out 5).trans rfl; have hx6 : W2.cell? ⟨xb, 6, none⟩ = some (.int .i64 x2.f2.f2.f2) := (blk_cell HX2.out 6).trans rfl; have hx7 : W2.cell? ⟨xb, 7, none⟩ = some (.string x2.f2.f2.f3) := (blk_cell HX2.out 7).trans rfl; have hx8 : W2.cell? ⟨xb, 8, none⟩ = some (.int .i64 x2.f2.f3) := (blk_cell HX2.out 8).trans rfl
              cases hb2 : x2.f1 with
              | false =>
                rw [hb2] at hx1
                have HNJ2 := Aside0.mk (show NR wc u14 (notesOf (evs.drop (j + 1).toNat)) from by
                  have h1 := HNJ.out
                  rw [HDJ.out] at h1
                  unfold notesOf at h1
                  rw [List.filter_cons, if_neg (by rw [hb2]; decide)] at h1
                  exact h1)
                have ej : wrap64 (j + 1) = j + 1 := by
                  have h1 := HJ.out
                  have h2 := HE.out
                  unfold wrap64
                  omega
                go_wp2; go_roundg (gk - 1)
                case measure =>
                  have h1 := HJ.out
                  have h2 := HE.out
                  have h3 := HCJ.out
                  omega
                case rel => exact ⟨j + 1, (by rw [ej]), ⟨by
                  have h1 := HJ.out
                  have h2 := HE.out
                  have h3 := HCJ.out
                  omega⟩, HNJ2, HBJ⟩
              | true =>
                rw [hb2] at hx1
                obtain ⟨ad3, c3, e14, HC3, ⟨q0, q1, q2, q3, q4, q5, q6⟩, HNR⟩ := NR.cons (show NR wc u14 (x2.f2 :: notesOf (evs.drop (j + 1).toNat)) from by
                  have h1 := HNJ.out
                  rw [HDJ.out] at h1
                  unfold notesOf at h1
                  rw [List.filter_cons, if_pos hb2, List.map_cons] at h1
                  exact h1)
                subst e14; have HNR2 := Aside0.mk HNR; clear HNR HNJ; replace q0 := (HBJ.out.cell (World.block_lt_of_cell? wc _ q0)).trans q0
                replace q1 := (HBJ.out.cell (World.block_lt_of_cell? wc _ q1)).trans q1
                replace q2 := (HBJ.out.cell (World.block_lt_of_cell? wc _ q2)).trans q2
                replace q3 := (HBJ.out.cell (World.block_lt_of_cell? wc _ q3)).trans q3
                replace q4 := (HBJ.out.cell (World.block_lt_of_cell? wc _ q4)).trans q4
                replace q5 := (HBJ.out.cell (World.block_lt_of_cell? wc _ q5)).trans q5
                replace q6 := (HBJ.out.cell (World.block_lt_of_cell? wc _ q6)).trans q6
                have ej : wrap64 (j + 1) = j + 1 := by
                  have h1 := HJ.out
                  have h2 := HE.out
                  unfold wrap64
                  omega
                go_upto_region 29 with (fail)
                go_quiet (fail)
                have n0_ := Aside0.mk (pw_below_drewN HBJ.out nq)
                clear HBJ q0 q1 q2 q3 q4 q5 q6 hx0 hx1 hx2 hx3 hx4 hx5 hx6 hx7 hx8; generalize W2.drewN nq = W3 at n0_ ⊢
                have HBJ := n0_
                clear n0_; by_cases c3e : c3 = 1
                · have p8 : (c3 = 1) = True := eq_true c3e
                  clear c3e; go_wp2; go_roundg (gk - 1)
                  case measure =>
                    have h1 := HJ.out
                    have h2 := HE.out
                    have h3 := HCJ.out
                    omega
                  case rel => exact ⟨j + 1, (by rw [ej]), ⟨by
                    have h1 := HJ.out
                    have h2 := HE.out
                    have h3 := HCJ.out
                    omega⟩, ⟨by
                    have h1 := HNR2.out
                    rw [if_pos (of_eq_true p8)] at h1
                    exact h1⟩, HBJ⟩
                · have p8 : (c3 = 1) = False := eq_false c3e
                  clear c3e; go_wp2; go_roundg (gk - 1)
                  case measure =>
                    have h1 := HJ.out
                    have h2 := HE.out
                    have h3 := HCJ.out
                    omega
                  case rel => exact ⟨j + 1, (by rw [ej]), ⟨by
                    have h1 := HJ.out
                    have h2 := HE.out
                    have h3 := HCJ.out
                    omega⟩, ⟨by
                    have h1 := HNR2.out
                    rw [if_neg (fun e => of_eq_true (p8.symm.trans (eq_true e)))] at h1
                    exact h1⟩, HBJ⟩
            · have cb2 : decide (j < (evs.length : Int)) = false := decide_eq_false cj
              have HNZ := Aside0.mk (show NR wc u14 [] from by
                have h1 := HNJ.out
                rw [List.drop_eq_nil_of_le (by omega)] at h1
                exact h1)
              clear HNJ cj; obtain ⟨An, cn, e14, hcn, hCn⟩ := HNZ.out
              replace e14 : u14 = .slice An 0 cn := e14
              subst e14; clear hcn hCn HNZ; have n0_ := Aside0.mk (HS.out.call HBJ.out)
              clear HS HBJ HCE; have HS := n0_
              clear n0_; have HL3 := Aside0.mk (show h3.length ≤ 1000 from by
                have h1 := HK.out
                have h2 := HER.out
                have h3 := HE.out
                have h4 := HL2.out.1
                omega)
              obtain ⟨q1, q2, q3, q4, q5, hq⟩ : ∃ q1 q2 q3 q4 q5, o4 s2.told = (q1, q2, q3, q4, q5) := ⟨_, _, _, _, _, rfl⟩
              obtain ⟨p1_, p2_, p3_, p4_, p5_, hp⟩ : ∃ q1 q2 q3 q4 q5, o4 s2.held = (q1, q2, q3, q4, q5) := ⟨_, _, _, _, _, rfl⟩
              obtain ⟨KH, hKH⟩ := held_f HM.out HD.out HL3.out
              have HTF := Aside0.mk ((told_f HM.out HL3.out 1001 (Nat.le_refl _)).trans (congrArg some hq))
              have HHF := Aside0.mk ((hKH KH (Nat.le_refl _) a0_0 a0_1 a0_2 a0_4 a0_5).trans (congrArg some hp))
              have HQ := Aside0.mk hq; have HP := Aside0.mk hp; clear hKH hq hp; go_upto_region 33 with (fail)
              have HTW := Aside0.mk (told_q w.heap.size g s2 wr HS.out.HA HQ.out)
              go_upto_region 34 with (go_at_call 17; (with_reducible refine HTW.out.mono ?_); rintro e w33 ⟨rfl, hb⟩; have n0_ := Aside0.mk (HS.out.call hb); clear HS  hb HTW; have HS := n0_; clear n0_ )
              have HFB := Aside0.mk (blk_new w33 (Obj.cells #[.int .i64 q1, .int .i64 q2, .int .i64 q3, .string q4] 33 (0, 0)))
              have n0_ := Aside0.mk (HS.out.alloc (Obj.cells #[.int .i64 q1, .int .i64 q2, .int .i64 q3, .string q4] 33 (0, 0)))
              clear HS ; generalize (w33.alloc (Obj.cells #[.int .i64 q1, .int .i64 q2, .int .i64 q3, .string q4] 33 (0, 0))) = V33 at HFB n0_  ⊢
              generalize w33.heap.size = fb at HFB ⊢
              have HS := n0_
              clear n0_ ; have HTX := Aside0.mk (signalboxref23_Told.calls 1001 A10 c10 h3 q1 q2 q3 q4 q5 V33 (Kd.R_reads' HS.out.HR).2.2 (Kd.R_reads' HS.out.HR).2.1 HTF.out)
              go_upto_region 35 with (go_at_call 26; (with_reducible refine HTX.out.mono ?_); rintro e w34 ⟨rfl, hb⟩; have n0_ := Aside0.mk (HS.out.call hb); have n1_ := Aside0.mk (blk_below HFB.out hb); clear HS HFB hb HTX; have HS := n0_; have HFB := n1_; clear n0_ n1_)
              have HGB := Aside0.mk (blk_new w34 (Obj.cells #[.int .i64 q1, .int .i64 q2, .int .i64 q3, .string q4] 33 (0, 0)))
              have n0_ := Aside0.mk (HS.out.alloc (Obj.cells #[.int .i64 q1, .int .i64 q2, .int .i64 q3, .string q4] 33 (0, 0)))
              have n1_ := Aside0.mk (blk_below HFB.out (below_alloc (Below.refl _ _) (Obj.cells #[.int .i64 q1, .int .i64 q2, .int .i64 q3, .string q4] 33 (0, 0))))
              clear HS HFB; generalize (w34.alloc (Obj.cells #[.int .i64 q1, .int .i64 q2, .int .i64 q3, .string q4] 33 (0, 0))) = V34 at HGB n0_ n1_ ⊢
              generalize w34.heap.size = gb at HGB ⊢
              have HS := n0_
              have HFB := n1_
              clear n0_ n1_; have HHW := Aside0.mk (held_q w.heap.size g s2 V34 HS.out.HA HP.out)
              go_upto_region 36 with (go_at_call 18; (with_reducible refine HHW.out.mono ?_); rintro e w35 ⟨rfl, hb⟩; have n0_ := Aside0.mk (HS.out.call hb); have n1_ := Aside0.mk (blk_below HFB.out hb); have n2_ := Aside0.mk (blk_below HGB.out hb); clear HS HFB HGB hb HHW; have HS := n0_; have HFB := n1_; have HGB := n2_; clear n0_ n1_ n2_)
              have HAB := Aside0.mk (blk_new w35 (Obj.cells #[.int .i64 p1_, .int .i64 p2_, .int .i64 p3_, .string p4_] 33 (0, 0)))
              have n0_ := Aside0.mk (HS.out.alloc (Obj.cells #[.int .i64 p1_, .int .i64 p2_, .int .i64 p3_, .string p4_] 33 (0, 0)))
              have n1_ := Aside0.mk (blk_below HFB.out (below_alloc (Below.refl _ _) (Obj.cells #[.int .i64 p1_, .int .i64 p2_, .int .i64 p3_, .string p4_] 33 (0, 0))))
              have n2_ := Aside0.mk (blk_below HGB.out (below_alloc (Below.refl _ _) (Obj.cells #[.int .i64 p1_, .int .i64 p2_, .int .i64 p3_, .string p4_] 33 (0, 0))))
              clear HS HFB HGB; generalize (w35.alloc (Obj.cells #[.int .i64 p1_, .int .i64 p2_, .int .i64 p3_, .string p4_] 33 (0, 0))) = V35 at HAB n0_ n1_ n2_ ⊢
              generalize w35.heap.size = ab at HAB ⊢
              have HS := n0_
              have HFB := n1_
              have HGB := n2_
              clear n0_ n1_ n2_; have HHX := Aside0.mk (signalboxref23_Held.calls KH a0_0 a0_1 a0_2 a0_3 a0_4 a0_5 A10 c10 h3 p1_ p2_ p3_ p4_ p5_ V35 (Kd.R_reads' HS.out.HR).2.2 (Kd.R_reads' HS.out.HR).2.1 HHF.out)
              have HJB := Aside0.mk HS.out.HJ
              have hj0 : V35.cell? ⟨w.heap.size, 0, none⟩ = some (.int .u32 a0_0) := (blk_cell HJB.out 0).trans rfl; have hj1 : V35.cell? ⟨w.heap.size, 1, none⟩ = some (.int .u32 a0_1) := (blk_cell HJB.out 1).trans rfl; have hj2 : V35.cell? ⟨w.heap.size, 2, none⟩ = some (.bool a0_2) := (blk_cell HJB.out 2).trans rfl; have hj3 : V35.cell? ⟨w.heap.size, 3, none⟩ = some (.string a0_3) := (blk_cell HJB.out 3).trans rfl; have hj4 : V35.cell? ⟨w.heap.size, 4, none⟩ = some (.int .i64 a0_4) := (blk_cell HJB.out 4).trans rfl; have hj5 : V35.cell? ⟨w.heap.size, 5, none⟩ = some (.int .i64 a0_5) := (blk_cell HJB.out 5).trans rfl
              clear HJB; go_upto_region 37 with (go_at_call 27; (with_reducible refine HHX.out.mono ?_); rintro e w36 ⟨rfl, hb⟩; have n0_ := Aside0.mk (HS.out.call hb); have n1_ := Aside0.mk (blk_below HFB.out hb); have n2_ := Aside0.mk (blk_below HGB.out hb); have n3_ := Aside0.mk (blk_below HAB.out hb); clear HS HFB HGB HAB hb HHX; have HS := n0_; have HFB := n1_; have HGB := n2_; have HAB := n3_; clear n0_ n1_ n2_ n3_; clear hj0 hj1 hj2 hj3 hj4 hj5)
              have HBB := Aside0.mk (blk_new w36 (Obj.cells #[.int .i64 p1_, .int .i64 p2_, .int .i64 p3_, .string p4_] 33 (0, 0)))
              have n0_ := Aside0.mk (HS.out.alloc (Obj.cells #[.int .i64 p1_, .int .i64 p2_, .int .i64 p3_, .string p4_] 33 (0, 0)))
              have n1_ := Aside0.mk (blk_below HFB.out (below_alloc (Below.refl _ _) (Obj.cells #[.int .i64 p1_, .int .i64 p2_, .int .i64 p3_, .string p4_] 33 (0, 0))))
              have n2_ := Aside0.mk (blk_below HGB.out (below_alloc (Below.refl _ _) (Obj.cells #[.int .i64 p1_, .int .i64 p2_, .int .i64 p3_, .string p4_] 33 (0, 0))))
              have n3_ := Aside0.mk (blk_below HAB.out (below_alloc (Below.refl _ _) (Obj.cells #[.int .i64 p1_, .int .i64 p2_, .int .i64 p3_, .string p4_] 33 (0, 0))))
              clear HS HFB HGB HAB; generalize (w36.alloc (Obj.cells #[.int .i64 p1_, .int .i64 p2_, .int .i64 p3_, .string p4_] 33 (0, 0))) = V36 at HBB n0_ n1_ n2_ n3_ ⊢
              generalize w36.heap.size = bb at HBB ⊢
              have HS := n0_
              have HFB := n1_
              have HGB := n2_
              have HAB := n3_
              clear n0_ n1_ n2_ n3_; have hf0 : V36.cell? ⟨fb, 0, none⟩ = some (.int .i64 q1) := (blk_cell HFB.out 0).trans rfl; have hf1 : V36.cell? ⟨fb, 1, none⟩ = some (.int .i64 q2) := (blk_cell HFB.out 1).trans rfl; have hf2 : V36.cell? ⟨fb, 2, none⟩ = some (.int .i64 q3) := (blk_cell HFB.out 2).trans rfl; have hf3 : V36.cell? ⟨fb, 3, none⟩ = some (.string q4) := (blk_cell HFB.out 3).trans rfl
              have hg0 : V36.cell? ⟨gb, 0, none⟩ = some (.int .i64 q1) := (blk_cell HGB.out 0).trans rfl; have hg1 : V36.cell? ⟨gb, 1, none⟩ = some (.int .i64 q2) := (blk_cell HGB.out 1).trans rfl; have hg2 : V36.cell? ⟨gb, 2, none⟩ = some (.int .i64 q3) := (blk_cell HGB.out 2).trans rfl; have hg3 : V36.cell? ⟨gb, 3, none⟩ = some (.string q4) := (blk_cell HGB.out 3).trans rfl
              have ha0 : V36.cell? ⟨ab, 0, none⟩ = some (.int .i64 p1_) := (blk_cell HAB.out 0).trans rfl; have ha1 : V36.cell? ⟨ab, 1, none⟩ = some (.int .i64 p2_) := (blk_cell HAB.out 1).trans rfl; have ha2 : V36.cell? ⟨ab, 2, none⟩ = some (.int .i64 p3_) := (blk_cell HAB.out 2).trans rfl; have ha3 : V36.cell? ⟨ab, 3, none⟩ = some (.string p4_) := (blk_cell HAB.out 3).trans rfl
              have hbb0 : V36.cell? ⟨bb, 0, none⟩ = some (.int .i64 p1_) := (blk_cell HBB.out 0).trans rfl; have hbb1 : V36.cell? ⟨bb, 1, none⟩ = some (.int .i64 p2_) := (blk_cell HBB.out 1).trans rfl; have hbb2 : V36.cell? ⟨bb, 2, none⟩ = some (.int .i64 p3_) := (blk_cell HBB.out 2).trans rfl; have hbb3 : V36.cell? ⟨bb, 3, none⟩ = some (.string p4_) := (blk_cell HBB.out 3).trans rfl
              have ei : wrap64 (i + 1) = i + 1 := by
                have h1 := HK.out
                have h2 := HL2.out.1
                unfold wrap64
                omega
              go_wp2; go_roundg (gko - 1)
              case measure =>
                have h0 := HGO.out
                have h1 := HK.out
                have h2 := HCI.out
                have h3 := HL2.out.1
                omega
              case rel => exact ⟨y9, i + 1, h3, s2, t2, hh2, rfl, (by rw [ei]), ⟨by
                have h0 := HGO.out
                have h1 := HK.out
                have h2 := HCI.out
                have h3 := HL2.out.1
                have h4 := HY.out
                have h5 := HER.out
                have h6 := HE.out
                omega⟩, HM, HC, HS⟩
    · have cb : decide (i < (l2.length : Int)) = false := decide_eq_false c
      clear c; have HB := Aside0.mk HS.out.HB
      clear HS; go_wp2_with (first | (go_at_call 8; (with_reducible refine (alive_ok _).mono ?_); rintro e w90 ⟨rfl, hb⟩; have n0_ := Aside0.mk (below_step HB.out hb); clear HB hb; have HB := n0_; clear n0_))
      go_ret
      exact ⟨rfl, HB.out⟩

def ok29 (x : S29) : Prop := ((Lit.int .u32 x.f0).wf = true) ∧ ((Lit.int .u32 x.f1).wf = true) ∧ (True)
def ok31 (x : S31) : Prop := (ok29 x.f0) ∧ (x.f1.size ≤ 140737488351232) ∧ ((Lit.int .i64 x.f2).wf = true) ∧ ((Lit.int .i64 x.f3).wf = true)
def ok33 (x : S33) : Prop := ((Lit.int .i64 x.f0).wf = true) ∧ ((Lit.int .i64 x.f1).wf = true) ∧ ((Lit.int .i64 x.f2).wf = true) ∧ (x.f3.size ≤ 140737488351232)
def ok61 (x : S61) : Prop := (True) ∧ ((Lit.int .i64 x.f1).wf = true) ∧ (ok33 x.f2)
def signalboxlaw23_WatchPlays.Pure : Prop := ∀ (a0_0 : Int) (a0_1 : Int) (a0_2 : Bool) (a0_3 : ByteArray) (a0_4 : Int) (a0_5 : Int) (a1 : Int) (l2 : List (S61)), (Lit.int .u32 a0_0).wf = true → (Lit.int .u32 a0_1).wf = true → a0_3.size ≤ 140737488351232 → (Lit.int .i64 a0_4).wf = true → (Lit.int .i64 a0_5).wf = true → (Lit.int .i64 a1).wf = true → l2.length ≤ maxLen → l2.length * 56 ≤ 140737488351232 → ((∀ x ∈ l2, (ok61 x))) → signalboxlaw23_WatchPlays.f a0_0 a0_1 a0_2 a0_3 a0_4 a0_5 a1 l2 = some true

end Go.Proofs.Ytelplkdbjfkfmaa.PWatchPlays
