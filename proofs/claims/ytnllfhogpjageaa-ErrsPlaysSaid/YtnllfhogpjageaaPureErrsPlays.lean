/- ErrsPlays: whatever happens to a node, what is told of it ends with its state: the last class told is that of its state, and each change of state is told, once. Conditions: none beyond the statement's own. -/
import Derived.Test.YtnllfhogpjageaaPErrsPlaysx7
namespace Go.Proofs.Ytnllfhogpjageaa.Pure
open Go.RowKit Go.Proofs.Ytnllfhogpjageaa.PErrsPlays Go.Proofs.YtnllfhogpjageaaW.PrintWords Go.Proofs.YtnllfhogpjageaaW.PrintLast
set_option linter.unusedVariables false
set_option linter.unusedSimpArgs false

theorem wf_i64 {n : Int} (h : (Lit.int .i64 n).wf = true) : -9223372036854775808 ≤ n ∧ n ≤ 9223372036854775807 := by
  simp only [Lit.wf, Bool.and_eq_true, decide_eq_true_eq] at h
  exact h
theorem wf_u32 {n : Int} (h : (Lit.int .u32 n).wf = true) : 0 ≤ n ∧ n ≤ 4294967295 := by
  simp only [Lit.wf, Bool.and_eq_true, decide_eq_true_eq] at h
  exact h
theorem wf_i32 {n : Int} (h : (Lit.int .i32 n).wf = true) : -2147483648 ≤ n ∧ n ≤ 2147483647 := by
  simp only [Lit.wf, Bool.and_eq_true, decide_eq_true_eq] at h
  exact h
theorem w64 {n : Int} (h0 : -9223372036854775808 ≤ n) (h1 : n ≤ 9223372036854775807) : wrap64 n = n := by unfold wrap64; omega

/-- 'Option.bind_some' as an equation that simp carries along (not by 'rfl': else the kernel unfolds what is bound). -/
theorem ob {α β : Type} (a : α) (f : α → Option β) : (some a).bind f = f a := by
  have h : (some a).bind f = f a := rfl
  exact h.symm.symm

theorem up1 (j : Nat) (h : j < 1000000000) : wrap64 ((j : Int) + 1) = ((j + 1 : Nat) : Int) := by rw [w64 (by omega) (by omega)]; omega

def rgt (t r : Int) (o : Bool) (i : Int) : Bool :=
  decide (0 ≤ t ∧ t ≤ 263 ∧ 0 ≤ r ∧ r ≤ 135 ∧ 0 ≤ i) && (o == decide (t > 255)) && (o || decide (i = 0))

theorem right_eq (k : Nat) (hk : 1 ≤ k) (t r : Int) (o : Bool) (i : Int) : conf_Right.f k t r o i = some (rgt t r o i) := by
  obtain ⟨k, rfl⟩ : ∃ m, k = m + 1 := ⟨k - 1, by omega⟩
  simp only [conf_Right.f, conf_Right.j0, rgt]
  by_cases h1 : t < 0
  · simp [h1]; omega
  by_cases h2 : t > 263
  · simp [h1, h2]; omega
  by_cases h3 : r < 0
  · simp [h1, h2, h3]; omega
  by_cases h4 : r > 135
  · simp [h1, h2, h3, h4]; omega
  by_cases h5 : i < 0
  · simp [h1, h2, h3, h4, h5]; omega
  have a1 : 0 ≤ t := by omega
  have a2 : t ≤ 263 := by omega
  have a3 : 0 ≤ r := by omega
  have a4 : r ≤ 135 := by omega
  have a5 : 0 ≤ i := by omega
  simp only [h1, h2, h3, h4, h5, a1, a2, a3, a4, a5]
  by_cases h6 : t > 255 <;> cases o <;> simp [h6] <;> rfl

def stt (t r : Int) (o : Bool) (i : Int) : Int :=
  if rgt t r o i = true then (if o = true then 3 else if mx t r > 127 then 2 else if mx t r > 95 then 1 else 0) else -1

theorem state_eq (k : Nat) (hk : 1 ≤ k) (t r : Int) (o : Bool) (i : Int) : conf_State.f k t r o i = some (stt t r o i) := by
  simp only [conf_State.f, right_eq k hk, Option.bind_some, stt]
  split
  · split
    · rfl
    · split
      · rfl
      · split <;> rfl
  · rfl


theorem rgt_on (t r i : Int) : rgt t r false i = true ↔ 0 ≤ t ∧ t ≤ 255 ∧ 0 ≤ r ∧ r ≤ 135 ∧ i = 0 := by
  unfold rgt
  simp
  omega

theorem rgt_off (t r i : Int) : rgt t r true i = true ↔ 256 ≤ t ∧ t ≤ 263 ∧ 0 ≤ r ∧ r ≤ 135 ∧ 0 ≤ i := by
  unfold rgt
  simp
  omega

theorem rright_eq (k : Nat) (hk : 1 ≤ k) (t r : Int) (o : Bool) (i : Int) : signalboxref10_Right.f k t r o i = some (rgt t r o i) := by
  obtain ⟨k, rfl⟩ : ∃ m, k = m + 1 := ⟨k - 1, by omega⟩
  simp only [signalboxref10_Right.f, signalboxref10_Right.j0, rgt]
  by_cases h1 : t < 0
  · simp [h1]; omega
  by_cases h2 : t > 263
  · simp [h1, h2]; omega
  by_cases h3 : r < 0
  · simp [h1, h2, h3]; omega
  by_cases h4 : r > 135
  · simp [h1, h2, h3, h4]; omega
  by_cases h5 : i < 0
  · simp [h1, h2, h3, h4, h5]; omega
  have a1 : 0 ≤ t := by omega
  have a2 : t ≤ 263 := by omega
  have a3 : 0 ≤ r := by omega
  have a4 : r ≤ 135 := by omega
  have a5 : 0 ≤ i := by omega
  simp only [h1, h2, h3, h4, h5, a1, a2, a3, a4, a5]
  by_cases h6 : t > 255
  · have h7 : ¬ t ≤ 255 := by omega
    cases o <;> simp [h6, h7]
  · have h7 : t ≤ 255 := by omega
    cases o <;> simp [h6, h7] <;> rfl

theorem rstate_eq (k : Nat) (hk : 1 ≤ k) (t r : Int) (o : Bool) (i : Int) : signalboxref10_State.f k t r o i = some (stt t r o i) := by
  obtain ⟨k, rfl⟩ : ∃ m, k = m + 1 := ⟨k - 1, by omega⟩
  simp only [signalboxref10_State.f, signalboxref10_State.j0, rright_eq (k + 1) hk, Option.bind_some, stt]
  cases rgt t r o i
  · simp
  · cases o
    · simp only [mx]
      by_cases h1 : t > 127
      · simp [h1]; split <;> omega
      · by_cases h2 : r > 127
        · simp [h1, h2]; split <;> omega
        · by_cases h3 : t > 95
          · simp [h1, h2, h3]; split <;> simp <;> omega
          · by_cases h4 : r > 95
            · simp [h1, h2, h3, h4]; split <;> simp <;> omega
            · simp [h1, h2, h3, h4]; split <;> simp <;> omega
    · simp

/-- What is known of a node behind whatever happens. -/
def nx (t r : Int) (o : Bool) (i w b : Int) : Int × Int × Bool × Int :=
  if o = true then (if w = 4 then (if i ≥ mx b 1 - 1 then (0, 0, false, 0) else (t, r, true, i + 1)) else (t, r, true, i))
  else if w = 0 then (mx (t - 1) 0, r, false, i) else if w = 1 then (if r > 127 then (t, 119, false, i) else (t, mx (r - 1) 0, false, i))
  else if w = 2 then (t + 8, r, decide (t + 8 > 255), i) else if w = 3 then (if stt t r false i = 2 then (t, mn (r + 1) 135, false, i) else (t, mn (r + 8) 135, false, i)) else (t, r, false, i)

theorem rdo_eq (k : Nat) (hk : 1 ≤ k) (t r : Int) (o : Bool) (i w b : Int) (hr : rgt t r o i = true) (hi : i ≤ 1000) (hw : 0 ≤ w ∧ w < 5) (hb : b ≤ 9223372036854775807) :
    signalboxref10_Do.f k t r o i w b = some (nx t r o i w b) := by
  simp only [signalboxref10_Do.f, rright_eq k hk, rstate_eq k hk, Option.bind_some, hr, if_true]
  cases o with
  | true =>
    have h1 := (rgt_off t r i).mp hr
    have e1 : wrap64 (i + 1) = i + 1 := by unfold wrap64; omega
    simp only [if_true, e1, nx]
    by_cases a4 : w = 4
    · rw [if_pos a4, if_pos a4]
      by_cases hb1 : b < 1
      · have em : mx b 1 = 1 := by unfold mx; rw [if_pos hb1]
        rw [if_pos hb1, if_pos (by omega), em, if_pos (by omega)]
      · have e2 : wrap64 (b - 1) = b - 1 := by unfold wrap64; omega
        have em : mx b 1 = b := by unfold mx; rw [if_neg hb1]
        rw [if_neg hb1, e2, em]
        (try (split <;> rfl))
    · rw [if_neg a4, if_neg a4]
  | false =>
    have h1 := (rgt_on t r i).mp hr
    have e1 : wrap64 (t - 1) = t - 1 := by unfold wrap64; omega
    have e2 : wrap64 (r - 1) = r - 1 := by unfold wrap64; omega
    have e3 : wrap64 (t + 8) = t + 8 := by unfold wrap64; omega
    have e4 : wrap64 (r + 1) = r + 1 := by unfold wrap64; omega
    have e5 : wrap64 (r + 8) = r + 8 := by unfold wrap64; omega
    simp only [Bool.false_eq_true, if_false, e1, e2, e3, e4, e5, nx]
    by_cases a0 : w = 0
    · rw [if_pos a0, if_pos a0]
      unfold mx
      by_cases h : t > 0
      · rw [if_pos h, if_neg (by omega)]
      · rw [if_neg h, if_pos (by omega), show t = 0 by omega]
    by_cases a1 : w = 1
    · rw [if_neg a0, if_pos a1, if_neg a0, if_pos a1]
      unfold mx
      by_cases h : r > 127
      · rw [if_pos h, if_pos h]
      · rw [if_neg h, if_neg h]
        by_cases h' : r > 0
        · rw [if_pos h', if_neg (by omega)]
        · rw [if_neg h', if_pos (by omega), show r = 0 by omega]
    by_cases a2 : w = 2
    · rw [if_neg a0, if_neg a1, if_pos a2, if_neg a0, if_neg a1, if_pos a2]
      by_cases h : t + 8 > 255
      · rw [if_pos h]; simp only [h, decide_true]
      · rw [if_neg h]; simp only [h, decide_false]
    by_cases a3 : w = 3
    · rw [if_neg a0, if_neg a1, if_neg a2, if_pos a3, if_neg a0, if_neg a1, if_neg a2, if_pos a3]
      unfold mn
      by_cases h : stt t r false i = 2
      · rw [if_pos h, if_pos h]
        by_cases h' : r + 1 > 135
        · rw [if_pos h', if_pos (by omega)]
        · rw [if_neg h']
          by_cases h2 : 135 < r + 1
          · omega
          · rw [if_neg h2]
      · rw [if_neg h, if_neg h]
        by_cases h' : r + 8 > 135
        · rw [if_pos h', if_pos (by omega)]
        · rw [if_neg h']
          by_cases h2 : 135 < r + 8
          · omega
          · rw [if_neg h2]
    rw [if_neg a0, if_neg a1, if_neg a2, if_neg a3, if_neg a0, if_neg a1, if_neg a2, if_neg a3]

theorem nx_right (t r : Int) (o : Bool) (i w b : Int) (hr : rgt t r o i = true) (hw : 0 ≤ w ∧ w < 5) :
    rgt (nx t r o i w b).1 (nx t r o i w b).2.1 (nx t r o i w b).2.2.1 (nx t r o i w b).2.2.2 = true := by
  cases o with
  | true =>
    have h1 := (rgt_off t r i).mp hr
    unfold nx
    rw [if_pos rfl]
    split
    · split
      · decide
      · exact (rgt_off _ _ _).mpr (by dsimp only; omega)
    · exact hr
  | false =>
    have h1 := (rgt_on t r i).mp hr
    unfold nx
    rw [if_neg (by decide)]
    by_cases a0 : w = 0
    · rw [if_pos a0]
      exact (rgt_on _ _ _).mpr (by dsimp only [mx]; split <;> omega)
    by_cases a1 : w = 1
    · rw [if_neg a0, if_pos a1]
      split
      · exact (rgt_on _ _ _).mpr (by dsimp only; omega)
      · exact (rgt_on _ _ _).mpr (by dsimp only [mx]; split <;> omega)
    by_cases a2 : w = 2
    · rw [if_neg a0, if_neg a1, if_pos a2]
      dsimp only
      by_cases h : t + 8 > 255
      · simp only [h, decide_true]
        exact (rgt_off _ _ _).mpr (by omega)
      · simp only [h, decide_false]
        exact (rgt_on _ _ _).mpr (by omega)
    by_cases a3 : w = 3
    · rw [if_neg a0, if_neg a1, if_neg a2, if_pos a3]
      split
      · exact (rgt_on _ _ _).mpr (by dsimp only [mn]; split <;> omega)
      · exact (rgt_on _ _ _).mpr (by dsimp only [mn]; split <;> omega)
    rw [if_neg a0, if_neg a1, if_neg a2, if_neg a3]
    exact hr


theorem stt_range (t r : Int) (o : Bool) (i : Int) : -1 ≤ stt t r o i ∧ stt t r o i ≤ 3 ∧ (0 ≤ stt t r o i → (stt t r o i = 3 ↔ o = true)) := by
  unfold stt
  cases rgt t r o i
  · simp
  · cases o
    · simp only [if_true, Bool.false_eq_true, if_false, iff_false]
      split
      · omega
      · split <;> omega
    · simp
/-- What is told of a change of state. -/
def tw (a b : Int) : List Int := if a < 0 then [] else if b < 0 then [] else if a = b then [] else if a = 3 then [6] else if b = 3 then [5] else if b = 0 then [4] else if b = 1 then [2] else [3]
theorem turned_eq (k : Nat) (hk : 1 ≤ k) (t r : Int) (o : Bool) (i t' r' : Int) (o' : Bool) (i' : Int) : errs_Turned.f k t r o i t' r' o' i' = some (tw (stt t r o i) (stt t' r' o' i')) := by
  obtain ⟨a1, a2, a3⟩ := stt_range t r o i
  obtain ⟨b1, b2, b3⟩ := stt_range t' r' o' i'
  simp only [errs_Turned.f, state_eq k hk, ob, tw]
  generalize stt t r o i = a at *
  generalize stt t' r' o' i' = b at *
  by_cases h1 : a < 0
  · rw [if_pos h1, if_pos h1]
  rw [if_neg h1, if_neg h1]
  by_cases h2 : b < 0
  · rw [if_pos h2, if_pos h2]
  rw [if_neg h2, if_neg h2]
  by_cases h3 : a = b
  · rw [if_pos h3, if_pos h3]
  rw [if_neg h3, if_neg h3]
  have a4 := a3 (by omega)
  have b4 := b3 (by omega)
  by_cases h4 : a = 3
  · rw [if_pos (a4.mp h4), if_pos h4]
  rw [if_neg (fun h => h4 (a4.mpr h)), if_neg h4]
  by_cases h5 : b = 3
  · rw [if_pos (b4.mp h5), if_pos h5]
  rw [if_neg (fun h => h5 (b4.mpr h)), if_neg h5]
  by_cases h6 : b = 0
  · rw [if_pos h6, if_pos h6]
  rw [if_neg h6, if_neg h6]
  by_cases h7 : b = 1
  · rw [if_pos h7, if_pos h7]
  rw [if_neg h7, if_neg h7, if_pos (by omega)]

theorem alive_k : ∃ K, ∀ k, K ≤ k → signalboxlaw19_alive.f k = some true :=
  Ev.of signalboxlaw19_alive.mono (k := 40) (by decide +kernel)

theorem stt_on (t r : Int) (o : Bool) (i : Int) (h : rgt t r o i = true) : 0 ≤ stt t r o i := by
  unfold stt
  rw [if_pos h]
  split
  · omega
  · split
    · omega
    · split <;> omega
theorem stt_true (t r i : Int) (h : rgt t r true i = true) : stt t r true i = 3 := by
  unfold stt
  rw [if_pos h, if_pos rfl]
/-- Who is off stays off, or begins anew. -/
theorem nx_off (t r i w b : Int) (h : rgt t r true i = true) (hw : 0 ≤ w ∧ w < 5) : stt (nx t r true i w b).1 (nx t r true i w b).2.1 (nx t r true i w b).2.2.1 (nx t r true i w b).2.2.2 = 3 ∨ stt (nx t r true i w b).1 (nx t r true i w b).2.1 (nx t r true i w b).2.2.1 (nx t r true i w b).2.2.2 = 0 := by
  have hr := nx_right t r true i w b h hw
  unfold nx at hr ⊢
  rw [if_pos rfl] at hr ⊢
  by_cases a4 : w = 4
  · rw [if_pos a4] at hr ⊢
    by_cases hge : i ≥ mx b 1 - 1
    · rw [if_pos hge]; right; decide
    · rw [if_neg hge] at hr ⊢
      left; exact stt_true _ _ _ hr
  · rw [if_neg a4] at hr ⊢
    left; exact stt_true _ _ _ hr
theorem nx_idle (t r : Int) (o : Bool) (i w b : Int) (h : rgt t r o i = true) (p : Int) (hp : 0 ≤ p) (hi : i ≤ p) : (nx t r o i w b).2.2.2 ≤ p + 1 := by
  cases o with
  | true =>
    unfold nx
    rw [if_pos rfl]
    split
    · split
      · dsimp only; omega
      · dsimp only; omega
    · dsimp only; omega
  | false =>
    have h1 := (rgt_on t r i).mp h
    unfold nx
    rw [if_neg (by decide)]
    (repeat' split) <;> dsimp only <;> omega
/-- What was told last fits the state. -/
def fit (last s : Int) : Prop := (s = 0 ∧ (last = 0 ∨ last = 4 ∨ last = 6)) ∨ (s = 1 ∧ last = 2) ∨ (s = 2 ∧ last = 3) ∨ (s = 3 ∧ last = 5)
theorem fit_next (last a b : Int) (h : fit last a) (h1 : 0 ≤ b) (h2 : b ≤ 3) (h3 : a = 3 → b = 3 ∨ b = 0) : (a = b ∧ tw a b = [] ∧ fit last b) ∨ (a ≠ b ∧ ∃ x, tw a b = [x] ∧ fit x b) := by
  by_cases hab : a = b
  · subst hab
    left
    refine ⟨rfl, ?_, h⟩
    unfold tw; (repeat' split) <;> first | rfl | omega
  · right
    refine ⟨hab, ?_⟩
    have ha : a = 0 ∨ a = 1 ∨ a = 2 ∨ a = 3 := by unfold fit at h; omega
    have hb : b = 0 ∨ b = 1 ∨ b = 2 ∨ b = 3 := by omega
    rcases ha with rfl | rfl | rfl | rfl <;> rcases hb with rfl | rfl | rfl | rfl <;> first | exact absurd rfl hab | (exact ⟨_, rfl, by unfold fit; omega⟩) | (exfalso; omega)
theorem plays (b : Int) (hb : b ≤ 9223372036854775807) (l : List Int) (hl : l.length ≤ 400) (K : Nat) (hal : ∀ k, K ≤ k → signalboxlaw19_alive.f k = some true) (d : Nat) :
    ∀ (k p : Nat) (t r : Int) (o : Bool) (i last : Int), p + d = l.length → d * 2 + 100 + K ≤ k → rgt t r o i = true → i ≤ p → fit last (stt t r o i) →
    signalboxlaw19_ErrsPlays.l0 k b last l l.length p t r o i = some true := by
  induction d with
  | zero =>
    intro k p t r o i last hp hk hr hi hf
    obtain ⟨k, rfl⟩ : ∃ m, k = m + 1 := ⟨k - 1, by omega⟩
    obtain rfl : p = l.length := by omega
    have hlt : ¬ (l.length : Int) < (l.length : Int) := Int.lt_irrefl _
    have A := hal k (by omega)
    simp only [signalboxlaw19_ErrsPlays.l0, if_neg hlt, ob, rstate_eq k (by omega)]
    generalize stt t r o i = s at hf
    rcases hf with ⟨rfl, h⟩ | ⟨rfl, rfl⟩ | ⟨rfl, rfl⟩ | ⟨rfl, rfl⟩
    · rw [if_pos (by decide), if_pos (by decide)]
      rcases h with rfl | rfl | rfl
      · rw [if_pos (by decide), A, ob]
      · rw [if_neg (by decide), if_pos (by decide), if_pos rfl, A, ob]
      · rw [if_neg (by decide), if_pos (by decide), if_neg (by decide), if_pos rfl, A, ob]
    · rw [if_pos (by decide), if_pos (by decide), if_pos (by decide), A, ob]
    · rw [if_pos (by decide), if_pos (by decide), if_pos (by decide), A, ob]
    · rw [if_pos (by decide), if_pos (by decide), if_pos (by decide), A, ob]
  | succ d ih =>
    intro k p t r o i last hp hk hr hi hf
    obtain ⟨k, rfl⟩ : ∃ m, k = m + 2 := ⟨k - 2, by omega⟩
    have hx : ∃ w, Int.tmod (wrap64 (Int.tmod (rd l (p : Int)) 5 + 5)) 5 = w ∧ 0 ≤ w ∧ w < 5 := by
      refine ⟨_, rfl, ?_⟩
      have a := Int.tmod_lt_of_pos (rd l (p : Int)) (show (0 : Int) < 5 by decide)
      have c := Int.lt_tmod_of_pos (rd l (p : Int)) (show (0 : Int) < 5 by decide)
      rw [w64 (by omega) (by omega), Int.tmod_eq_emod_of_nonneg (by omega)]
      omega
    obtain ⟨w, hw, hw0⟩ := hx
    have c1 : (p : Int) < (l.length : Int) := by omega
    have c2 : 0 ≤ (p : Int) := by omega
    have hrn := nx_right t r o i w b hr hw0
    have hin := nx_idle t r o i w b hr p c2 hi
    have hdo := rdo_eq (k + 1) (by omega) t r o i w b hr (by omega) hw0 hb
    have h3 : stt t r o i = 3 → stt (nx t r o i w b).1 (nx t r o i w b).2.1 (nx t r o i w b).2.2.1 (nx t r o i w b).2.2.2 = 3 ∨ stt (nx t r o i w b).1 (nx t r o i w b).2.1 (nx t r o i w b).2.2.1 (nx t r o i w b).2.2.2 = 0 := fun hs => by
      have ho : o = true := ((stt_range t r o i).2.2 (by omega)).mp hs
      subst ho
      exact nx_off t r i w b hr hw0
    have hs0 := stt_on _ _ _ _ hrn
    have hs3 := (stt_range (nx t r o i w b).1 (nx t r o i w b).2.1 (nx t r o i w b).2.2.1 (nx t r o i w b).2.2.2).2.1
    simp only [signalboxlaw19_ErrsPlays.l0, if_pos c1, if_pos c2, hw, hdo, ob, turned_eq (k + 1) (by omega), rstate_eq (k + 1) (by omega)]
    rcases fit_next last (stt t r o i) _ hf hs0 hs3 h3 with ⟨e1, e2, e3⟩ | ⟨e1, x, e2, e3⟩
    · have b1 : ((((tw (stt t r o i) (stt (nx t r o i w b).1 (nx t r o i w b).2.1 (nx t r o i w b).2.2.1 (nx t r o i w b).2.2.2)).length : Int) != 0) != (stt t r o i != stt (nx t r o i w b).1 (nx t r o i w b).2.1 (nx t r o i w b).2.2.1 (nx t r o i w b).2.2.2)) = false := by
        rw [e2, ← e1, bne_self_eq_false]; rfl
      rw [b1, e2]
      have b2 : decide ((([] : List Int).length : Int) > 1) = false := by decide
      rw [b2]
      simp only [signalboxlaw19_ErrsPlays.j1, Bool.false_eq_true, if_false]
      rw [if_neg (by decide), up1 p (by omega)]
      exact ih k (p + 1) _ _ _ _ last (by omega) (by omega) hrn (by omega) e3
    · have b1 : ((((tw (stt t r o i) (stt (nx t r o i w b).1 (nx t r o i w b).2.1 (nx t r o i w b).2.2.1 (nx t r o i w b).2.2.2)).length : Int) != 0) != (stt t r o i != stt (nx t r o i w b).1 (nx t r o i w b).2.1 (nx t r o i w b).2.2.1 (nx t r o i w b).2.2.2)) = false := by
        rw [e2]
        have : (stt t r o i != stt (nx t r o i w b).1 (nx t r o i w b).2.1 (nx t r o i w b).2.2.1 (nx t r o i w b).2.2.2) = true := by rw [bne_iff_ne]; exact e1
        rw [this]; rfl
      rw [b1, e2]
      have b2 : decide ((([x] : List Int).length : Int) > 1) = false := rfl
      rw [b2]
      simp only [signalboxlaw19_ErrsPlays.j1, Bool.false_eq_true, if_false]
      rw [if_pos (show (([x] : List Int).length : Int) = 1 from rfl), if_pos (show (0 : Int) < (([x] : List Int).length : Int) from Int.one_pos), up1 p (by omega)]
      exact ih k (p + 1) _ _ _ _ x (by omega) (by omega) hrn (by omega) e3
theorem ErrsPlays : signalboxlaw19_ErrsPlays.Pure := by
  intro l b _ _ _ hb
  have hb2 := (wf_i64 hb).2
  obtain ⟨K, hal⟩ := alive_k
  obtain ⟨M, hM⟩ : ∃ M, M = K + 5000 := ⟨_, rfl⟩
  refine ⟨M, ?_⟩
  unfold signalboxlaw19_ErrsPlays.f
  by_cases hz : (l.length : Int) > 400
  · rw [if_pos hz, hal M (by omega), ob]
  · rw [if_neg hz]
    exact plays b hb2 l (by omega) K hal l.length M 0 0 0 false 0 0 (by omega) (by omega) (by decide) (by decide) (by left; exact ⟨by decide, Or.inl rfl⟩)

end Go.Proofs.Ytnllfhogpjageaa.Pure
