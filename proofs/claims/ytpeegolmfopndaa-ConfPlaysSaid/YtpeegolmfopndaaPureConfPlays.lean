/- ConfPlays: whatever happens to a node, one thing behind the other, it is known of as the document says; it may be all the way, and it is off behind a failure alone, till enough idle slots have passed. Conditions: none beyond the statement's own. -/
import Derived.Test.YtpeegolmfopndaaPConfPlaysx5
namespace Go.Proofs.Ytpeegolmfopndaa.Pure
open Go.RowKit Go.Proofs.Ytpeegolmfopndaa.PConfPlays Go.Proofs.YtpeegolmfopndaaW.PrintWords Go.Proofs.YtpeegolmfopndaaW.PrintLast
set_option linter.unusedVariables false
set_option linter.unusedSimpArgs false

theorem wf_i64 {n : Int} (h : (Lit.int .i64 n).wf = true) : -9223372036854775808 ≤ n ∧ n ≤ 9223372036854775807 := by
  simp only [Lit.wf, Bool.and_eq_true, decide_eq_true_eq] at h
  exact h
theorem wf_u32 {n : Int} (h : (Lit.int .u32 n).wf = true) : 0 ≤ n ∧ n ≤ 4294967295 := by
  simp only [Lit.wf, Bool.and_eq_true, decide_eq_true_eq] at h
  exact h
theorem wf_i32 {n : Int} (h : (Lit.int .i32 n).wf = true) : -2147483648 ≤ n ∧ n ≤ 2147483647 := by
  simp only [Lit.wf, Bool.and_eq_true, decide_eq_true_eq] at h
  exact h
theorem w64 {n : Int} (h0 : -9223372036854775808 ≤ n) (h1 : n ≤ 9223372036854775807) : wrap64 n = n := by unfold wrap64; omega

def rgt (t r : Int) (o : Bool) (i : Int) : Bool :=
  decide (0 ≤ t ∧ t ≤ 263 ∧ 0 ≤ r ∧ r ≤ 135 ∧ 0 ≤ i) && (o == decide (t > 255)) && (o || decide (i = 0))

theorem right_eq (k : Nat) (hk : 1 ≤ k) (t r : Int) (o : Bool) (i : Int) : conf_Right.f k t r o i = some (rgt t r o i) := by
  obtain ⟨k, rfl⟩ : ∃ m, k = m + 1 := ⟨k - 1, by omega⟩
  simp only [conf_Right.f, conf_Right.j0, rgt]
  by_cases h1 : t < 0
  · simp [h1]; omega
  by_cases h2 : t > 263
  · simp [h1, h2]; omega
  by_cases h3 : r < 0
  · simp [h1, h2, h3]; omega
  by_cases h4 : r > 135
  · simp [h1, h2, h3, h4]; omega
  by_cases h5 : i < 0
  · simp [h1, h2, h3, h4, h5]; omega
  have a1 : 0 ≤ t := by omega
  have a2 : t ≤ 263 := by omega
  have a3 : 0 ≤ r := by omega
  have a4 : r ≤ 135 := by omega
  have a5 : 0 ≤ i := by omega
  simp only [h1, h2, h3, h4, h5, a1, a2, a3, a4, a5]
  by_cases h6 : t > 255 <;> cases o <;> simp [h6] <;> rfl

def stt (t r : Int) (o : Bool) (i : Int) : Int :=
  if rgt t r o i = true then (if o = true then 3 else if mx t r > 127 then 2 else if mx t r > 95 then 1 else 0) else -1

theorem state_eq (k : Nat) (hk : 1 ≤ k) (t r : Int) (o : Bool) (i : Int) : conf_State.f k t r o i = some (stt t r o i) := by
  simp only [conf_State.f, right_eq k hk, Option.bind_some, stt]
  split
  · split
    · rfl
    · split
      · rfl
      · split <;> rfl
  · rfl


theorem fixed_eq (k : Nat) (hk : 1 ≤ k) (t r : Int) (o : Bool) (i : Int) : conf_fixed.f k t r o i = some (!rgt t r o i || o) := by
  simp only [conf_fixed.f, right_eq k hk, Option.bind_some]
  cases rgt t r o i <;> simp

theorem failed_eq (k : Nat) (hk : 1 ≤ k) (t r : Int) (o : Bool) (i : Int) : conf_Failed.f k t r o i =
    some (if (!rgt t r o i || o) = true then (t, r, o, i) else (wrap64 (t + 8), r, decide (wrap64 (t + 8) > 255), i)) := by
  simp only [conf_Failed.f, fixed_eq k hk, Option.bind_some]
  split <;> rfl


theorem idle_eq (k : Nat) (hk : 1 ≤ k) (t r : Int) (o : Bool) (i b : Int) : conf_Idle.f k t r o i b =
    some (if (!rgt t r o i || !o) = true then (t, r, o, i) else if i ≥ wrap64 (mx b 1 - 1) then (0, 0, false, 0) else (t, r, o, wrap64 (i + 1))) := by
  obtain ⟨k, rfl⟩ : ∃ m, k = m + 1 := ⟨k - 1, by omega⟩
  simp only [conf_Idle.f, conf_Idle.j0, right_eq (k + 1) hk, Option.bind_some]
  cases rgt t r o i <;> cases o <;> simp
  split <;> rfl

theorem sent_eq (k : Nat) (hk : 1 ≤ k) (t r : Int) (o : Bool) (i : Int) : conf_Sent.f k t r o i =
    some (if (!rgt t r o i || o) = true then (t, r, o, i) else (mx (wrap64 (t - 1)) 0, r, o, i)) := by
  simp only [conf_Sent.f, fixed_eq k hk, Option.bind_some]
  split <;> rfl

theorem heard_eq (k : Nat) (hk : 1 ≤ k) (t r : Int) (o : Bool) (i : Int) : conf_Heard.f k t r o i =
    some (if (!rgt t r o i || o) = true then (t, r, o, i) else if r > 127 then (t, 119, o, i) else (t, mx (wrap64 (r - 1)) 0, o, i)) := by
  simp only [conf_Heard.f, fixed_eq k hk, Option.bind_some]
  split
  · rfl
  · split <;> rfl

theorem missed_eq (k : Nat) (hk : 1 ≤ k) (t r : Int) (o : Bool) (i : Int) : conf_Missed.f k t r o i =
    some (if (!rgt t r o i || o) = true then (t, r, o, i) else if stt t r o i = 2 then (t, mn (wrap64 (r + 1)) 135, o, i) else (t, mn (wrap64 (r + 8)) 135, o, i)) := by
  simp only [conf_Missed.f, fixed_eq k hk, state_eq k hk, Option.bind_some]
  split
  · rfl
  · split <;> rfl

theorem rgt_on (t r i : Int) : rgt t r false i = true ↔ 0 ≤ t ∧ t ≤ 255 ∧ 0 ≤ r ∧ r ≤ 135 ∧ i = 0 := by
  unfold rgt
  simp
  omega

theorem rgt_off (t r i : Int) : rgt t r true i = true ↔ 256 ≤ t ∧ t ≤ 263 ∧ 0 ≤ r ∧ r ≤ 135 ∧ 0 ≤ i := by
  unfold rgt
  simp
  omega

theorem rright_eq (k : Nat) (hk : 1 ≤ k) (t r : Int) (o : Bool) (i : Int) : signalboxref10_Right.f k t r o i = some (rgt t r o i) := by
  obtain ⟨k, rfl⟩ : ∃ m, k = m + 1 := ⟨k - 1, by omega⟩
  simp only [signalboxref10_Right.f, signalboxref10_Right.j0, rgt]
  by_cases h1 : t < 0
  · simp [h1]; omega
  by_cases h2 : t > 263
  · simp [h1, h2]; omega
  by_cases h3 : r < 0
  · simp [h1, h2, h3]; omega
  by_cases h4 : r > 135
  · simp [h1, h2, h3, h4]; omega
  by_cases h5 : i < 0
  · simp [h1, h2, h3, h4, h5]; omega
  have a1 : 0 ≤ t := by omega
  have a2 : t ≤ 263 := by omega
  have a3 : 0 ≤ r := by omega
  have a4 : r ≤ 135 := by omega
  have a5 : 0 ≤ i := by omega
  simp only [h1, h2, h3, h4, h5, a1, a2, a3, a4, a5]
  by_cases h6 : t > 255
  · have h7 : ¬ t ≤ 255 := by omega
    cases o <;> simp [h6, h7]
  · have h7 : t ≤ 255 := by omega
    cases o <;> simp [h6, h7] <;> rfl

theorem rstate_eq (k : Nat) (hk : 1 ≤ k) (t r : Int) (o : Bool) (i : Int) : signalboxref10_State.f k t r o i = some (stt t r o i) := by
  obtain ⟨k, rfl⟩ : ∃ m, k = m + 1 := ⟨k - 1, by omega⟩
  simp only [signalboxref10_State.f, signalboxref10_State.j0, rright_eq (k + 1) hk, Option.bind_some, stt]
  cases rgt t r o i
  · simp
  · cases o
    · simp only [mx]
      by_cases h1 : t > 127
      · simp [h1]; split <;> omega
      · by_cases h2 : r > 127
        · simp [h1, h2]; split <;> omega
        · by_cases h3 : t > 95
          · simp [h1, h2, h3]; split <;> simp <;> omega
          · by_cases h4 : r > 95
            · simp [h1, h2, h3, h4]; split <;> simp <;> omega
            · simp [h1, h2, h3, h4]; split <;> simp <;> omega
    · simp

theorem alive_ev : Ev (fun k => signalboxlaw10_alive.f k) true :=
  Ev.of signalboxlaw10_alive.mono (k := 60) (by decide +kernel)

theorem alive_k : ∃ K, ∀ k, K ≤ k → signalboxlaw10_alive.f k = some true := alive_ev

/-- What is known of a node behind whatever happens. -/
def nx (t r : Int) (o : Bool) (i w b : Int) : Int × Int × Bool × Int :=
  if o = true then (if w = 4 then (if i ≥ mx b 1 - 1 then (0, 0, false, 0) else (t, r, true, i + 1)) else (t, r, true, i))
  else if w = 0 then (mx (t - 1) 0, r, false, i) else if w = 1 then (if r > 127 then (t, 119, false, i) else (t, mx (r - 1) 0, false, i))
  else if w = 2 then (t + 8, r, decide (t + 8 > 255), i) else if w = 3 then (if stt t r false i = 2 then (t, mn (r + 1) 135, false, i) else (t, mn (r + 8) 135, false, i)) else (t, r, false, i)

theorem do_eq (k : Nat) (hk : 1 ≤ k) (t r : Int) (o : Bool) (i w b : Int) (hr : rgt t r o i = true) (hi : i ≤ 1000) (hw : 0 ≤ w ∧ w < 5) (hb : b ≤ 9223372036854775807) :
    signalboxlaw10_do.f k t r o i w b = some (nx t r o i w b) := by
  have em : wrap64 (mx b 1 - 1) = mx b 1 - 1 := by unfold wrap64 mx; split <;> omega
  simp only [signalboxlaw10_do.f, sent_eq k hk, heard_eq k hk, failed_eq k hk, missed_eq k hk, idle_eq k hk, Option.bind_some, hr, em]
  cases o with
  | true =>
    have h1 := (rgt_off t r i).mp hr
    have e1 : wrap64 (i + 1) = i + 1 := by unfold wrap64; omega
    simp only [Bool.not_true, Bool.false_or, if_true, Bool.or_self, e1, nx]
    by_cases a0 : w = 0
    · rw [if_pos a0, if_neg (by omega)]
    by_cases a1 : w = 1
    · rw [if_neg a0, if_pos a1, if_neg (by omega)]
    by_cases a2 : w = 2
    · rw [if_neg a0, if_neg a1, if_pos a2, if_neg (by omega)]
    by_cases a3 : w = 3
    · rw [if_neg a0, if_neg a1, if_neg a2, if_pos a3, if_neg (by omega)]
    have a4 : w = 4 := by omega
    rw [if_neg a0, if_neg a1, if_neg a2, if_neg a3, if_pos a4]
    simp only [Bool.false_eq_true, if_false]
    (try (split <;> rfl))
  | false =>
    have h1 := (rgt_on t r i).mp hr
    have e1 : wrap64 (t - 1) = t - 1 := by unfold wrap64; omega
    have e2 : wrap64 (r - 1) = r - 1 := by unfold wrap64; omega
    have e3 : wrap64 (t + 8) = t + 8 := by unfold wrap64; omega
    have e4 : wrap64 (r + 1) = r + 1 := by unfold wrap64; omega
    have e5 : wrap64 (r + 8) = r + 8 := by unfold wrap64; omega
    simp only [Bool.not_true, Bool.or_self, Bool.false_eq_true, if_false, e1, e2, e3, e4, e5, nx, Bool.not_false, Bool.false_or, if_true]
    by_cases a0 : w = 0
    · rw [if_pos a0, if_pos a0]
    by_cases a1 : w = 1
    · rw [if_neg a0, if_pos a1, if_neg a0, if_pos a1]
      (try (split <;> rfl))
    by_cases a2 : w = 2
    · rw [if_neg a0, if_neg a1, if_pos a2, if_neg a0, if_neg a1, if_pos a2]
    by_cases a3 : w = 3
    · rw [if_neg a0, if_neg a1, if_neg a2, if_pos a3, if_neg a0, if_neg a1, if_neg a2, if_pos a3]
      (try (split <;> rfl))
    rw [if_neg a0, if_neg a1, if_neg a2, if_neg a3, if_neg a0, if_neg a1, if_neg a2, if_neg a3]

theorem rdo_eq (k : Nat) (hk : 1 ≤ k) (t r : Int) (o : Bool) (i w b : Int) (hr : rgt t r o i = true) (hi : i ≤ 1000) (hw : 0 ≤ w ∧ w < 5) (hb : b ≤ 9223372036854775807) :
    signalboxref10_Do.f k t r o i w b = some (nx t r o i w b) := by
  simp only [signalboxref10_Do.f, rright_eq k hk, rstate_eq k hk, Option.bind_some, hr, if_true]
  cases o with
  | true =>
    have h1 := (rgt_off t r i).mp hr
    have e1 : wrap64 (i + 1) = i + 1 := by unfold wrap64; omega
    simp only [if_true, e1, nx]
    by_cases a4 : w = 4
    · rw [if_pos a4, if_pos a4]
      by_cases hb1 : b < 1
      · have em : mx b 1 = 1 := by unfold mx; rw [if_pos hb1]
        rw [if_pos hb1, if_pos (by omega), em, if_pos (by omega)]
      · have e2 : wrap64 (b - 1) = b - 1 := by unfold wrap64; omega
        have em : mx b 1 = b := by unfold mx; rw [if_neg hb1]
        rw [if_neg hb1, e2, em]
        (try (split <;> rfl))
    · rw [if_neg a4, if_neg a4]
  | false =>
    have h1 := (rgt_on t r i).mp hr
    have e1 : wrap64 (t - 1) = t - 1 := by unfold wrap64; omega
    have e2 : wrap64 (r - 1) = r - 1 := by unfold wrap64; omega
    have e3 : wrap64 (t + 8) = t + 8 := by unfold wrap64; omega
    have e4 : wrap64 (r + 1) = r + 1 := by unfold wrap64; omega
    have e5 : wrap64 (r + 8) = r + 8 := by unfold wrap64; omega
    simp only [Bool.false_eq_true, if_false, e1, e2, e3, e4, e5, nx]
    by_cases a0 : w = 0
    · rw [if_pos a0, if_pos a0]
      unfold mx
      by_cases h : t > 0
      · rw [if_pos h, if_neg (by omega)]
      · rw [if_neg h, if_pos (by omega), show t = 0 by omega]
    by_cases a1 : w = 1
    · rw [if_neg a0, if_pos a1, if_neg a0, if_pos a1]
      unfold mx
      by_cases h : r > 127
      · rw [if_pos h, if_pos h]
      · rw [if_neg h, if_neg h]
        by_cases h' : r > 0
        · rw [if_pos h', if_neg (by omega)]
        · rw [if_neg h', if_pos (by omega), show r = 0 by omega]
    by_cases a2 : w = 2
    · rw [if_neg a0, if_neg a1, if_pos a2, if_neg a0, if_neg a1, if_pos a2]
      by_cases h : t + 8 > 255
      · rw [if_pos h]; simp only [h, decide_true]
      · rw [if_neg h]; simp only [h, decide_false]
    by_cases a3 : w = 3
    · rw [if_neg a0, if_neg a1, if_neg a2, if_pos a3, if_neg a0, if_neg a1, if_neg a2, if_pos a3]
      unfold mn
      by_cases h : stt t r false i = 2
      · rw [if_pos h, if_pos h]
        by_cases h' : r + 1 > 135
        · rw [if_pos h', if_pos (by omega)]
        · rw [if_neg h']
          by_cases h2 : 135 < r + 1
          · omega
          · rw [if_neg h2]
      · rw [if_neg h, if_neg h]
        by_cases h' : r + 8 > 135
        · rw [if_pos h', if_pos (by omega)]
        · rw [if_neg h']
          by_cases h2 : 135 < r + 8
          · omega
          · rw [if_neg h2]
    rw [if_neg a0, if_neg a1, if_neg a2, if_neg a3, if_neg a0, if_neg a1, if_neg a2, if_neg a3]

theorem nx_right (t r : Int) (o : Bool) (i w b : Int) (hr : rgt t r o i = true) (hw : 0 ≤ w ∧ w < 5) :
    rgt (nx t r o i w b).1 (nx t r o i w b).2.1 (nx t r o i w b).2.2.1 (nx t r o i w b).2.2.2 = true := by
  cases o with
  | true =>
    have h1 := (rgt_off t r i).mp hr
    unfold nx
    rw [if_pos rfl]
    split
    · split
      · decide
      · exact (rgt_off _ _ _).mpr (by dsimp only; omega)
    · exact hr
  | false =>
    have h1 := (rgt_on t r i).mp hr
    unfold nx
    rw [if_neg (by decide)]
    by_cases a0 : w = 0
    · rw [if_pos a0]
      exact (rgt_on _ _ _).mpr (by dsimp only [mx]; split <;> omega)
    by_cases a1 : w = 1
    · rw [if_neg a0, if_pos a1]
      split
      · exact (rgt_on _ _ _).mpr (by dsimp only; omega)
      · exact (rgt_on _ _ _).mpr (by dsimp only [mx]; split <;> omega)
    by_cases a2 : w = 2
    · rw [if_neg a0, if_neg a1, if_pos a2]
      dsimp only
      by_cases h : t + 8 > 255
      · simp only [h, decide_true]
        exact (rgt_off _ _ _).mpr (by omega)
      · simp only [h, decide_false]
        exact (rgt_on _ _ _).mpr (by omega)
    by_cases a3 : w = 3
    · rw [if_neg a0, if_neg a1, if_neg a2, if_pos a3]
      split
      · exact (rgt_on _ _ _).mpr (by dsimp only [mn]; split <;> omega)
      · exact (rgt_on _ _ _).mpr (by dsimp only [mn]; split <;> omega)
    rw [if_neg a0, if_neg a1, if_neg a2, if_neg a3]
    exact hr

theorem play (b : Int) (hb : b ≤ 9223372036854775807) (l : List Int) (hl : l.length ≤ 400) (d : Nat) :
    ∀ (n t r : Int) (o : Bool) (i p : Int), 0 ≤ p → p ≤ l.length → l.length - p = d → rgt t r o i = true → i ≤ p → (o = true → n = i) → (o = false → n = 0) →
    Ev (fun k => signalboxlaw10_ConfPlays.l0 k b n l l.length p t r o i t r o i) true := by
  induction d with
  | zero =>
    intro n t r o i p hp0 hp hd hr hi h1 h0
    obtain ⟨K, hK⟩ := alive_k
    refine ⟨K + 2, fun k hk => ?_⟩
    obtain ⟨k, rfl⟩ : ∃ m, k = m + 1 := ⟨k - 1, by omega⟩
    simp only [signalboxlaw10_ConfPlays.l0]
    rw [if_neg (by omega), hK k (by omega)]
    rfl
  | succ d ih =>
    intro n t r o i p hp0 hp hd hr hi h1 h0
    have hx : ∃ w, Int.tmod (wrap64 (Int.tmod (rd l p) 5 + 5)) 5 = w ∧ 0 ≤ w ∧ w < 5 := by
      refine ⟨_, rfl, ?_⟩
      have a := Int.tmod_lt_of_pos (rd l p) (show (0 : Int) < 5 by decide)
      have c := Int.lt_tmod_of_pos (rd l p) (show (0 : Int) < 5 by decide)
      rw [w64 (by omega) (by omega), Int.tmod_eq_emod_of_nonneg (by omega)]
      omega
    obtain ⟨w, hw, hw0⟩ := hx
    have hrn := nx_right t r o i w b hr hw0
    -- what follows
    have key : ∃ n', ((nx t r o i w b).2.2.1 = true → n' = (nx t r o i w b).2.2.2) ∧ ((nx t r o i w b).2.2.1 = false → n' = 0) ∧ (nx t r o i w b).2.2.2 ≤ p + 1 ∧
        ∀ k, (3 ≤ k) → signalboxlaw10_ConfPlays.l0 (k + 1) b n l l.length p t r o i t r o i = signalboxlaw10_ConfPlays.l0 (k - 3) b n' l l.length (p + 1) (nx t r o i w b).1 (nx t r o i w b).2.1 (nx t r o i w b).2.2.1 (nx t r o i w b).2.2.2 (nx t r o i w b).1 (nx t r o i w b).2.1 (nx t r o i w b).2.2.1 (nx t r o i w b).2.2.2 := by
      have ep : wrap64 (p + 1) = p + 1 := w64 (by omega) (by omega)
      have common : ∀ k, 3 ≤ k → signalboxlaw10_ConfPlays.l0 (k + 1) b n l l.length p t r o i t r o i =
          signalboxlaw10_ConfPlays.j1 k b n w o l l.length p (if (nx t r o i w b).2.2.1 = true then (if o = true then false else (w != 2)) else false) (nx t r o i w b).1 (nx t r o i w b).2.1 (nx t r o i w b).2.2.1 (nx t r o i w b).2.2.2 (nx t r o i w b).1 (nx t r o i w b).2.1 (nx t r o i w b).2.2.1 (nx t r o i w b).2.2.2 := by
        intro k hk
        simp only [signalboxlaw10_ConfPlays.l0, hw]
        rw [if_pos (by omega), if_pos hp0, if_pos (by omega), do_eq k (by omega) t r o i w b hr (by omega) hw0 hb, rdo_eq k (by omega) t r o i w b hr (by omega) hw0 hb]
        simp only [Option.bind_some, beq_self_eq_true, Bool.not_true, Bool.or_self, Bool.false_eq_true, if_false]
        rw [right_eq k (by omega), hrn]
        simp only [Option.bind_some, if_true]
        split
        · split <;> rfl
        · rfl
      cases o with
      | true =>
        have hn := h1 rfl
        subst hn
        have hq := (rgt_off t r n).mp hr
        by_cases a4 : w = 4
        · by_cases hge : n ≥ mx b 1 - 1
          · have e : nx t r true n w b = (0, 0, false, 0) := by unfold nx; rw [if_pos rfl, if_pos a4, if_pos hge]
            rw [e] at common ⊢
            refine ⟨0, by simp, by simp, by dsimp only; omega, fun k hk => ?_⟩
            rw [common k hk]
            obtain ⟨k, rfl⟩ : ∃ m, k = m + 1 + 1 + 1 := ⟨k - 3, by omega⟩
            have em : wrap64 (mx b 1 - 1) = mx b 1 - 1 := by unfold wrap64 mx; split <;> omega
            simp only [signalboxlaw10_ConfPlays.j1, signalboxlaw10_ConfPlays.j2, signalboxlaw10_ConfPlays.j3, Bool.false_eq_true, if_false, if_true, em]
            rw [if_pos a4, if_neg (by omega), if_neg (by decide), ep]
            rfl
          · have e : nx t r true n w b = (t, r, true, n + 1) := by unfold nx; rw [if_pos rfl, if_pos a4, if_neg hge]
            rw [e] at common ⊢
            refine ⟨n + 1, by simp, by simp, by dsimp only; omega, fun k hk => ?_⟩
            rw [common k hk]
            obtain ⟨k, rfl⟩ : ∃ m, k = m + 1 + 1 + 1 := ⟨k - 3, by omega⟩
            have e4 : (w == 4) = true := by simp [a4]
            simp only [signalboxlaw10_ConfPlays.j1, signalboxlaw10_ConfPlays.j2, signalboxlaw10_ConfPlays.j3, Bool.false_eq_true, if_false, if_true, e4]
            rw [ep, w64 (by omega) (by omega)]
            rfl
        · have e : nx t r true n w b = (t, r, true, n) := by unfold nx; rw [if_pos rfl, if_neg a4]
          rw [e] at common ⊢
          refine ⟨n, by simp, by simp, by dsimp only; omega, fun k hk => ?_⟩
          rw [common k hk]
          obtain ⟨k, rfl⟩ : ∃ m, k = m + 1 + 1 + 1 := ⟨k - 3, by omega⟩
          have e4 : (w == 4) = false := by simp [a4]
          simp only [signalboxlaw10_ConfPlays.j1, signalboxlaw10_ConfPlays.j2, signalboxlaw10_ConfPlays.j3, Bool.false_eq_true, if_false, if_true, e4]
          rw [ep]
          rfl
      | false =>
        have hn := h0 rfl
        subst hn
        have hq := (rgt_on t r i).mp hr
        have hi0 : i = 0 := hq.2.2.2.2
        subst hi0
        have e2 : (nx t r false 0 w b).2.2.2 = 0 := by
          unfold nx
          rw [if_neg (by decide)]
          (repeat' split) <;> rfl
        have e3 : (if (nx t r false 0 w b).2.2.1 = true then (if false = true then false else (w != 2)) else false) = false := by
          by_cases a2 : w = 2
          · simp [a2]
          · have : (nx t r false 0 w b).2.2.1 = false := by
              unfold nx
              rw [if_neg (by decide)]
              (repeat' split) <;> first | rfl | omega
            simp [this]
        rw [e3] at common
        refine ⟨0, fun _ => e2.symm, fun _ => rfl, by rw [e2]; omega, fun k hk => ?_⟩
        rw [common k hk]
        obtain ⟨k, rfl⟩ : ∃ m, k = m + 1 + 1 + 1 := ⟨k - 3, by omega⟩
        simp only [signalboxlaw10_ConfPlays.j1, signalboxlaw10_ConfPlays.j2, signalboxlaw10_ConfPlays.j3, Bool.false_eq_true, if_false, ep]
        cases h : (nx t r false 0 w b).2.2.1
        · rfl
        · rfl
    obtain ⟨n', g1, g0, gi, hstep⟩ := key
    obtain ⟨K, hK⟩ := ih n' (nx t r o i w b).1 (nx t r o i w b).2.1 (nx t r o i w b).2.2.1 (nx t r o i w b).2.2.2 (p + 1) (by omega) (by omega) (by omega) hrn gi g1 g0
    refine ⟨K + 4, fun k hk => ?_⟩
    obtain ⟨k, rfl⟩ : ∃ m, k = m + 1 := ⟨k - 1, by omega⟩
    show signalboxlaw10_ConfPlays.l0 (k + 1) b n l l.length p t r o i t r o i = some true
    rw [hstep k (by omega)]
    exact hK (k - 3) (by omega)

theorem ConfPlays : signalboxlaw10_ConfPlays.Pure := by
  intro l b _ _ _ hb
  refine Ev.rounds ?_
  unfold signalboxlaw10_ConfPlays.f
  by_cases h : (l.length : Int) > 400
  · simp only [if_pos h]
    exact Ev.bind alive_ev (Ev.now _)
  · simp only [if_neg h]
    exact play b (wf_i64 hb).2 l (by omega) l.length 0 0 0 false 0 0 (by omega) (by omega) (by omega) (by decide) (by omega) (by decide) (by decide)

end Go.Proofs.Ytpeegolmfopndaa.Pure
