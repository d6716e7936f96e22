/- ErrsTurns: which classes tell what has changed of a node is as the document says; what has not changed tells nothing. Conditions: none beyond the statement's own. -/
import Derived.Test.YtnllfhogpjageaaPErrsTurnsx7
namespace Go.Proofs.Ytnllfhogpjageaa.Pure
open Go.RowKit Go.Proofs.Ytnllfhogpjageaa.PErrsTurns Go.Proofs.YtnllfhogpjageaaW.PrintWords Go.Proofs.YtnllfhogpjageaaW.PrintLast
set_option linter.unusedVariables false
set_option linter.unusedSimpArgs false

theorem wf_i64 {n : Int} (h : (Lit.int .i64 n).wf = true) : -9223372036854775808 ≤ n ∧ n ≤ 9223372036854775807 := by
  simp only [Lit.wf, Bool.and_eq_true, decide_eq_true_eq] at h
  exact h
theorem wf_u32 {n : Int} (h : (Lit.int .u32 n).wf = true) : 0 ≤ n ∧ n ≤ 4294967295 := by
  simp only [Lit.wf, Bool.and_eq_true, decide_eq_true_eq] at h
  exact h
theorem wf_i32 {n : Int} (h : (Lit.int .i32 n).wf = true) : -2147483648 ≤ n ∧ n ≤ 2147483647 := by
  simp only [Lit.wf, Bool.and_eq_true, decide_eq_true_eq] at h
  exact h
theorem w64 {n : Int} (h0 : -9223372036854775808 ≤ n) (h1 : n ≤ 9223372036854775807) : wrap64 n = n := by unfold wrap64; omega

/-- 'Option.bind_some' as an equation that simp carries along (not by 'rfl': else the kernel unfolds what is bound). -/
theorem ob {α β : Type} (a : α) (f : α → Option β) : (some a).bind f = f a := by
  have h : (some a).bind f = f a := rfl
  exact h.symm.symm

theorem up1 (j : Nat) (h : j < 1000000000) : wrap64 ((j : Int) + 1) = ((j + 1 : Nat) : Int) := by rw [w64 (by omega) (by omega)]; omega

def rgt (t r : Int) (o : Bool) (i : Int) : Bool :=
  decide (0 ≤ t ∧ t ≤ 263 ∧ 0 ≤ r ∧ r ≤ 135 ∧ 0 ≤ i) && (o == decide (t > 255)) && (o || decide (i = 0))

theorem right_eq (k : Nat) (hk : 1 ≤ k) (t r : Int) (o : Bool) (i : Int) : conf_Right.f k t r o i = some (rgt t r o i) := by
  obtain ⟨k, rfl⟩ : ∃ m, k = m + 1 := ⟨k - 1, by omega⟩
  simp only [conf_Right.f, conf_Right.j0, rgt]
  by_cases h1 : t < 0
  · simp [h1]; omega
  by_cases h2 : t > 263
  · simp [h1, h2]; omega
  by_cases h3 : r < 0
  · simp [h1, h2, h3]; omega
  by_cases h4 : r > 135
  · simp [h1, h2, h3, h4]; omega
  by_cases h5 : i < 0
  · simp [h1, h2, h3, h4, h5]; omega
  have a1 : 0 ≤ t := by omega
  have a2 : t ≤ 263 := by omega
  have a3 : 0 ≤ r := by omega
  have a4 : r ≤ 135 := by omega
  have a5 : 0 ≤ i := by omega
  simp only [h1, h2, h3, h4, h5, a1, a2, a3, a4, a5]
  by_cases h6 : t > 255 <;> cases o <;> simp [h6] <;> rfl

def stt (t r : Int) (o : Bool) (i : Int) : Int :=
  if rgt t r o i = true then (if o = true then 3 else if mx t r > 127 then 2 else if mx t r > 95 then 1 else 0) else -1

theorem state_eq (k : Nat) (hk : 1 ≤ k) (t r : Int) (o : Bool) (i : Int) : conf_State.f k t r o i = some (stt t r o i) := by
  simp only [conf_State.f, right_eq k hk, Option.bind_some, stt]
  split
  · split
    · rfl
    · split
      · rfl
      · split <;> rfl
  · rfl


theorem rright_eq (k : Nat) (hk : 1 ≤ k) (t r : Int) (o : Bool) (i : Int) : signalboxref10_Right.f k t r o i = some (rgt t r o i) := by
  obtain ⟨k, rfl⟩ : ∃ m, k = m + 1 := ⟨k - 1, by omega⟩
  simp only [signalboxref10_Right.f, signalboxref10_Right.j0, rgt]
  by_cases h1 : t < 0
  · simp [h1]; omega
  by_cases h2 : t > 263
  · simp [h1, h2]; omega
  by_cases h3 : r < 0
  · simp [h1, h2, h3]; omega
  by_cases h4 : r > 135
  · simp [h1, h2, h3, h4]; omega
  by_cases h5 : i < 0
  · simp [h1, h2, h3, h4, h5]; omega
  have a1 : 0 ≤ t := by omega
  have a2 : t ≤ 263 := by omega
  have a3 : 0 ≤ r := by omega
  have a4 : r ≤ 135 := by omega
  have a5 : 0 ≤ i := by omega
  simp only [h1, h2, h3, h4, h5, a1, a2, a3, a4, a5]
  by_cases h6 : t > 255
  · have h7 : ¬ t ≤ 255 := by omega
    cases o <;> simp [h6, h7]
  · have h7 : t ≤ 255 := by omega
    cases o <;> simp [h6, h7] <;> rfl

theorem rstate_eq (k : Nat) (hk : 1 ≤ k) (t r : Int) (o : Bool) (i : Int) : signalboxref10_State.f k t r o i = some (stt t r o i) := by
  obtain ⟨k, rfl⟩ : ∃ m, k = m + 1 := ⟨k - 1, by omega⟩
  simp only [signalboxref10_State.f, signalboxref10_State.j0, rright_eq (k + 1) hk, Option.bind_some, stt]
  cases rgt t r o i
  · simp
  · cases o
    · simp only [mx]
      by_cases h1 : t > 127
      · simp [h1]; split <;> omega
      · by_cases h2 : r > 127
        · simp [h1, h2]; split <;> omega
        · by_cases h3 : t > 95
          · simp [h1, h2, h3]; split <;> simp <;> omega
          · by_cases h4 : r > 95
            · simp [h1, h2, h3, h4]; split <;> simp <;> omega
            · simp [h1, h2, h3, h4]; split <;> simp <;> omega
    · simp

theorem stt_range (t r : Int) (o : Bool) (i : Int) : -1 ≤ stt t r o i ∧ stt t r o i ≤ 3 ∧ (0 ≤ stt t r o i → (stt t r o i = 3 ↔ o = true)) := by
  unfold stt
  cases rgt t r o i
  · simp
  · cases o
    · simp only [if_true, Bool.false_eq_true, if_false, iff_false]
      split
      · omega
      · split <;> omega
    · simp
/-- What is told of a change of state. -/
def tw (a b : Int) : List Int := if a < 0 then [] else if b < 0 then [] else if a = b then [] else if a = 3 then [6] else if b = 3 then [5] else if b = 0 then [4] else if b = 1 then [2] else [3]
theorem turned_eq (k : Nat) (hk : 1 ≤ k) (t r : Int) (o : Bool) (i t' r' : Int) (o' : Bool) (i' : Int) : errs_Turned.f k t r o i t' r' o' i' = some (tw (stt t r o i) (stt t' r' o' i')) := by
  obtain ⟨a1, a2, a3⟩ := stt_range t r o i
  obtain ⟨b1, b2, b3⟩ := stt_range t' r' o' i'
  simp only [errs_Turned.f, state_eq k hk, ob, tw]
  generalize stt t r o i = a at *
  generalize stt t' r' o' i' = b at *
  by_cases h1 : a < 0
  · rw [if_pos h1, if_pos h1]
  rw [if_neg h1, if_neg h1]
  by_cases h2 : b < 0
  · rw [if_pos h2, if_pos h2]
  rw [if_neg h2, if_neg h2]
  by_cases h3 : a = b
  · rw [if_pos h3, if_pos h3]
  rw [if_neg h3, if_neg h3]
  have a4 := a3 (by omega)
  have b4 := b3 (by omega)
  by_cases h4 : a = 3
  · rw [if_pos (a4.mp h4), if_pos h4]
  rw [if_neg (fun h => h4 (a4.mpr h)), if_neg h4]
  by_cases h5 : b = 3
  · rw [if_pos (b4.mp h5), if_pos h5]
  rw [if_neg (fun h => h5 (b4.mpr h)), if_neg h5]
  by_cases h6 : b = 0
  · rw [if_pos h6, if_pos h6]
  rw [if_neg h6, if_neg h6]
  by_cases h7 : b = 1
  · rw [if_pos h7, if_pos h7]
  rw [if_neg h7, if_neg h7, if_pos (by omega)]

theorem ints_l0 (x : List Int) (hl : x.length ≤ 100000) (d : Nat) : ∀ (k j : Nat), j + d = x.length → d + 1 ≤ k → signalboxref09_Ints.l0 k x x j = some true := by
  induction d with
  | zero =>
    intro k j hj hk
    obtain ⟨k, rfl⟩ : ∃ m, k = m + 1 := ⟨k - 1, by omega⟩
    obtain rfl : j = x.length := by omega
    have hlt : ¬ (x.length : Int) < (x.length : Int) := Int.lt_irrefl _
    simp only [signalboxref09_Ints.l0, if_neg hlt]
  | succ d ih =>
    intro k j hj hk
    obtain ⟨k, rfl⟩ : ∃ m, k = m + 1 := ⟨k - 1, by omega⟩
    have c1 : (j : Int) < (x.length : Int) := by omega
    have c2 : 0 ≤ (j : Int) := by omega
    simp only [signalboxref09_Ints.l0, if_pos c1, if_pos c2, if_true, up1 j (by omega)]
    exact ih k (j + 1) (by omega) (by omega)
theorem ints_same (x : List Int) (hl : x.length ≤ 100000) (k : Nat) (hk : x.length + 1 ≤ k) : signalboxref09_Ints.f k x x = some true := by
  unfold signalboxref09_Ints.f
  rw [if_pos rfl]
  exact ints_l0 x hl x.length k 0 (by omega) hk

theorem alive_k : ∃ K, ∀ k, K ≤ k → signalboxlaw19_alive.f k = some true :=
  Ev.of signalboxlaw19_alive.mono (k := 40) (by decide +kernel)

theorem rturned_eq (k : Nat) (hk : 2 ≤ k) (t r : Int) (o : Bool) (i t' r' : Int) (o' : Bool) (i' : Int) : signalboxref19_Turned.f k t r o i t' r' o' i' = some (tw (stt t r o i) (stt t' r' o' i')) := by
  obtain ⟨a1, a2, a3⟩ := stt_range t r o i
  obtain ⟨b1, b2, b3⟩ := stt_range t' r' o' i'
  obtain ⟨k, rfl⟩ : ∃ m, k = m + 1 := ⟨k - 1, by omega⟩
  simp only [signalboxref19_Turned.f, rstate_eq (k + 1) (by omega), ob, tw]
  generalize stt t r o i = a at *
  generalize stt t' r' o' i' = b at *
  have ht : signalboxref19_Turned.j0 (k + 1) ([] : List Int) a b true = some [] := rfl
  by_cases h1 : a < 0
  · rw [if_pos h1, if_pos h1, ht]
  rw [if_neg h1, if_neg h1]
  by_cases h2 : b < 0
  · rw [if_pos h2, if_pos h2, ht]
  rw [if_neg h2, if_neg h2]
  by_cases h3 : a = b
  · rw [if_pos h3, beq_iff_eq.mpr h3, ht]
  have hb : (a == b) = false := by rw [beq_eq_false_iff_ne]; exact h3
  rw [if_neg h3, hb]
  have hz : ([] : List Int).length < 17592186044416 := by decide
  simp only [signalboxref19_Turned.j0, Bool.false_eq_true, if_false, ob, if_pos hz, List.nil_append]
  by_cases h4 : a = 3
  · rw [if_pos h4, if_pos h4]
  rw [if_neg h4, if_neg h4, if_pos (by omega)]
  have hc : b = 0 ∨ b = 1 ∨ b = 2 ∨ b = 3 := by omega
  rcases hc with rfl | rfl | rfl | rfl <;> rfl
theorem ErrsTurns : signalboxlaw19_ErrsTurns.Pure := by
  intro t r o i t' r' o' i' _ _ _ _ _ _
  obtain ⟨K, hal⟩ := alive_k
  obtain ⟨M, hM⟩ : ∃ M, M = K + 100 := ⟨_, rfl⟩
  refine ⟨M, ?_⟩
  have hlen : (tw (stt t r o i) (stt t' r' o' i')).length ≤ 1 := by unfold tw; (repeat' split) <;> simp
  have hsame : tw (stt t r o i) (stt t r o i) = [] := by unfold tw; (repeat' split) <;> first | rfl | omega
  simp only [signalboxlaw19_ErrsTurns.f, turned_eq M (by omega), rturned_eq M (by omega), ob, ints_same _ (show (tw (stt t r o i) (stt t' r' o' i')).length ≤ 100000 by omega) M (by omega), if_true, hsame]
  rw [if_pos (show (([] : List Int).length : Int) = 0 from rfl), hal M (by omega), ob]

end Go.Proofs.Ytnllfhogpjageaa.Pure
