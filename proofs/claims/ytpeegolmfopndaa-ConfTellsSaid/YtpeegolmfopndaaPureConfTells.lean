/- ConfTells: whether what is known of a node may be, its state, and a state's word, is as the document says. Conditions: none beyond the statement's own. -/
import Derived.Test.YtpeegolmfopndaaPConfTellsx3
namespace Go.Proofs.Ytpeegolmfopndaa.Pure
open Go.RowKit Go.Proofs.Ytpeegolmfopndaa.PConfTells Go.Proofs.YtpeegolmfopndaaW.PrintWords Go.Proofs.YtpeegolmfopndaaW.PrintLast

def rgt (t r : Int) (o : Bool) (i : Int) : Bool :=
  decide (0 ≤ t ∧ t ≤ 263 ∧ 0 ≤ r ∧ r ≤ 135 ∧ 0 ≤ i) && (o == decide (t > 255)) && (o || decide (i = 0))

theorem right_eq (k : Nat) (hk : 1 ≤ k) (t r : Int) (o : Bool) (i : Int) : conf_Right.f k t r o i = some (rgt t r o i) := by
  obtain ⟨k, rfl⟩ : ∃ m, k = m + 1 := ⟨k - 1, by omega⟩
  simp only [conf_Right.f, conf_Right.j0, rgt]
  by_cases h1 : t < 0
  · simp [h1]; omega
  by_cases h2 : t > 263
  · simp [h1, h2]; omega
  by_cases h3 : r < 0
  · simp [h1, h2, h3]; omega
  by_cases h4 : r > 135
  · simp [h1, h2, h3, h4]; omega
  by_cases h5 : i < 0
  · simp [h1, h2, h3, h4, h5]; omega
  have a1 : 0 ≤ t := by omega
  have a2 : t ≤ 263 := by omega
  have a3 : 0 ≤ r := by omega
  have a4 : r ≤ 135 := by omega
  have a5 : 0 ≤ i := by omega
  simp only [h1, h2, h3, h4, h5, a1, a2, a3, a4, a5]
  by_cases h6 : t > 255 <;> cases o <;> simp [h6] <;> rfl

def stt (t r : Int) (o : Bool) (i : Int) : Int :=
  if rgt t r o i = true then (if o = true then 3 else if mx t r > 127 then 2 else if mx t r > 95 then 1 else 0) else -1

theorem state_eq (k : Nat) (hk : 1 ≤ k) (t r : Int) (o : Bool) (i : Int) : conf_State.f k t r o i = some (stt t r o i) := by
  simp only [conf_State.f, right_eq k hk, Option.bind_some, stt]
  split
  · split
    · rfl
    · split
      · rfl
      · split <;> rfl
  · rfl


theorem rright_eq (k : Nat) (hk : 1 ≤ k) (t r : Int) (o : Bool) (i : Int) : signalboxref10_Right.f k t r o i = some (rgt t r o i) := by
  obtain ⟨k, rfl⟩ : ∃ m, k = m + 1 := ⟨k - 1, by omega⟩
  simp only [signalboxref10_Right.f, signalboxref10_Right.j0, rgt]
  by_cases h1 : t < 0
  · simp [h1]; omega
  by_cases h2 : t > 263
  · simp [h1, h2]; omega
  by_cases h3 : r < 0
  · simp [h1, h2, h3]; omega
  by_cases h4 : r > 135
  · simp [h1, h2, h3, h4]; omega
  by_cases h5 : i < 0
  · simp [h1, h2, h3, h4, h5]; omega
  have a1 : 0 ≤ t := by omega
  have a2 : t ≤ 263 := by omega
  have a3 : 0 ≤ r := by omega
  have a4 : r ≤ 135 := by omega
  have a5 : 0 ≤ i := by omega
  simp only [h1, h2, h3, h4, h5, a1, a2, a3, a4, a5]
  by_cases h6 : t > 255
  · have h7 : ¬ t ≤ 255 := by omega
    cases o <;> simp [h6, h7]
  · have h7 : t ≤ 255 := by omega
    cases o <;> simp [h6, h7] <;> rfl

theorem rstate_eq (k : Nat) (hk : 1 ≤ k) (t r : Int) (o : Bool) (i : Int) : signalboxref10_State.f k t r o i = some (stt t r o i) := by
  obtain ⟨k, rfl⟩ : ∃ m, k = m + 1 := ⟨k - 1, by omega⟩
  simp only [signalboxref10_State.f, signalboxref10_State.j0, rright_eq (k + 1) hk, Option.bind_some, stt]
  cases rgt t r o i
  · simp
  · cases o
    · simp only [mx]
      by_cases h1 : t > 127
      · simp [h1]; split <;> omega
      · by_cases h2 : r > 127
        · simp [h1, h2]; split <;> omega
        · by_cases h3 : t > 95
          · simp [h1, h2, h3]; split <;> simp <;> omega
          · by_cases h4 : r > 95
            · simp [h1, h2, h3, h4]; split <;> simp <;> omega
            · simp [h1, h2, h3, h4]; split <;> simp <;> omega
    · simp

theorem alive_ev : Ev (fun k => signalboxlaw10_alive.f k) true :=
  Ev.of signalboxlaw10_alive.mono (k := 60) (by decide +kernel)

theorem alive_k : ∃ K, ∀ k, K ≤ k → signalboxlaw10_alive.f k = some true := alive_ev

def wrd (n : Int) : ByteArray := if n = 0 then ⟨#[97, 99, 116, 105, 118, 101]⟩ else if n = 1 then ⟨#[119, 97, 114, 110, 101, 100]⟩ else if n = 2 then ⟨#[112, 97, 115, 115, 105, 118, 101]⟩ else if n = 3 then ⟨#[111, 102, 102]⟩ else ⟨#[]⟩

theorem j1_ok (n t r : Int) (o : Bool) (i : Int) : Ev (fun k => signalboxlaw10_ConfTells.j1 k n (wrd n) t r o i) true := by
  obtain ⟨K, hK⟩ := alive_k
  refine ⟨K + 2, fun k hk => ?_⟩
  obtain ⟨k, rfl⟩ : ∃ m, k = m + 1 := ⟨k - 1, by omega⟩
  simp only [signalboxlaw10_ConfTells.j1, right_eq k (by omega), rright_eq k (by omega), state_eq k (by omega), rstate_eq k (by omega), Option.bind_some, conf_Word.f, wrd]
  simp only [beq_self_eq_true, if_true]
  rw [hK k (by omega)]
  rfl

theorem ConfTells : signalboxlaw10_ConfTells.Pure := by
  intro t r o i n _ _ _ _
  refine Ev.rounds ?_
  obtain ⟨K, hK⟩ := j1_ok n t r o i
  refine ⟨K + 2, fun k hk => ?_⟩
  obtain ⟨k, rfl⟩ : ∃ m, k = m + 1 := ⟨k - 1, by omega⟩
  have h := hK k (by omega)
  simp only [signalboxlaw10_ConfTells.f, signalboxlaw10_ConfTells.j0]
  by_cases h0 : n ≥ 0
  · by_cases h4 : n < 4
    · have hc : n = 0 ∨ n = 1 ∨ n = 2 ∨ n = 3 := by omega
      rcases hc with rfl | rfl | rfl | rfl <;> exact h
    · have e : wrd n = ⟨#[]⟩ := by
        unfold wrd
        rw [if_neg (by omega), if_neg (by omega), if_neg (by omega), if_neg (by omega)]
      rw [e] at h
      simp only [if_pos h0, h4, decide_false]
      exact h
  · have e : wrd n = ⟨#[]⟩ := by
      unfold wrd
      rw [if_neg (by omega), if_neg (by omega), if_neg (by omega), if_neg (by omega)]
    rw [e] at h
    simp only [if_neg h0]
    exact h

end Go.Proofs.Ytpeegolmfopndaa.Pure
