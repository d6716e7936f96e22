/- ConfOrder: to have sent or heard makes no node's state worse, to have failed or missed none better. Conditions: none beyond the statement's own. -/
import Derived.Test.YtpeegolmfopndaaPConfOrderx2
namespace Go.Proofs.Ytpeegolmfopndaa.Pure
open Go.RowKit Go.Proofs.Ytpeegolmfopndaa.PConfOrder Go.Proofs.YtpeegolmfopndaaW.PrintWords Go.Proofs.YtpeegolmfopndaaW.PrintLast

def rgt (t r : Int) (o : Bool) (i : Int) : Bool :=
  decide (0 ≤ t ∧ t ≤ 263 ∧ 0 ≤ r ∧ r ≤ 135 ∧ 0 ≤ i) && (o == decide (t > 255)) && (o || decide (i = 0))

theorem right_eq (k : Nat) (hk : 1 ≤ k) (t r : Int) (o : Bool) (i : Int) : conf_Right.f k t r o i = some (rgt t r o i) := by
  obtain ⟨k, rfl⟩ : ∃ m, k = m + 1 := ⟨k - 1, by omega⟩
  simp only [conf_Right.f, conf_Right.j0, rgt]
  by_cases h1 : t < 0
  · simp [h1]; omega
  by_cases h2 : t > 263
  · simp [h1, h2]; omega
  by_cases h3 : r < 0
  · simp [h1, h2, h3]; omega
  by_cases h4 : r > 135
  · simp [h1, h2, h3, h4]; omega
  by_cases h5 : i < 0
  · simp [h1, h2, h3, h4, h5]; omega
  have a1 : 0 ≤ t := by omega
  have a2 : t ≤ 263 := by omega
  have a3 : 0 ≤ r := by omega
  have a4 : r ≤ 135 := by omega
  have a5 : 0 ≤ i := by omega
  simp only [h1, h2, h3, h4, h5, a1, a2, a3, a4, a5]
  by_cases h6 : t > 255 <;> cases o <;> simp [h6] <;> rfl

def stt (t r : Int) (o : Bool) (i : Int) : Int :=
  if rgt t r o i = true then (if o = true then 3 else if mx t r > 127 then 2 else if mx t r > 95 then 1 else 0) else -1

theorem state_eq (k : Nat) (hk : 1 ≤ k) (t r : Int) (o : Bool) (i : Int) : conf_State.f k t r o i = some (stt t r o i) := by
  simp only [conf_State.f, right_eq k hk, Option.bind_some, stt]
  split
  · split
    · rfl
    · split
      · rfl
      · split <;> rfl
  · rfl


theorem fixed_eq (k : Nat) (hk : 1 ≤ k) (t r : Int) (o : Bool) (i : Int) : conf_fixed.f k t r o i = some (!rgt t r o i || o) := by
  simp only [conf_fixed.f, right_eq k hk, Option.bind_some]
  cases rgt t r o i <;> simp

theorem failed_eq (k : Nat) (hk : 1 ≤ k) (t r : Int) (o : Bool) (i : Int) : conf_Failed.f k t r o i =
    some (if (!rgt t r o i || o) = true then (t, r, o, i) else (wrap64 (t + 8), r, decide (wrap64 (t + 8) > 255), i)) := by
  simp only [conf_Failed.f, fixed_eq k hk, Option.bind_some]
  split <;> rfl


theorem alive_ev : Ev (fun k => signalboxlaw10_alive.f k) true :=
  Ev.of signalboxlaw10_alive.mono (k := 60) (by decide +kernel)

theorem alive_k : ∃ K, ∀ k, K ≤ k → signalboxlaw10_alive.f k = some true := alive_ev

theorem sent_eq (k : Nat) (hk : 1 ≤ k) (t r : Int) (o : Bool) (i : Int) : conf_Sent.f k t r o i =
    some (if (!rgt t r o i || o) = true then (t, r, o, i) else (mx (wrap64 (t - 1)) 0, r, o, i)) := by
  simp only [conf_Sent.f, fixed_eq k hk, Option.bind_some]
  split <;> rfl

theorem heard_eq (k : Nat) (hk : 1 ≤ k) (t r : Int) (o : Bool) (i : Int) : conf_Heard.f k t r o i =
    some (if (!rgt t r o i || o) = true then (t, r, o, i) else if r > 127 then (t, 119, o, i) else (t, mx (wrap64 (r - 1)) 0, o, i)) := by
  simp only [conf_Heard.f, fixed_eq k hk, Option.bind_some]
  split
  · rfl
  · split <;> rfl

theorem missed_eq (k : Nat) (hk : 1 ≤ k) (t r : Int) (o : Bool) (i : Int) : conf_Missed.f k t r o i =
    some (if (!rgt t r o i || o) = true then (t, r, o, i) else if stt t r o i = 2 then (t, mn (wrap64 (r + 1)) 135, o, i) else (t, mn (wrap64 (r + 8)) 135, o, i)) := by
  simp only [conf_Missed.f, fixed_eq k hk, state_eq k hk, Option.bind_some]
  split
  · rfl
  · split <;> rfl

theorem rgt_on (t r i : Int) : rgt t r false i = true ↔ 0 ≤ t ∧ t ≤ 255 ∧ 0 ≤ r ∧ r ≤ 135 ∧ i = 0 := by
  unfold rgt
  simp
  omega

theorem stt_on (t r : Int) (h0 : 0 ≤ t) (h1 : t ≤ 255) (h2 : 0 ≤ r) (h3 : r ≤ 135) :
    stt t r false 0 = if t > 127 ∨ r > 127 then 2 else if t > 95 ∨ r > 95 then 1 else 0 := by
  have h : rgt t r false 0 = true := (rgt_on t r 0).mpr ⟨h0, h1, h2, h3, rfl⟩
  unfold stt mx
  rw [if_pos h, if_neg (by decide)]
  (repeat' split) <;> omega

theorem stt_off (t r : Int) (h0 : 256 ≤ t) (h1 : t ≤ 263) (h2 : 0 ≤ r) (h3 : r ≤ 135) : stt t r true 0 = 3 := by
  have h : rgt t r true 0 = true := by
    unfold rgt
    simp
    omega
  unfold stt
  rw [if_pos h, if_pos rfl]

theorem law_k (t r : Int) (o : Bool) (i : Int) (k : Nat) (hk : 1 ≤ k) (ha : signalboxlaw10_alive.f k = some true) : signalboxlaw10_ConfOrder.f k t r o i = some true := by
  simp only [signalboxlaw10_ConfOrder.f, state_eq k hk, sent_eq k hk, heard_eq k hk, failed_eq k hk, missed_eq k hk, Option.bind_some, ha]
  by_cases hf : (!rgt t r o i || o) = true
  · simp only [if_pos hf, Int.le_refl, if_true, ge_iff_le]
  · simp only [if_neg hf]
    have hr : rgt t r o i = true := by
      cases h : rgt t r o i
      · simp [h] at hf
      · rfl
    have ho : o = false := by
      cases o
      · rfl
      · simp at hf
    subst ho
    obtain ⟨h0, h1, h2, h3, rfl⟩ := (rgt_on t r i).mp hr
    have e1 : wrap64 (t - 1) = t - 1 := by unfold wrap64; omega
    have e2 : wrap64 (r - 1) = r - 1 := by unfold wrap64; omega
    have e3 : wrap64 (t + 8) = t + 8 := by unfold wrap64; omega
    have e4 : wrap64 (r + 1) = r + 1 := by unfold wrap64; omega
    have e5 : wrap64 (r + 8) = r + 8 := by unfold wrap64; omega
    have m1 : mx (t - 1) 0 = t - 1 ∧ 1 ≤ t ∨ mx (t - 1) 0 = 0 ∧ t = 0 := by unfold mx; split <;> omega
    have m2 : mx (r - 1) 0 = r - 1 ∧ 1 ≤ r ∨ mx (r - 1) 0 = 0 ∧ r = 0 := by unfold mx; split <;> omega
    have m3 : mn (r + 1) 135 = r + 1 ∧ r + 1 ≤ 135 ∨ mn (r + 1) 135 = 135 ∧ r = 135 := by unfold mn; split <;> omega
    have m4 : mn (r + 8) 135 = r + 8 ∧ r + 8 ≤ 135 ∨ mn (r + 8) 135 = 135 ∧ 127 < r := by unfold mn; split <;> omega
    rw [e1, e2, e3, e4, e5]
    have c0 := stt_on t r h0 h1 h2 h3
    have s1 : stt (mx (t - 1) 0) r false 0 ≤ stt t r false 0 := by
      rw [c0, stt_on (mx (t - 1) 0) r (by omega) (by omega) h2 h3]
      split <;> split <;> (try split) <;> (try split) <;> omega
    rw [if_pos s1]
    have s2 : (if r > 127 then (t, (119 : Int), false, (0 : Int)) else (t, mx (r - 1) 0, false, 0)) = (t, (if r > 127 then 119 else mx (r - 1) 0), false, 0) := by split <;> rfl
    rw [s2]
    have s3 : stt t (if r > 127 then 119 else mx (r - 1) 0) false 0 ≤ stt t r false 0 := by
      have g : 0 ≤ (if r > 127 then 119 else mx (r - 1) 0) ∧ (if r > 127 then 119 else mx (r - 1) 0) ≤ 135 ∧ (if r > 127 then 119 else mx (r - 1) 0) ≤ r := by split <;> omega
      generalize (if r > 127 then 119 else mx (r - 1) 0) = q at g
      rw [c0, stt_on t q h0 h1 g.1 g.2.1]
      split <;> split <;> (try split) <;> (try split) <;> omega
    rw [if_pos s3]
    have s4 : stt (t + 8) r (decide (t + 8 > 255)) 0 ≥ stt t r false 0 := by
      by_cases h : t + 8 > 255
      · simp only [h, decide_true]
        rw [stt_off (t + 8) r (by omega) (by omega) h2 h3, c0]
        split <;> (try split) <;> omega
      · simp only [h, decide_false]
        rw [c0, stt_on (t + 8) r (by omega) (by omega) h2 h3]
        split <;> split <;> (try split) <;> (try split) <;> omega
    rw [if_pos s4]
    by_cases h2' : stt t r false 0 = 2
    · simp only [if_pos h2']
      have s5 : stt t (mn (r + 1) 135) false 0 ≥ stt t r false 0 := by
        rw [c0, stt_on t (mn (r + 1) 135) h0 h1 (by omega) (by omega)]
        split <;> split <;> (try split) <;> (try split) <;> omega
      rw [if_pos s5]
    · simp only [if_neg h2']
      have s5 : stt t (mn (r + 8) 135) false 0 ≥ stt t r false 0 := by
        rw [c0, stt_on t (mn (r + 8) 135) h0 h1 (by omega) (by omega)]
        split <;> split <;> (try split) <;> (try split) <;> omega
      rw [if_pos s5]

theorem ConfOrder : signalboxlaw10_ConfOrder.Pure := by
  intro t r o i _ _ _
  obtain ⟨K, hK⟩ := alive_k
  exact ⟨K + 1, law_k t r o i (K + 1) (by omega) (hK _ (by omega))⟩

end Go.Proofs.Ytpeegolmfopndaa.Pure
