/- ConfOff: failing again and again a node is passive from 16 failures on and off from 32 on; it comes back behind as many idle slots as asked. Conditions: none beyond the statement's. -/
import Derived.Test.YtpeegolmfopndaaPConfOffx4
namespace Go.Proofs.Ytpeegolmfopndaa.Pure
open Go.RowKit Go.Proofs.Ytpeegolmfopndaa.PConfOff Go.Proofs.YtpeegolmfopndaaW.PrintWords Go.Proofs.YtpeegolmfopndaaW.PrintLast

def rgt (t r : Int) (o : Bool) (i : Int) : Bool :=
  decide (0 ≤ t ∧ t ≤ 263 ∧ 0 ≤ r ∧ r ≤ 135 ∧ 0 ≤ i) && (o == decide (t > 255)) && (o || decide (i = 0))

theorem right_eq (k : Nat) (hk : 1 ≤ k) (t r : Int) (o : Bool) (i : Int) : conf_Right.f k t r o i = some (rgt t r o i) := by
  obtain ⟨k, rfl⟩ : ∃ m, k = m + 1 := ⟨k - 1, by omega⟩
  simp only [conf_Right.f, conf_Right.j0, rgt]
  by_cases h1 : t < 0
  · simp [h1]; omega
  by_cases h2 : t > 263
  · simp [h1, h2]; omega
  by_cases h3 : r < 0
  · simp [h1, h2, h3]; omega
  by_cases h4 : r > 135
  · simp [h1, h2, h3, h4]; omega
  by_cases h5 : i < 0
  · simp [h1, h2, h3, h4, h5]; omega
  have a1 : 0 ≤ t := by omega
  have a2 : t ≤ 263 := by omega
  have a3 : 0 ≤ r := by omega
  have a4 : r ≤ 135 := by omega
  have a5 : 0 ≤ i := by omega
  simp only [h1, h2, h3, h4, h5, a1, a2, a3, a4, a5]
  by_cases h6 : t > 255 <;> cases o <;> simp [h6] <;> rfl

def stt (t r : Int) (o : Bool) (i : Int) : Int :=
  if rgt t r o i = true then (if o = true then 3 else if mx t r > 127 then 2 else if mx t r > 95 then 1 else 0) else -1

theorem state_eq (k : Nat) (hk : 1 ≤ k) (t r : Int) (o : Bool) (i : Int) : conf_State.f k t r o i = some (stt t r o i) := by
  simp only [conf_State.f, right_eq k hk, Option.bind_some, stt]
  split
  · split
    · rfl
    · split
      · rfl
      · split <;> rfl
  · rfl

theorem fixed_eq (k : Nat) (hk : 1 ≤ k) (t r : Int) (o : Bool) (i : Int) : conf_fixed.f k t r o i = some (!rgt t r o i || o) := by
  simp only [conf_fixed.f, right_eq k hk, Option.bind_some]
  cases rgt t r o i <;> simp

theorem failed_eq (k : Nat) (hk : 1 ≤ k) (t r : Int) (o : Bool) (i : Int) : conf_Failed.f k t r o i =
    some (if (!rgt t r o i || o) = true then (t, r, o, i) else (wrap64 (t + 8), r, decide (wrap64 (t + 8) > 255), i)) := by
  simp only [conf_Failed.f, fixed_eq k hk, Option.bind_some]
  split <;> rfl

theorem idle_eq (k : Nat) (hk : 1 ≤ k) (t r : Int) (o : Bool) (i b : Int) : conf_Idle.f k t r o i b =
    some (if (!rgt t r o i || !o) = true then (t, r, o, i) else if i ≥ wrap64 (mx b 1 - 1) then (0, 0, false, 0) else (t, r, o, wrap64 (i + 1))) := by
  obtain ⟨k, rfl⟩ : ∃ m, k = m + 1 := ⟨k - 1, by omega⟩
  simp only [conf_Idle.f, conf_Idle.j0, right_eq (k + 1) hk, Option.bind_some]
  cases rgt t r o i <;> cases o <;> simp
  split <;> rfl

theorem alive_ev : Ev (fun k => signalboxlaw10_alive.f k) true :=
  Ev.of signalboxlaw10_alive.mono (k := 60) (by decide +kernel)
def fs (m : Int) : Int × Int × Bool × Int := if m < 32 then (8 * m, 0, false, 0) else (256, 0, true, 0)

theorem failed_fs (k : Nat) (hk : 1 ≤ k) (m : Int) (h0 : 0 ≤ m) :
    conf_Failed.f k (fs m).1 (fs m).2.1 (fs m).2.2.1 (fs m).2.2.2 = some (fs (m + 1)) := by
  rw [failed_eq k hk]
  unfold fs rgt
  by_cases h : m < 32
  · have a : 8 * m ≤ 263 := by omega
    have b : 0 ≤ 8 * m := by omega
    have c : ¬ (8 * m > 255) := by omega
    by_cases h' : m + 1 < 32
    · have d : ¬ (wrap64 (8 * m + 8) > 255) := by unfold wrap64; omega
      have e : wrap64 (8 * m + 8) = 8 * (m + 1) := by unfold wrap64; omega
      simp only [if_pos h, if_pos h', a, b, c]
      simp
      rw [e] at d ⊢
      exact ⟨by omega, by omega⟩
    · have e : m = 31 := by omega
      subst e
      simp [wrap64]
  · have h' : ¬ (m + 1 < 32) := by omega
    simp [h, h']

theorem l1_on (n b : Int) (hn : n < 32) (h0 : 0 ≤ n) (hb : b ≤ 60) (d : Nat) : ∀ i : Int, 1 ≤ i → i ≤ b + 1 → (b + 1 - i = d) →
    Ev (fun k => signalboxlaw10_ConfOff.l1 k n b i (8 * n) 0 false 0) true := by
  induction d with
  | zero =>
    intro i h1 h2 hd
    refine Ev.step (f := fun k => (signalboxlaw10_alive.f k).bind fun t137 => (some t137)) (fun k => ?_) (Ev.bind alive_ev (Ev.now _))
    simp only [signalboxlaw10_ConfOff.l1]
    rw [if_neg (by omega), if_pos hn]
  | succ d ih =>
    intro i h1 h2 hd
    obtain ⟨K, hK⟩ := ih (i + 1) (by omega) (by omega) (by omega)
    refine ⟨K + 2, fun k hk => ?_⟩
    obtain ⟨k, rfl⟩ : ∃ m, k = m + 1 := ⟨k - 1, by omega⟩
    simp only [signalboxlaw10_ConfOff.l1]
    rw [if_pos (by omega), idle_eq k (by omega)]
    simp only [Option.bind_some, Bool.not_false, Bool.or_true, if_true]
    rw [if_neg (by omega), if_neg (by decide), show wrap64 (i + 1) = i + 1 by unfold wrap64; omega]
    exact hK k (by omega)

theorem l1_end (n b : Int) (hn : 32 ≤ n) (i : Int) (hi : b < i) :
    Ev (fun k => signalboxlaw10_ConfOff.l1 k n b i 0 0 false 0) true := by
  refine Ev.step (f := fun k => (signalboxlaw10_alive.f k).bind fun t137 => (some t137)) (fun k => ?_) (Ev.bind alive_ev (Ev.now _))
  simp only [signalboxlaw10_ConfOff.l1]
  rw [if_neg (by omega), if_neg (by omega), if_pos (by decide)]

theorem l1_off (n b : Int) (hn : 32 ≤ n) (hb1 : 1 ≤ b) (hb : b ≤ 60) (d : Nat) : ∀ i : Int, 1 ≤ i → i ≤ b → (b - i = d) →
    Ev (fun k => signalboxlaw10_ConfOff.l1 k n b i 256 0 true (i - 1)) true := by
  induction d with
  | zero =>
    intro i h1 h2 hd
    obtain rfl : i = b := by omega
    obtain ⟨K, hK⟩ := l1_end n i hn (i + 1) (by omega)
    refine ⟨K + 2, fun k hk => ?_⟩
    obtain ⟨k, rfl⟩ : ∃ m, k = m + 1 := ⟨k - 1, by omega⟩
    simp only [signalboxlaw10_ConfOff.l1]
    have hr : rgt 256 0 true (i - 1) = true := by simp [rgt]; omega
    have hm : wrap64 (mx i 1 - 1) = i - 1 := by unfold wrap64 mx; split <;> omega
    have hI : conf_Idle.f k 256 0 true (i - 1) i = some (0, 0, false, 0) := by
      rw [idle_eq k (by omega), hr, hm, if_neg (by decide), if_pos (by omega)]
    rw [if_pos (by omega), hI]
    simp only [Option.bind_some]
    rw [if_pos (by omega)]
    simp only [Int.lt_irrefl, decide_false]
    rw [if_neg (by decide), show wrap64 (i + 1) = i + 1 by unfold wrap64; omega]
    exact hK k (by omega)
  | succ d ih =>
    intro i h1 h2 hd
    obtain ⟨K, hK⟩ := ih (i + 1) (by omega) (by omega) (by omega)
    refine ⟨K + 2, fun k hk => ?_⟩
    obtain ⟨k, rfl⟩ : ∃ m, k = m + 1 := ⟨k - 1, by omega⟩
    simp only [signalboxlaw10_ConfOff.l1]
    have hr : rgt 256 0 true (i - 1) = true := by simp [rgt]; omega
    have hm : wrap64 (mx b 1 - 1) = b - 1 := by unfold wrap64 mx; split <;> omega
    have hI : conf_Idle.f k 256 0 true (i - 1) b = some (256, 0, true, i + 1 - 1) := by
      rw [idle_eq k (by omega), hr, hm, if_neg (by decide), if_neg (by omega), show wrap64 (i - 1 + 1) = i + 1 - 1 by unfold wrap64; omega]
    have hlt : i < b := by omega
    rw [if_pos (by omega), hI]
    simp only [Option.bind_some]
    rw [if_pos (by omega)]
    simp only [hlt, decide_true]
    rw [if_neg (by decide), show wrap64 (i + 1) = i + 1 by unfold wrap64; omega]
    exact hK k (by omega)

theorem state_fs (n : Int) (h0 : 0 ≤ n) : decide (stt (fs n).1 (fs n).2.1 (fs n).2.2.1 (fs n).2.2.2 ≥ 2) = decide (n ≥ 16) := by
  unfold fs
  by_cases h : n < 32
  · have hr : rgt (8 * n) 0 false 0 = true := by simp [rgt]; omega
    simp only [if_pos h, stt, hr, mx]
    by_cases h16 : n ≥ 16
    · simp [h16]
      rw [if_pos (by split <;> omega)]; decide
    · simp [h16]
      rw [if_neg (by split <;> omega)]; split <;> omega
  · simp only [if_neg h]
    rw [show stt 256 0 true 0 = 3 by decide]
    simp; omega

theorem l0_ok (n b : Int) (h0 : 0 ≤ n) (hn : n ≤ 60) (hb1 : 1 ≤ b) (hb : b ≤ 60) (d : Nat) : ∀ m : Int, 0 ≤ m → m ≤ n → n - m = d →
    Ev (fun k => signalboxlaw10_ConfOff.l0 k n b n m (fs m).1 (fs m).2.1 (fs m).2.2.1 (fs m).2.2.2) true := by
  induction d with
  | zero =>
    intro m hm0 hm hd
    obtain rfl : m = n := by omega
    have key : Ev (fun k => signalboxlaw10_ConfOff.l1 k m b 1 (fs m).1 (fs m).2.1 (fs m).2.2.1 (fs m).2.2.2) true := by
      unfold fs
      by_cases h : m < 32
      · simp only [if_pos h]
        exact l1_on m b h h0 hb (b + 1 - 1).toNat 1 (by omega) (by omega) (by omega)
      · simp only [if_neg h]
        exact l1_off m b (by omega) hb1 hb (b - 1).toNat 1 (by omega) (by omega) (by omega)
    obtain ⟨K, hK⟩ := key
    refine ⟨K + 3, fun k hk => ?_⟩
    obtain ⟨k, rfl⟩ : ∃ m, k = m + 1 + 1 := ⟨k - 2, by omega⟩
    simp only [signalboxlaw10_ConfOff.l0]
    rw [if_neg (by omega), state_eq (k + 1) (by omega)]
    simp only [Option.bind_some]
    rw [state_fs m h0]
    rw [if_neg (by simp)]
    simp only [signalboxlaw10_ConfOff.j2]
    have ho : ((fs m).2.2.1 != decide (m ≥ 32)) = false := by
      unfold fs
      by_cases h : m < 32 <;> simp [h] <;> omega
    rw [ho, if_neg (by decide)]
    exact hK k (by omega)
  | succ d ih =>
    intro m hm0 hm hd
    obtain ⟨K, hK⟩ := ih (m + 1) (by omega) (by omega) (by omega)
    refine ⟨K + 2, fun k hk => ?_⟩
    obtain ⟨k, rfl⟩ : ∃ m, k = m + 1 := ⟨k - 1, by omega⟩
    simp only [signalboxlaw10_ConfOff.l0]
    rw [if_pos (by omega), failed_fs k (by omega) m hm0]
    simp only [Option.bind_some]
    rw [show wrap64 (m + 1) = m + 1 by unfold wrap64; omega]
    exact hK k (by omega)

theorem j0_alive (n b : Int) : Ev (fun k => signalboxlaw10_ConfOff.j0 k n b true) true := by
  refine Ev.step (f := fun k => (signalboxlaw10_alive.f k).bind fun t137 => (some t137)) (fun k => ?_) (Ev.bind alive_ev (Ev.now _))
  simp only [signalboxlaw10_ConfOff.j0, if_true]

theorem ConfOff : signalboxlaw10_ConfOff.Pure := by
  intro n b _ _
  refine Ev.rounds ?_
  unfold signalboxlaw10_ConfOff.f
  by_cases h1 : n < 0
  · simp only [if_pos h1]; exact j0_alive n b
  simp only [if_neg h1]
  by_cases h2 : n > 60
  · simp only [if_pos h2]; exact j0_alive n b
  simp only [if_neg h2]
  by_cases h3 : b < 1
  · simp only [if_pos h3]; exact j0_alive n b
  simp only [if_neg h3]
  by_cases h4 : b > 60
  · simp only [h4, decide_true]; exact j0_alive n b
  · simp only [h4, decide_false]
    refine Ev.step (f := fun k => signalboxlaw10_ConfOff.l0 k n b n 0 0 0 false 0) (fun k => ?_) ?_
    · simp only [signalboxlaw10_ConfOff.j0]; rw [if_neg (by decide)]
    · exact l0_ok n b (by omega) (by omega) (by omega) (by omega) n.toNat 0 (by omega) (by omega) (by omega)

end Go.Proofs.Ytpeegolmfopndaa.Pure
