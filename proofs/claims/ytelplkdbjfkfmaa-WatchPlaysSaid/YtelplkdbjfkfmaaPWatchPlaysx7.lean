-- Laid by a program of the session over the kit's print. Not trusted: Lean checks it.
import Derived.Test.YtelplkdbjfkfmaaPWatchPlaysx0
namespace Go.Proofs.Ytelplkdbjfkfmaa.PWatchPlays
open Go.RowKit Go.Proofs.YtelplkdbjfkfmaaW.PrintWords Go.Proofs.YtelplkdbjfkfmaaW.PrintLast Go.Proofs.YtelplkdbjfkfmaaW.PrintMore
attribute [local go_sem] max2_int min2_int max_two min_two max_three min_three max_four min_four   -- for this text's walks alone
set_option linter.unusedVariables false
set_option linter.unusedSimpArgs false

/-! ### signalboxref23_last: function 36 -/
def signalboxref23_last.l0 : Nat → List (S65) → Int → Option (Int)
  | 0, _, _ => none
  | k + 1, x0, x3 => if x3 ≥ 0 then (if 0 ≤ x3 then (if x3 < (x0.length : Int) then (if (rd_T65 x0 x3).f1 = true then (if ((rd_T65 x0 x3).f2.f0) = 1 then (some x3) else (signalboxref23_last.l0 k x0 (wrap64 (x3 - 1)))) else (signalboxref23_last.l0 k x0 (wrap64 (x3 - 1)))) else (none)) else (none)) else (some (-1))
def signalboxref23_last.f (k : Nat) (l0 : List (S65)) : Option (Int) := signalboxref23_last.l0 k l0 (wrap64 ((l0.length : Int) - 1))
theorem signalboxref23_last.mono_l : ∀ k, (∀ y0 y1, LeO (signalboxref23_last.l0 k y0 y1) (signalboxref23_last.l0 (k + 1) y0 y1))
  | 0 => fun _ _ r h => by simp [signalboxref23_last.l0] at h
  | k + 1 => by
    have ih0 := signalboxref23_last.mono_l k
    · intro y0 y1
      unfold signalboxref23_last.l0
      repeat' first
      | (with_reducible exact ih0 _ _)
      | (with_reducible exact LeO.refl _)
      | (with_reducible exact LeO.none _)
      | (with_reducible refine LeO.ite ?_ ?_)
      | (with_reducible refine LeO.bind ?_ (fun _ => ?_))
      | exact ih0 _ _
      | exact LeO.none _
      | refine LeO.ite ?_ ?_
      | refine LeO.bind ?_ (fun _ => ?_)
theorem signalboxref23_last.mono : ∀ a0 k, LeO (signalboxref23_last.f k a0) (signalboxref23_last.f (k + 1) a0) := by
  intro a0 k
  have ih0 := signalboxref23_last.mono_l k
  unfold signalboxref23_last.f
  repeat' first
      | (with_reducible exact ih0 _ _)
      | (with_reducible exact LeO.refl _)
      | (with_reducible exact LeO.none _)
      | (with_reducible refine LeO.ite ?_ ?_)
      | (with_reducible refine LeO.bind ?_ (fun _ => ?_))
      | exact ih0 _ _
      | exact LeO.none _
      | refine LeO.ite ?_ ?_
      | refine LeO.bind ?_ (fun _ => ?_)
set_option maxHeartbeats 8000000 in
set_option maxRecDepth 100000 in
theorem signalboxref23_last.calls (k : Nat) (A0 : Option Addr) (c0 : Nat) (l0 : List (S65)) (r : Int) (w : World) (hr0 : Kd.C k65 w A0 l0.length l0) (hc0 : l0.length ≤ c0) (h : signalboxref23_last.f k l0 = some r) :
    Calls Try.prog 36 #[.slice A0 l0.length c0] w fun e w' => e = .returned (.int .i64 r) ∧ Drawn0 w w' := by
  have HR0 := Aside0.mk hr0; have HC0 := Aside0.mk hc0; clear hr0 hc0; have H : (signalboxref23_last.l0 k l0 (wrap64 ((l0.length : Int) - 1))) = some r := h
  clear h; have H' := Aside0.mk H; clear H; go_enter Try.func36, Try.ntmps36
  go_wp2; go_loopg [3] k (fun kq v3 w' => ∃ (x3_1 : Int), v3 = .int .i64 x3_1 ∧ Aside0 (signalboxref23_last.l0 kq l0 x3_1 = some r) ∧ Aside0 (kq ≤ k) ∧ Drawn0 w w')
  case atStart => exact ⟨(wrap64 ((l0.length : Int) - 1)), (by first | rfl | (simp; done) | (simp [*]; done)), H', ⟨Nat.le_refl _⟩, by repeat (first | exact Drawn0.refl _ | apply Drawn0.step)⟩
  case round =>
    clear H'; obtain ⟨x3_1, rfl, HA, HK1, ⟨m1, rfl⟩⟩ := hrel
    cases gk with
    | zero => exact absurd HA.out (by simp [signalboxref23_last.l0])
    | succ k1 =>
      have H := HA.out
      clear HA; simp only [signalboxref23_last.l0] at H
      by_cases c2 : x3_1 ≥ 0
      · rw [if_pos c2] at H
        have c2b0 : decide (0 ≤ x3_1) = true := decide_eq_true c2
        clear c2; by_cases c3 : 0 ≤ x3_1
        · rw [if_pos c3] at H
          have c3b0 : decide (0 ≤ x3_1) = true := decide_eq_true c3
          clear c3; by_cases c4 : x3_1 < (l0.length : Int)
          · rw [if_pos c4] at H
            have c4b0 : decide (x3_1 < (l0.length : Int)) = true := decide_eq_true c4
            clear c4; obtain ⟨bq5, hbq5⟩ : ∃ b_ : Bool, b_ = ((rd_T65 l0 x3_1).f1) := ⟨_, rfl⟩
            replace H : (if bq5 = true then (if ((rd_T65 l0 x3_1).f2.f0) = 1 then (some x3_1) else (signalboxref23_last.l0 k1 l0 (wrap64 (x3_1 - 1)))) else (signalboxref23_last.l0 k1 l0 (wrap64 (x3_1 - 1)))) = some r := by rw [← hbq5] at H; exact H
            have Nbq5 := Aside0.mk hbq5; clear hbq5; by_cases c6 : bq5 = true
            · subst c6
              have H1 : (if ((rd_T65 l0 x3_1).f2.f0) = 1 then (some x3_1) else (signalboxref23_last.l0 k1 l0 (wrap64 (x3_1 - 1)))) = some r := by rw [if_pos rfl] at H; exact H
              clear H; have H := H1
              clear H1; by_cases c7 : ((rd_T65 l0 x3_1).f2.f0) = 1
              · rw [if_pos c7] at H
                have c7b0 : (((rd_T65 l0 x3_1).f2.f0) == 1) = true := beq_iff_eq.mpr c7
                have c7b1 : (((rd_T65 l0 x3_1).f2.f0) != 1) = false := bne_eq_false_iff_eq.mpr c7
                clear c7; obtain rfl := Option.some.inj H
                have p148 : 0 ≤ (x3_1 : Int) := of_decide_eq_true (by first | (with_reducible assumption) | assumption)
                have q148 : x3_1 < (l0.length : Int) := of_decide_eq_true (by first | (with_reducible assumption) | assumption)
                obtain ⟨ad148, e148, hx148_0, hx148_1, hx148_2, hx148_3, hx148_4, hx148_5, hx148_6, hx148_7, hx148_8, hx148_9, hx148_10, hx148_11, hx148_12⟩ := at_T65 HR0.out x3_1 p148 q148
                (try rw [← Nbq5.out] at hx148_1)
                cases e148
                replace p148 := eq_true p148
                replace q148 := eq_true q148
                have p149 : 0 ≤ (x3_1 : Int) := of_decide_eq_true (by first | (with_reducible assumption) | assumption)
                have q149 : x3_1 < (l0.length : Int) := of_decide_eq_true (by first | (with_reducible assumption) | assumption)
                obtain ⟨ad149, e149, hx149_0, hx149_1, hx149_2, hx149_3, hx149_4, hx149_5, hx149_6, hx149_7, hx149_8, hx149_9, hx149_10, hx149_11, hx149_12⟩ := at_T65 HR0.out x3_1 p149 q149
                (try rw [← Nbq5.out] at hx149_1)
                obtain rfl : ad148 = ad149 := (by injection e149)
                replace p149 := eq_true p149
                replace q149 := eq_true q149
                go_wp2; go_ret
                exact ⟨by first | rfl | (simp; done) | (simp [*]; done), by repeat (first | exact Drawn0.refl _ | apply Drawn0.step)⟩
              · rw [if_neg c7] at H
                have c7b0 : (((rd_T65 l0 x3_1).f2.f0) == 1) = false := beq_eq_false_iff_ne.mpr c7
                have c7b1 : (((rd_T65 l0 x3_1).f2.f0) != 1) = true := bne_iff_ne.mpr c7
                have H' := Aside0.mk H; clear H; have p148 : 0 ≤ (x3_1 : Int) := of_decide_eq_true (by first | (with_reducible assumption) | assumption)
                have q148 : x3_1 < (l0.length : Int) := of_decide_eq_true (by first | (with_reducible assumption) | assumption)
                obtain ⟨ad148, e148, hx148_0, hx148_1, hx148_2, hx148_3, hx148_4, hx148_5, hx148_6, hx148_7, hx148_8, hx148_9, hx148_10, hx148_11, hx148_12⟩ := at_T65 HR0.out x3_1 p148 q148
                (try rw [← Nbq5.out] at hx148_1)
                cases e148
                replace p148 := eq_true p148
                replace q148 := eq_true q148
                have p149 : 0 ≤ (x3_1 : Int) := of_decide_eq_true (by first | (with_reducible assumption) | assumption)
                have q149 : x3_1 < (l0.length : Int) := of_decide_eq_true (by first | (with_reducible assumption) | assumption)
                obtain ⟨ad149, e149, hx149_0, hx149_1, hx149_2, hx149_3, hx149_4, hx149_5, hx149_6, hx149_7, hx149_8, hx149_9, hx149_10, hx149_11, hx149_12⟩ := at_T65 HR0.out x3_1 p149 q149
                (try rw [← Nbq5.out] at hx149_1)
                obtain rfl : ad148 = ad149 := (by injection e149)
                replace p149 := eq_true p149
                replace q149 := eq_true q149
                go_wp2; go_roundg k1
                case measure => have := HK1.out; omega
                case rel => exact ⟨(wrap64 (x3_1 - 1)), (by first | rfl | (simp; done) | (simp [*]; done)), H', ⟨by have := HK1.out; omega⟩, by repeat (first | exact Drawn0.refl _ | apply Drawn0.step)⟩
            · replace c6 := Bool.eq_false_iff.mpr c6
              subst c6; have H1 : (signalboxref23_last.l0 k1 l0 (wrap64 (x3_1 - 1))) = some r := by rw [if_neg (show ¬ (false = true) by decide)] at H; exact H
              clear H; have H := H1
              clear H1; have H' := Aside0.mk H; clear H; have p148 : 0 ≤ (x3_1 : Int) := of_decide_eq_true (by first | (with_reducible assumption) | assumption)
              have q148 : x3_1 < (l0.length : Int) := of_decide_eq_true (by first | (with_reducible assumption) | assumption)
              obtain ⟨ad148, e148, hx148_0, hx148_1, hx148_2, hx148_3, hx148_4, hx148_5, hx148_6, hx148_7, hx148_8, hx148_9, hx148_10, hx148_11, hx148_12⟩ := at_T65 HR0.out x3_1 p148 q148
              (try rw [← Nbq5.out] at hx148_1)
              cases e148
              replace p148 := eq_true p148
              replace q148 := eq_true q148
              go_wp2; go_roundg k1
              case measure => have := HK1.out; omega
              case rel => exact ⟨(wrap64 (x3_1 - 1)), (by first | rfl | (simp; done) | (simp [*]; done)), H', ⟨by have := HK1.out; omega⟩, by repeat (first | exact Drawn0.refl _ | apply Drawn0.step)⟩
          · rw [if_neg c4] at H
            exact absurd H (by simp)
        · rw [if_neg c3] at H
          exact absurd H (by simp)
      · rw [if_neg c2] at H
        have c2b0 : decide (0 ≤ x3_1) = false := decide_eq_false c2
        clear c2; obtain rfl := Option.some.inj H
        go_wp2; go_ret
        exact ⟨by first | rfl | (simp; done) | (simp [*]; done), by repeat (first | exact Drawn0.refl _ | apply Drawn0.step)⟩

/-! ### signalboxref23_heard: function 39 -/
def signalboxref23_heard.l0 : Nat → List (S65) → Int → Option (Int)
  | 0, _, _ => none
  | k + 1, x0, x3 => if x3 ≥ 0 then (if 0 ≤ x3 then (if x3 < (x0.length : Int) then (if ((rd_T65 x0 x3).f1 = true) then (signalboxref23_heard.l0 k x0 (wrap64 (x3 - 1))) else (some x3)) else (none)) else (none)) else (some (-1))
def signalboxref23_heard.f (k : Nat) (l0 : List (S65)) : Option (Int) := signalboxref23_heard.l0 k l0 (wrap64 ((l0.length : Int) - 1))
theorem signalboxref23_heard.mono_l : ∀ k, (∀ y0 y1, LeO (signalboxref23_heard.l0 k y0 y1) (signalboxref23_heard.l0 (k + 1) y0 y1))
  | 0 => fun _ _ r h => by simp [signalboxref23_heard.l0] at h
  | k + 1 => by
    have ih0 := signalboxref23_heard.mono_l k
    · intro y0 y1
      unfold signalboxref23_heard.l0
      repeat' first
      | (with_reducible exact ih0 _ _)
      | (with_reducible exact LeO.refl _)
      | (with_reducible exact LeO.none _)
      | (with_reducible refine LeO.ite ?_ ?_)
      | (with_reducible refine LeO.bind ?_ (fun _ => ?_))
      | exact ih0 _ _
      | exact LeO.none _
      | refine LeO.ite ?_ ?_
      | refine LeO.bind ?_ (fun _ => ?_)
theorem signalboxref23_heard.mono : ∀ a0 k, LeO (signalboxref23_heard.f k a0) (signalboxref23_heard.f (k + 1) a0) := by
  intro a0 k
  have ih0 := signalboxref23_heard.mono_l k
  unfold signalboxref23_heard.f
  repeat' first
      | (with_reducible exact ih0 _ _)
      | (with_reducible exact LeO.refl _)
      | (with_reducible exact LeO.none _)
      | (with_reducible refine LeO.ite ?_ ?_)
      | (with_reducible refine LeO.bind ?_ (fun _ => ?_))
      | exact ih0 _ _
      | exact LeO.none _
      | refine LeO.ite ?_ ?_
      | refine LeO.bind ?_ (fun _ => ?_)
set_option maxHeartbeats 8000000 in
set_option maxRecDepth 100000 in
theorem signalboxref23_heard.calls (k : Nat) (A0 : Option Addr) (c0 : Nat) (l0 : List (S65)) (r : Int) (w : World) (hr0 : Kd.C k65 w A0 l0.length l0) (hc0 : l0.length ≤ c0) (h : signalboxref23_heard.f k l0 = some r) :
    Calls Try.prog 39 #[.slice A0 l0.length c0] w fun e w' => e = .returned (.int .i64 r) ∧ Drawn0 w w' := by
  have HR0 := Aside0.mk hr0; have HC0 := Aside0.mk hc0; clear hr0 hc0; have H : (signalboxref23_heard.l0 k l0 (wrap64 ((l0.length : Int) - 1))) = some r := h
  clear h; have H' := Aside0.mk H; clear H; go_enter Try.func39, Try.ntmps39
  go_wp2; go_loopg [3] k (fun kq v3 w' => ∃ (x3_1 : Int), v3 = .int .i64 x3_1 ∧ Aside0 (signalboxref23_heard.l0 kq l0 x3_1 = some r) ∧ Aside0 (kq ≤ k) ∧ Drawn0 w w')
  case atStart => exact ⟨(wrap64 ((l0.length : Int) - 1)), (by first | rfl | (simp; done) | (simp [*]; done)), H', ⟨Nat.le_refl _⟩, by repeat (first | exact Drawn0.refl _ | apply Drawn0.step)⟩
  case round =>
    clear H'; obtain ⟨x3_1, rfl, HA, HK1, ⟨m1, rfl⟩⟩ := hrel
    cases gk with
    | zero => exact absurd HA.out (by simp [signalboxref23_heard.l0])
    | succ k1 =>
      have H := HA.out
      clear HA; simp only [signalboxref23_heard.l0] at H
      by_cases c2 : x3_1 ≥ 0
      · rw [if_pos c2] at H
        have c2b0 : decide (0 ≤ x3_1) = true := decide_eq_true c2
        clear c2; by_cases c3 : 0 ≤ x3_1
        · rw [if_pos c3] at H
          have c3b0 : decide (0 ≤ x3_1) = true := decide_eq_true c3
          clear c3; by_cases c4 : x3_1 < (l0.length : Int)
          · rw [if_pos c4] at H
            have c4b0 : decide (x3_1 < (l0.length : Int)) = true := decide_eq_true c4
            clear c4; obtain ⟨bq5, hbq5⟩ : ∃ b_ : Bool, b_ = ((rd_T65 l0 x3_1).f1) := ⟨_, rfl⟩
            replace H : (if (bq5 = true) then (signalboxref23_heard.l0 k1 l0 (wrap64 (x3_1 - 1))) else (some x3_1)) = some r := by rw [← hbq5] at H; exact H
            have Nbq5 := Aside0.mk hbq5; clear hbq5; by_cases c6 : (bq5 = true)
            · subst c6
              have H1 : (signalboxref23_heard.l0 k1 l0 (wrap64 (x3_1 - 1))) = some r := by rw [if_pos rfl] at H; exact H
              clear H; have H := H1
              clear H1; have H' := Aside0.mk H; clear H; have p150 : 0 ≤ (x3_1 : Int) := of_decide_eq_true (by first | (with_reducible assumption) | assumption)
              have q150 : x3_1 < (l0.length : Int) := of_decide_eq_true (by first | (with_reducible assumption) | assumption)
              obtain ⟨ad150, e150, hx150_0, hx150_1, hx150_2, hx150_3, hx150_4, hx150_5, hx150_6, hx150_7, hx150_8, hx150_9, hx150_10, hx150_11, hx150_12⟩ := at_T65 HR0.out x3_1 p150 q150
              (try rw [← Nbq5.out] at hx150_1)
              cases e150
              replace p150 := eq_true p150
              replace q150 := eq_true q150
              go_wp2; go_roundg k1
              case measure => have := HK1.out; omega
              case rel => exact ⟨(wrap64 (x3_1 - 1)), (by first | rfl | (simp; done) | (simp [*]; done)), H', ⟨by have := HK1.out; omega⟩, by repeat (first | exact Drawn0.refl _ | apply Drawn0.step)⟩
            · replace c6 := Bool.eq_false_iff.mpr c6
              subst c6; have H1 : (some x3_1) = some r := by rw [if_neg (show ¬ (false = true) by decide)] at H; exact H
              clear H; have H := H1
              clear H1; obtain rfl := Option.some.inj H
              have p150 : 0 ≤ (x3_1 : Int) := of_decide_eq_true (by first | (with_reducible assumption) | assumption)
              have q150 : x3_1 < (l0.length : Int) := of_decide_eq_true (by first | (with_reducible assumption) | assumption)
              obtain ⟨ad150, e150, hx150_0, hx150_1, hx150_2, hx150_3, hx150_4, hx150_5, hx150_6, hx150_7, hx150_8, hx150_9, hx150_10, hx150_11, hx150_12⟩ := at_T65 HR0.out x3_1 p150 q150
              (try rw [← Nbq5.out] at hx150_1)
              cases e150
              replace p150 := eq_true p150
              replace q150 := eq_true q150
              go_wp2; go_ret
              exact ⟨by first | rfl | (simp; done) | (simp [*]; done), by repeat (first | exact Drawn0.refl _ | apply Drawn0.step)⟩
          · rw [if_neg c4] at H
            exact absurd H (by simp)
        · rw [if_neg c3] at H
          exact absurd H (by simp)
      · rw [if_neg c2] at H
        have c2b0 : decide (0 ≤ x3_1) = false := decide_eq_false c2
        clear c2; obtain rfl := Option.some.inj H
        go_wp2; go_ret
        exact ⟨by first | rfl | (simp; done) | (simp [*]; done), by repeat (first | exact Drawn0.refl _ | apply Drawn0.step)⟩

end Go.Proofs.Ytelplkdbjfkfmaa.PWatchPlays
