-- Laid by a program of the session over the kit's print. Not trusted: Lean checks it.
import Derived.Test.YtlikjdeaippjiaaPMatrixPlansx0
import Derived.Test.YtlikjdeaippjiaaPMatrixPlansx2
import Derived.Test.YtlikjdeaippjiaaPMatrixPlansx3
import Derived.Test.YtlikjdeaippjiaaPMatrixPlansx4
namespace Go.Proofs.Ytlikjdeaippjiaa.PMatrixPlans
open Go.RowKit Go.Proofs.YtlikjdeaippjiaaW.PrintWords Go.Proofs.YtlikjdeaippjiaaW.PrintLast Go.Proofs.YtlikjdeaippjiaaW.PrintMore
attribute [local go_sem] max2_int min2_int max_two min_two max_three min_three max_four min_four   -- for this text's walks alone
set_option linter.unusedVariables false
set_option linter.unusedSimpArgs false

/-! ### signalboxlaw41_MatrixPlans: function 7 -/
mutual
def signalboxlaw41_MatrixPlans.j0 : Nat → List (S24) → Int → Int → Bool → Option (Bool)
  | 0, _, _, _, _ => none
  | k + 1, x0, x1, x2, x25 => if x25 = true then ((signalboxlaw41_alive.f k).bind fun t186 => (some t186)) else ((matrix_Who.f k x0 x2).bind fun t187 => ((signalboxref41_Who.f k x0 x2).bind fun t190 => ((signalboxref09_Ints.f k t187 t190).bind fun t193 => (if t193 = true then ((matrix_Plan.f k x0 x1).bind fun bt194 => ((matrix_Free.f k x0 x1).bind fun bt198 => ((signalboxref41_Right.f k x0).bind fun t200 => (if t200 = 0 then (if x1 < 0 then (signalboxlaw41_MatrixPlans.j1 k x0 x1 bt194.1 bt194.2 bt198.1 bt198.2 t200 true) else (signalboxlaw41_MatrixPlans.j1 k x0 x1 bt194.1 bt194.2 bt198.1 bt198.2 t200 (decide (x1 > 1000)))) else (signalboxlaw41_MatrixPlans.j1 k x0 x1 bt194.1 bt194.2 bt198.1 bt198.2 t200 false))))) else (some false)))))
def signalboxlaw41_MatrixPlans.j1 : Nat → List (S24) → Int → List (List Int) → Int → Int → Int → Int → Bool → Option (Bool)
  | 0, _, _, _, _, _, _, _, _ => none
  | k + 1, x0, x1, x7, x8, x9, x10, x11, x58 => if x58 = true then (signalboxlaw41_MatrixPlans.j2 k x0 x1 x7 x8 x9 x10 2) else (signalboxlaw41_MatrixPlans.j2 k x0 x1 x7 x8 x9 x10 x11)
def signalboxlaw41_MatrixPlans.j2 : Nat → List (S24) → Int → List (List Int) → Int → Int → Int → Int → Option (Bool)
  | 0, _, _, _, _, _, _, _ => none
  | k + 1, x0, x1, x7, x8, x9, x10, x11 => if x8 = x11 then (signalboxlaw41_MatrixPlans.j3 k x0 x1 x7 x9 x11 (x10 != x11)) else (signalboxlaw41_MatrixPlans.j3 k x0 x1 x7 x9 x11 true)
def signalboxlaw41_MatrixPlans.j3 : Nat → List (S24) → Int → List (List Int) → Int → Int → Bool → Option (Bool)
  | 0, _, _, _, _, _, _ => none
  | k + 1, x0, x1, x7, x9, x11, x66 => if x66 = true then (some false) else (if x11 = 0 then (signalboxlaw41_MatrixPlans.l0 k x0 x1 x7 x9 0 x1 0) else (if (x7.length : Int) = 0 then (if x9 = 0 then ((signalboxlaw41_alive.f k).bind fun t201 => (some t201)) else (some false)) else (some false)))
def signalboxlaw41_MatrixPlans.l0 : Nat → List (S24) → Int → List (List Int) → Int → Int → Int → Int → Option (Bool)
  | 0, _, _, _, _, _, _, _ => none
  | k + 1, x0, x1, x7, x9, x12, x79, x80 => if x80 < x79 then ((signalboxref41_Who.f k x0 x80).bind fun t203 => (if x80 ≥ (x7.length : Int) then (signalboxlaw41_MatrixPlans.j5 k x0 x1 x7 x9 x12 t203 x79 x80 true) else (if 0 ≤ x80 then (if x80 < (x7.length : Int) then ((signalboxref09_Ints.f k (rd_L4 x7 x80) t203).bind fun t207 => (signalboxlaw41_MatrixPlans.j5 k x0 x1 x7 x9 x12 t203 x79 x80 (!t207))) else (none)) else (none)))) else (if (x7.length : Int) = x1 then (if x9 = x12 then ((signalboxlaw41_alive.f k).bind fun t202 => (some t202)) else (some false)) else (some false))
def signalboxlaw41_MatrixPlans.j5 : Nat → List (S24) → Int → List (List Int) → Int → Int → List Int → Int → Int → Bool → Option (Bool)
  | 0, _, _, _, _, _, _, _, _, _ => none
  | k + 1, x0, x1, x7, x9, x12, x14, x79, x80, x98 => if x98 = true then (some false) else (if (x14.length : Int) = 0 then (signalboxlaw41_MatrixPlans.l0 k x0 x1 x7 x9 (wrap64 (x12 + 1)) x79 (wrap64 (x80 + 1))) else (signalboxlaw41_MatrixPlans.l0 k x0 x1 x7 x9 x12 x79 (wrap64 (x80 + 1))))
end
def signalboxlaw41_MatrixPlans.f (k : Nat) (l0 : List (S24)) (a1 : Int) (a2 : Int) : Option (Bool) := if (l0.length : Int) > 100 then (signalboxlaw41_MatrixPlans.j0 k l0 a1 a2 true) else (if a1 > 300 then (signalboxlaw41_MatrixPlans.j0 k l0 a1 a2 (decide (a1 ≤ 1000))) else (signalboxlaw41_MatrixPlans.j0 k l0 a1 a2 false))
theorem signalboxlaw41_MatrixPlans.mono_l : ∀ k, (∀ y0 y1 y2 y3, LeO (signalboxlaw41_MatrixPlans.j0 k y0 y1 y2 y3) (signalboxlaw41_MatrixPlans.j0 (k + 1) y0 y1 y2 y3)) ∧ (∀ y0 y1 y2 y3 y4 y5 y6 y7, LeO (signalboxlaw41_MatrixPlans.j1 k y0 y1 y2 y3 y4 y5 y6 y7) (signalboxlaw41_MatrixPlans.j1 (k + 1) y0 y1 y2 y3 y4 y5 y6 y7)) ∧ (∀ y0 y1 y2 y3 y4 y5 y6, LeO (signalboxlaw41_MatrixPlans.j2 k y0 y1 y2 y3 y4 y5 y6) (signalboxlaw41_MatrixPlans.j2 (k + 1) y0 y1 y2 y3 y4 y5 y6)) ∧ (∀ y0 y1 y2 y3 y4 y5, LeO (signalboxlaw41_MatrixPlans.j3 k y0 y1 y2 y3 y4 y5) (signalboxlaw41_MatrixPlans.j3 (k + 1) y0 y1 y2 y3 y4 y5)) ∧ (∀ y0 y1 y2 y3 y4 y5 y6, LeO (signalboxlaw41_MatrixPlans.l0 k y0 y1 y2 y3 y4 y5 y6) (signalboxlaw41_MatrixPlans.l0 (k + 1) y0 y1 y2 y3 y4 y5 y6)) ∧ (∀ y0 y1 y2 y3 y4 y5 y6 y7 y8, LeO (signalboxlaw41_MatrixPlans.j5 k y0 y1 y2 y3 y4 y5 y6 y7 y8) (signalboxlaw41_MatrixPlans.j5 (k + 1) y0 y1 y2 y3 y4 y5 y6 y7 y8))
  | 0 => ⟨fun _ _ _ _ r h => by simp [signalboxlaw41_MatrixPlans.j0] at h, fun _ _ _ _ _ _ _ _ r h => by simp [signalboxlaw41_MatrixPlans.j1] at h, fun _ _ _ _ _ _ _ r h => by simp [signalboxlaw41_MatrixPlans.j2] at h, fun _ _ _ _ _ _ r h => by simp [signalboxlaw41_MatrixPlans.j3] at h, fun _ _ _ _ _ _ _ r h => by simp [signalboxlaw41_MatrixPlans.l0] at h, fun _ _ _ _ _ _ _ _ _ r h => by simp [signalboxlaw41_MatrixPlans.j5] at h⟩
  | k + 1 => by
    obtain ⟨ih0, ih1, ih2, ih3, ih4, ih5⟩ := signalboxlaw41_MatrixPlans.mono_l k
    refine ⟨?_, ?_, ?_, ?_, ?_, ?_⟩
    · intro y0 y1 y2 y3
      unfold signalboxlaw41_MatrixPlans.j0
      repeat' first
      | (with_reducible exact ih0 _ _ _ _)
      | (with_reducible exact ih1 _ _ _ _ _ _ _ _)
      | (with_reducible exact ih2 _ _ _ _ _ _ _)
      | (with_reducible exact ih3 _ _ _ _ _ _)
      | (with_reducible exact ih4 _ _ _ _ _ _ _)
      | (with_reducible exact ih5 _ _ _ _ _ _ _ _ _)
      | (with_reducible exact matrix_Free.mono _ _ _)
      | (with_reducible exact matrix_Plan.mono _ _ _)
      | (with_reducible exact matrix_Who.mono _ _ _)
      | (with_reducible exact signalboxlaw41_alive.mono _)
      | (with_reducible exact signalboxref09_Ints.mono _ _ _)
      | (with_reducible exact signalboxref41_Right.mono _ _)
      | (with_reducible exact signalboxref41_Who.mono _ _ _)
      | (with_reducible exact LeO.refl _)
      | (with_reducible exact LeO.none _)
      | (with_reducible refine LeO.ite ?_ ?_)
      | (with_reducible refine LeO.bind ?_ (fun _ => ?_))
      | exact ih0 _ _ _ _
      | exact ih1 _ _ _ _ _ _ _ _
      | exact ih2 _ _ _ _ _ _ _
      | exact ih3 _ _ _ _ _ _
      | exact ih4 _ _ _ _ _ _ _
      | exact ih5 _ _ _ _ _ _ _ _ _
      | exact matrix_Free.mono _ _ _
      | exact matrix_Plan.mono _ _ _
      | exact matrix_Who.mono _ _ _
      | exact signalboxlaw41_alive.mono _
      | exact signalboxref09_Ints.mono _ _ _
      | exact signalboxref41_Right.mono _ _
      | exact signalboxref41_Who.mono _ _ _
      | exact LeO.none _
      | refine LeO.ite ?_ ?_
      | refine LeO.bind ?_ (fun _ => ?_)
    · intro y0 y1 y2 y3 y4 y5 y6 y7
      unfold signalboxlaw41_MatrixPlans.j1
      repeat' first
      | (with_reducible exact ih0 _ _ _ _)
      | (with_reducible exact ih1 _ _ _ _ _ _ _ _)
      | (with_reducible exact ih2 _ _ _ _ _ _ _)
      | (with_reducible exact ih3 _ _ _ _ _ _)
      | (with_reducible exact ih4 _ _ _ _ _ _ _)
      | (with_reducible exact ih5 _ _ _ _ _ _ _ _ _)
      | (with_reducible exact matrix_Free.mono _ _ _)
      | (with_reducible exact matrix_Plan.mono _ _ _)
      | (with_reducible exact matrix_Who.mono _ _ _)
      | (with_reducible exact signalboxlaw41_alive.mono _)
      | (with_reducible exact signalboxref09_Ints.mono _ _ _)
      | (with_reducible exact signalboxref41_Right.mono _ _)
      | (with_reducible exact signalboxref41_Who.mono _ _ _)
      | (with_reducible exact LeO.refl _)
      | (with_reducible exact LeO.none _)
      | (with_reducible refine LeO.ite ?_ ?_)
      | (with_reducible refine LeO.bind ?_ (fun _ => ?_))
      | exact ih0 _ _ _ _
      | exact ih1 _ _ _ _ _ _ _ _
      | exact ih2 _ _ _ _ _ _ _
      | exact ih3 _ _ _ _ _ _
      | exact ih4 _ _ _ _ _ _ _
      | exact ih5 _ _ _ _ _ _ _ _ _
      | exact matrix_Free.mono _ _ _
      | exact matrix_Plan.mono _ _ _
      | exact matrix_Who.mono _ _ _
      | exact signalboxlaw41_alive.mono _
      | exact signalboxref09_Ints.mono _ _ _
      | exact signalboxref41_Right.mono _ _
      | exact signalboxref41_Who.mono _ _ _
      | exact LeO.none _
      | refine LeO.ite ?_ ?_
      | refine LeO.bind ?_ (fun _ => ?_)
    · intro y0 y1 y2 y3 y4 y5 y6
      unfold signalboxlaw41_MatrixPlans.j2
      repeat' first
      | (with_reducible exact ih0 _ _ _ _)
      | (with_reducible exact ih1 _ _ _ _ _ _ _ _)
      | (with_reducible exact ih2 _ _ _ _ _ _ _)
      | (with_reducible exact ih3 _ _ _ _ _ _)
      | (with_reducible exact ih4 _ _ _ _ _ _ _)
      | (with_reducible exact ih5 _ _ _ _ _ _ _ _ _)
      | (with_reducible exact matrix_Free.mono _ _ _)
      | (with_reducible exact matrix_Plan.mono _ _ _)
      | (with_reducible exact matrix_Who.mono _ _ _)
      | (with_reducible exact signalboxlaw41_alive.mono _)
      | (with_reducible exact signalboxref09_Ints.mono _ _ _)
      | (with_reducible exact signalboxref41_Right.mono _ _)
      | (with_reducible exact signalboxref41_Who.mono _ _ _)
      | (with_reducible exact LeO.refl _)
      | (with_reducible exact LeO.none _)
      | (with_reducible refine LeO.ite ?_ ?_)
      | (with_reducible refine LeO.bind ?_ (fun _ => ?_))
      | exact ih0 _ _ _ _
      | exact ih1 _ _ _ _ _ _ _ _
      | exact ih2 _ _ _ _ _ _ _
      | exact ih3 _ _ _ _ _ _
      | exact ih4 _ _ _ _ _ _ _
      | exact ih5 _ _ _ _ _ _ _ _ _
      | exact matrix_Free.mono _ _ _
      | exact matrix_Plan.mono _ _ _
      | exact matrix_Who.mono _ _ _
      | exact signalboxlaw41_alive.mono _
      | exact signalboxref09_Ints.mono _ _ _
      | exact signalboxref41_Right.mono _ _
      | exact signalboxref41_Who.mono _ _ _
      | exact LeO.none _
      | refine LeO.ite ?_ ?_
      | refine LeO.bind ?_ (fun _ => ?_)
    · intro y0 y1 y2 y3 y4 y5
      unfold signalboxlaw41_MatrixPlans.j3
      repeat' first
      | (with_reducible exact ih0 _ _ _ _)
      | (with_reducible exact ih1 _ _ _ _ _ _ _ _)
      | (with_reducible exact ih2 _ _ _ _ _ _ _)
      | (with_reducible exact ih3 _ _ _ _ _ _)
      | (with_reducible exact ih4 _ _ _ _ _ _ _)
      | (with_reducible exact ih5 _ _ _ _ _ _ _ _ _)
      | (with_reducible exact matrix_Free.mono _ _ _)
      | (with_reducible exact matrix_Plan.mono _ _ _)
      | (with_reducible exact matrix_Who.mono _ _ _)
      | (with_reducible exact signalboxlaw41_alive.mono _)
      | (with_reducible exact signalboxref09_Ints.mono _ _ _)
      | (with_reducible exact signalboxref41_Right.mono _ _)
      | (with_reducible exact signalboxref41_Who.mono _ _ _)
      | (with_reducible exact LeO.refl _)
      | (with_reducible exact LeO.none _)
      | (with_reducible refine LeO.ite ?_ ?_)
      | (with_reducible refine LeO.bind ?_ (fun _ => ?_))
      | exact ih0 _ _ _ _
      | exact ih1 _ _ _ _ _ _ _ _
      | exact ih2 _ _ _ _ _ _ _
      | exact ih3 _ _ _ _ _ _
      | exact ih4 _ _ _ _ _ _ _
      | exact ih5 _ _ _ _ _ _ _ _ _
      | exact matrix_Free.mono _ _ _
      | exact matrix_Plan.mono _ _ _
      | exact matrix_Who.mono _ _ _
      | exact signalboxlaw41_alive.mono _
      | exact signalboxref09_Ints.mono _ _ _
      | exact signalboxref41_Right.mono _ _
      | exact signalboxref41_Who.mono _ _ _
      | exact LeO.none _
      | refine LeO.ite ?_ ?_
      | refine LeO.bind ?_ (fun _ => ?_)
    · intro y0 y1 y2 y3 y4 y5 y6
      unfold signalboxlaw41_MatrixPlans.l0
      repeat' first
      | (with_reducible exact ih0 _ _ _ _)
      | (with_reducible exact ih1 _ _ _ _ _ _ _ _)
      | (with_reducible exact ih2 _ _ _ _ _ _ _)
      | (with_reducible exact ih3 _ _ _ _ _ _)
      | (with_reducible exact ih4 _ _ _ _ _ _ _)
      | (with_reducible exact ih5 _ _ _ _ _ _ _ _ _)
      | (with_reducible exact matrix_Free.mono _ _ _)
      | (with_reducible exact matrix_Plan.mono _ _ _)
      | (with_reducible exact matrix_Who.mono _ _ _)
      | (with_reducible exact signalboxlaw41_alive.mono _)
      | (with_reducible exact signalboxref09_Ints.mono _ _ _)
      | (with_reducible exact signalboxref41_Right.mono _ _)
      | (with_reducible exact signalboxref41_Who.mono _ _ _)
      | (with_reducible exact LeO.refl _)
      | (with_reducible exact LeO.none _)
      | (with_reducible refine LeO.ite ?_ ?_)
      | (with_reducible refine LeO.bind ?_ (fun _ => ?_))
      | exact ih0 _ _ _ _
      | exact ih1 _ _ _ _ _ _ _ _
      | exact ih2 _ _ _ _ _ _ _
      | exact ih3 _ _ _ _ _ _
      | exact ih4 _ _ _ _ _ _ _
      | exact ih5 _ _ _ _ _ _ _ _ _
      | exact matrix_Free.mono _ _ _
      | exact matrix_Plan.mono _ _ _
      | exact matrix_Who.mono _ _ _
      | exact signalboxlaw41_alive.mono _
      | exact signalboxref09_Ints.mono _ _ _
      | exact signalboxref41_Right.mono _ _
      | exact signalboxref41_Who.mono _ _ _
      | exact LeO.none _
      | refine LeO.ite ?_ ?_
      | refine LeO.bind ?_ (fun _ => ?_)
    · intro y0 y1 y2 y3 y4 y5 y6 y7 y8
      unfold signalboxlaw41_MatrixPlans.j5
      repeat' first
      | (with_reducible exact ih0 _ _ _ _)
      | (with_reducible exact ih1 _ _ _ _ _ _ _ _)
      | (with_reducible exact ih2 _ _ _ _ _ _ _)
      | (with_reducible exact ih3 _ _ _ _ _ _)
      | (with_reducible exact ih4 _ _ _ _ _ _ _)
      | (with_reducible exact ih5 _ _ _ _ _ _ _ _ _)
      | (with_reducible exact matrix_Free.mono _ _ _)
      | (with_reducible exact matrix_Plan.mono _ _ _)
      | (with_reducible exact matrix_Who.mono _ _ _)
      | (with_reducible exact signalboxlaw41_alive.mono _)
      | (with_reducible exact signalboxref09_Ints.mono _ _ _)
      | (with_reducible exact signalboxref41_Right.mono _ _)
      | (with_reducible exact signalboxref41_Who.mono _ _ _)
      | (with_reducible exact LeO.refl _)
      | (with_reducible exact LeO.none _)
      | (with_reducible refine LeO.ite ?_ ?_)
      | (with_reducible refine LeO.bind ?_ (fun _ => ?_))
      | exact ih0 _ _ _ _
      | exact ih1 _ _ _ _ _ _ _ _
      | exact ih2 _ _ _ _ _ _ _
      | exact ih3 _ _ _ _ _ _
      | exact ih4 _ _ _ _ _ _ _
      | exact ih5 _ _ _ _ _ _ _ _ _
      | exact matrix_Free.mono _ _ _
      | exact matrix_Plan.mono _ _ _
      | exact matrix_Who.mono _ _ _
      | exact signalboxlaw41_alive.mono _
      | exact signalboxref09_Ints.mono _ _ _
      | exact signalboxref41_Right.mono _ _
      | exact signalboxref41_Who.mono _ _ _
      | exact LeO.none _
      | refine LeO.ite ?_ ?_
      | refine LeO.bind ?_ (fun _ => ?_)
theorem signalboxlaw41_MatrixPlans.mono : ∀ a0 a1 a2 k, LeO (signalboxlaw41_MatrixPlans.f k a0 a1 a2) (signalboxlaw41_MatrixPlans.f (k + 1) a0 a1 a2) := by
  intro a0 a1 a2 k
  obtain ⟨ih0, ih1, ih2, ih3, ih4, ih5⟩ := signalboxlaw41_MatrixPlans.mono_l k
  unfold signalboxlaw41_MatrixPlans.f
  repeat' first
      | (with_reducible exact ih0 _ _ _ _)
      | (with_reducible exact ih1 _ _ _ _ _ _ _ _)
      | (with_reducible exact ih2 _ _ _ _ _ _ _)
      | (with_reducible exact ih3 _ _ _ _ _ _)
      | (with_reducible exact ih4 _ _ _ _ _ _ _)
      | (with_reducible exact ih5 _ _ _ _ _ _ _ _ _)
      | (with_reducible exact matrix_Free.mono _ _ _)
      | (with_reducible exact matrix_Plan.mono _ _ _)
      | (with_reducible exact matrix_Who.mono _ _ _)
      | (with_reducible exact signalboxlaw41_alive.mono _)
      | (with_reducible exact signalboxref09_Ints.mono _ _ _)
      | (with_reducible exact signalboxref41_Right.mono _ _)
      | (with_reducible exact signalboxref41_Who.mono _ _ _)
      | (with_reducible exact LeO.refl _)
      | (with_reducible exact LeO.none _)
      | (with_reducible refine LeO.ite ?_ ?_)
      | (with_reducible refine LeO.bind ?_ (fun _ => ?_))
      | exact ih0 _ _ _ _
      | exact ih1 _ _ _ _ _ _ _ _
      | exact ih2 _ _ _ _ _ _ _
      | exact ih3 _ _ _ _ _ _
      | exact ih4 _ _ _ _ _ _ _
      | exact ih5 _ _ _ _ _ _ _ _ _
      | exact matrix_Free.mono _ _ _
      | exact matrix_Plan.mono _ _ _
      | exact matrix_Who.mono _ _ _
      | exact signalboxlaw41_alive.mono _
      | exact signalboxref09_Ints.mono _ _ _
      | exact signalboxref41_Right.mono _ _
      | exact signalboxref41_Who.mono _ _ _
      | exact LeO.none _
      | refine LeO.ite ?_ ?_
      | refine LeO.bind ?_ (fun _ => ?_)
set_option maxHeartbeats 8000000 in
set_option maxRecDepth 100000 in
theorem signalboxlaw41_MatrixPlans.calls (k : Nat) (A0 : Option Addr) (c0 : Nat) (l0 : List (S24)) (a1 : Int) (a2 : Int) (r : Bool) (w : World) (hr0 : Kd.C k24 w A0 l0.length l0) (hc0 : l0.length ≤ c0) (h : signalboxlaw41_MatrixPlans.f k l0 a1 a2 = some r) :
    Calls Try.prog 7 #[.slice A0 l0.length c0, .int .i64 a1, .int .i64 a2] w fun e w' => e = .returned (.bool r) ∧ Below w.heap.size w w' := by
  have HR0 := Aside0.mk hr0
  have HC0 := Aside0.mk hc0
  clear hr0 hc0
  have HB := Aside0.mk (Below.refl w.heap.size w)
  have H : (if (l0.length : Int) > 100 then (signalboxlaw41_MatrixPlans.j0 k l0 a1 a2 true) else (if a1 > 300 then (signalboxlaw41_MatrixPlans.j0 k l0 a1 a2 (decide (a1 ≤ 1000))) else (signalboxlaw41_MatrixPlans.j0 k l0 a1 a2 false))) = some r := h
  clear h
  have HC4 := Aside0.mk H
  clear H
  go_enter Try.func7, Try.ntmps7
  go_upto_region 1 with (fail)
  go_cut [25] (fun v25 wc => ∃ (kq : Nat) (x25_3 : Bool), v25 = .bool x25_3 ∧ Aside0 (signalboxlaw41_MatrixPlans.j0 kq l0 a1 a2 x25_3 = some r) ∧ Aside0 (kq ≤ k) ∧ Aside0 (Below w.heap.size w wc))
  case first =>
    have H := HC4.out
    clear HC4
    by_cases c5 : (l0.length : Int) > 100
    · rw [if_pos c5] at H
      have c5b0 : decide (100 < (l0.length : Int)) = true := decide_eq_true c5
      have c5b1 : decide (100 < l0.length) = true := decide_eq_true (by omega)
      clear c5
      (first | rw [c5b0] | (simp only [i64_w, i32_w]; rw [c5b0]) | skip)
      have H' := Aside0.mk H
      clear H
      go_wp2
      go_meet
      case rel => exact ⟨_, (true), (by first | rfl | (simp; done) | (simp [*]; done)), H', ⟨by first | omega | exact Nat.le_refl _⟩, ⟨by repeat (first | (with_reducible first | exact HB.out | apply below_alloc | apply pw_below_drewN | apply below_drew1) | exact HB.out)⟩⟩
    · rw [if_neg c5] at H
      have c5b0 : decide (100 < (l0.length : Int)) = false := decide_eq_false c5
      have c5b1 : decide (100 < l0.length) = false := decide_eq_false (by omega)
      clear c5
      (first | rw [c5b0] | (simp only [i64_w, i32_w]; rw [c5b0]) | skip)
      by_cases c6 : a1 > 300
      · rw [if_pos c6] at H
        have c6b0 : decide (300 < a1) = true := decide_eq_true c6
        clear c6
        have H' := Aside0.mk H
        clear H
        go_wp2
        go_meet
        case rel => exact ⟨_, (decide (a1 ≤ 1000)), (by first | rfl | (simp; done) | (simp [*]; done)), H', ⟨by first | omega | exact Nat.le_refl _⟩, ⟨by repeat (first | (with_reducible first | exact HB.out | apply below_alloc | apply pw_below_drewN | apply below_drew1) | exact HB.out)⟩⟩
      · rw [if_neg c6] at H
        have c6b0 : decide (300 < a1) = false := decide_eq_false c6
        clear c6
        have H' := Aside0.mk H
        clear H
        go_wp2
        go_meet
        case rel => exact ⟨_, (false), (by first | rfl | (simp; done) | (simp [*]; done)), H', ⟨by first | omega | exact Nat.le_refl _⟩, ⟨by repeat (first | (with_reducible first | exact HB.out | apply below_alloc | apply pw_below_drewN | apply below_drew1) | exact HB.out)⟩⟩
  case rest =>
    clear HC4
    try clear p2
    try clear c5
    try clear c5b0
    try clear c5b1
    try clear c6
    try clear c6b0
    try clear HA
    try clear HJ3
    try clear HB
    obtain ⟨kq, x25_3, rfl, HA, HJ3, HB⟩ := hcut
    cases kq with
    | zero => exact absurd HA.out (by simp [signalboxlaw41_MatrixPlans.j0])
    | succ kj3 =>
      have H := HA.out
      clear HA
      simp only [signalboxlaw41_MatrixPlans.j0] at H
      by_cases c7 : x25_3 = true
      · subst c7
        have H1 : ((signalboxlaw41_alive.f kj3).bind fun t186 => (some t186)) = some r := by rw [if_pos rfl] at H; exact H
        clear H
        have H := H1
        clear H1
        replace H := Option.bind_eq_some_iff.mp H
        obtain ⟨t186, A80, H⟩ := H
        replace H : (some t186) = some r := H
        have A8 := Aside0.mk A80
        clear A80
        obtain rfl := Option.some.inj H
        go_wp2_with (first | ((with_reducible refine gate_callee (f := 9) rfl ?_); refine goesL_ (some 26) rfl rfl Try.func9 (by kernel_rfl) rfl #[] rfl (by (try simp only [List.map_toArray, List.map_cons, List.map_nil]); first | done | rfl | (simp only [List.length_drop, List.length_take]; rfl)) ?_; (with_reducible refine (signalboxlaw41_alive.calls kj3  t186 _ A8.out).mono ?_); rintro e w9 ⟨rfl, hb⟩; refine ⟨_, rfl, ?_⟩; have n0_ := Aside0.mk (below_step (by repeat (first | (with_reducible first | exact HB.out | apply below_alloc | apply pw_below_drewN | apply below_drew1) | exact HB.out)) hb); clear HB; have HB := n0_; clear n0_; (try clear hb); (try clear hb2); (try clear hk); (try clear hi)))
        go_ret
        exact ⟨by first | rfl | (simp [errW_none, errW_some] <;> rfl) | (simp [*, errW_none, errW_some] <;> rfl), by repeat (first | (with_reducible first | exact HB.out | apply below_alloc | apply pw_below_drewN | apply below_drew1) | exact HB.out)⟩
      · replace c7 := Bool.eq_false_iff.mpr c7
        subst c7
        have H1 : ((matrix_Who.f kj3 l0 a2).bind fun t187 => ((signalboxref41_Who.f kj3 l0 a2).bind fun t190 => ((signalboxref09_Ints.f kj3 t187 t190).bind fun t193 => (if t193 = true then ((matrix_Plan.f kj3 l0 a1).bind fun bt194 => ((matrix_Free.f kj3 l0 a1).bind fun bt198 => ((signalboxref41_Right.f kj3 l0).bind fun t200 => (if t200 = 0 then (if a1 < 0 then (signalboxlaw41_MatrixPlans.j1 kj3 l0 a1 bt194.1 bt194.2 bt198.1 bt198.2 t200 true) else (signalboxlaw41_MatrixPlans.j1 kj3 l0 a1 bt194.1 bt194.2 bt198.1 bt198.2 t200 (decide (a1 > 1000)))) else (signalboxlaw41_MatrixPlans.j1 kj3 l0 a1 bt194.1 bt194.2 bt198.1 bt198.2 t200 false))))) else (some false))))) = some r := by rw [if_neg (show ¬ (false = true) by decide)] at H; exact H
        clear H
        have H := H1
        clear H1
        replace H := Option.bind_eq_some_iff.mp H
        obtain ⟨t187, A100, H⟩ := H
        replace H : ((signalboxref41_Who.f kj3 l0 a2).bind fun t190 => ((signalboxref09_Ints.f kj3 t187 t190).bind fun t193 => (if t193 = true then ((matrix_Plan.f kj3 l0 a1).bind fun bt194 => ((matrix_Free.f kj3 l0 a1).bind fun bt198 => ((signalboxref41_Right.f kj3 l0).bind fun t200 => (if t200 = 0 then (if a1 < 0 then (signalboxlaw41_MatrixPlans.j1 kj3 l0 a1 bt194.1 bt194.2 bt198.1 bt198.2 t200 true) else (signalboxlaw41_MatrixPlans.j1 kj3 l0 a1 bt194.1 bt194.2 bt198.1 bt198.2 t200 (decide (a1 > 1000)))) else (signalboxlaw41_MatrixPlans.j1 kj3 l0 a1 bt194.1 bt194.2 bt198.1 bt198.2 t200 false))))) else (some false)))) = some r := H
        have A10 := Aside0.mk A100
        clear A100
        replace H := Option.bind_eq_some_iff.mp H
        obtain ⟨t190, A110, H⟩ := H
        replace H : ((signalboxref09_Ints.f kj3 t187 t190).bind fun t193 => (if t193 = true then ((matrix_Plan.f kj3 l0 a1).bind fun bt194 => ((matrix_Free.f kj3 l0 a1).bind fun bt198 => ((signalboxref41_Right.f kj3 l0).bind fun t200 => (if t200 = 0 then (if a1 < 0 then (signalboxlaw41_MatrixPlans.j1 kj3 l0 a1 bt194.1 bt194.2 bt198.1 bt198.2 t200 true) else (signalboxlaw41_MatrixPlans.j1 kj3 l0 a1 bt194.1 bt194.2 bt198.1 bt198.2 t200 (decide (a1 > 1000)))) else (signalboxlaw41_MatrixPlans.j1 kj3 l0 a1 bt194.1 bt194.2 bt198.1 bt198.2 t200 false))))) else (some false))) = some r := H
        have A11 := Aside0.mk A110
        clear A110
        replace H := Option.bind_eq_some_iff.mp H
        obtain ⟨t193, A120, H⟩ := H
        replace H : (if t193 = true then ((matrix_Plan.f kj3 l0 a1).bind fun bt194 => ((matrix_Free.f kj3 l0 a1).bind fun bt198 => ((signalboxref41_Right.f kj3 l0).bind fun t200 => (if t200 = 0 then (if a1 < 0 then (signalboxlaw41_MatrixPlans.j1 kj3 l0 a1 bt194.1 bt194.2 bt198.1 bt198.2 t200 true) else (signalboxlaw41_MatrixPlans.j1 kj3 l0 a1 bt194.1 bt194.2 bt198.1 bt198.2 t200 (decide (a1 > 1000)))) else (signalboxlaw41_MatrixPlans.j1 kj3 l0 a1 bt194.1 bt194.2 bt198.1 bt198.2 t200 false))))) else (some false)) = some r := H
        have A12 := Aside0.mk A120
        clear A120
        by_cases c13 : t193 = true
        · subst c13
          have H1 : ((matrix_Plan.f kj3 l0 a1).bind fun bt194 => ((matrix_Free.f kj3 l0 a1).bind fun bt198 => ((signalboxref41_Right.f kj3 l0).bind fun t200 => (if t200 = 0 then (if a1 < 0 then (signalboxlaw41_MatrixPlans.j1 kj3 l0 a1 bt194.1 bt194.2 bt198.1 bt198.2 t200 true) else (signalboxlaw41_MatrixPlans.j1 kj3 l0 a1 bt194.1 bt194.2 bt198.1 bt198.2 t200 (decide (a1 > 1000)))) else (signalboxlaw41_MatrixPlans.j1 kj3 l0 a1 bt194.1 bt194.2 bt198.1 bt198.2 t200 false))))) = some r := by rw [if_pos rfl] at H; exact H
          clear H
          have H := H1
          clear H1
          replace H := Option.bind_eq_some_iff.mp H
          obtain ⟨⟨t194, t195⟩, A140, H⟩ := H
          replace H : ((matrix_Free.f kj3 l0 a1).bind fun bt198 => ((signalboxref41_Right.f kj3 l0).bind fun t200 => (if t200 = 0 then (if a1 < 0 then (signalboxlaw41_MatrixPlans.j1 kj3 l0 a1 t194 t195 bt198.1 bt198.2 t200 true) else (signalboxlaw41_MatrixPlans.j1 kj3 l0 a1 t194 t195 bt198.1 bt198.2 t200 (decide (a1 > 1000)))) else (signalboxlaw41_MatrixPlans.j1 kj3 l0 a1 t194 t195 bt198.1 bt198.2 t200 false)))) = some r := H
          have A14 := Aside0.mk A140
          clear A140
          replace H := Option.bind_eq_some_iff.mp H
          obtain ⟨⟨t198, t199⟩, A150, H⟩ := H
          replace H : ((signalboxref41_Right.f kj3 l0).bind fun t200 => (if t200 = 0 then (if a1 < 0 then (signalboxlaw41_MatrixPlans.j1 kj3 l0 a1 t194 t195 t198 t199 t200 true) else (signalboxlaw41_MatrixPlans.j1 kj3 l0 a1 t194 t195 t198 t199 t200 (decide (a1 > 1000)))) else (signalboxlaw41_MatrixPlans.j1 kj3 l0 a1 t194 t195 t198 t199 t200 false))) = some r := H
          have A15 := Aside0.mk A150
          clear A150
          replace H := Option.bind_eq_some_iff.mp H
          obtain ⟨t200, A160, H⟩ := H
          replace H : (if t200 = 0 then (if a1 < 0 then (signalboxlaw41_MatrixPlans.j1 kj3 l0 a1 t194 t195 t198 t199 t200 true) else (signalboxlaw41_MatrixPlans.j1 kj3 l0 a1 t194 t195 t198 t199 t200 (decide (a1 > 1000)))) else (signalboxlaw41_MatrixPlans.j1 kj3 l0 a1 t194 t195 t198 t199 t200 false)) = some r := H
          have A16 := Aside0.mk A160
          clear A160
          have HC17 := Aside0.mk H
          clear H
          go_upto_region 8 with (first | ((with_reducible refine gate_callee (f := 15) rfl ?_); refine goesL_ (some 29) rfl rfl Try.func15 (by kernel_rfl) rfl #[.slice A0 l0.length c0, .int .i64 a2] rfl (by (try simp only [List.map_toArray, List.map_cons, List.map_nil]); first | done | rfl | (simp only [List.length_drop, List.length_take]; rfl)) ?_; (with_reducible refine (matrix_Who.calls kj3 _ _ l0 a2 t187 _ ?side1 ?side2 A10.out).mono ?_); (case side1 => repeat (first | exact (Kd.C_below HR0.out HB.out) | (with_reducible refine Kd.C_alloc ?_ _) | (with_reducible refine Kd.C_drewN ?_ _) | (with_reducible refine Kd.C_drew ?_))); (case side2 => exact HC0.out); rintro e w18 ⟨v188, rfl, ho0, hb⟩; refine ⟨_, rfl, ?_⟩; have n0_ := Aside0.mk (Kd.R_lower ho0 (below_size (by repeat (first | (with_reducible first | exact HB.out | apply below_alloc | apply pw_below_drewN | apply below_drew1) | exact HB.out)))); have n1_ := Aside0.mk (below_step (by repeat (first | (with_reducible first | exact HB.out | apply below_alloc | apply pw_below_drewN | apply below_drew1) | exact HB.out)) hb); clear HB; have HO189 := n0_; have HB := n1_; clear n0_ n1_; (try clear hb); (try clear hb2); (try clear hk); (try clear hi); (try clear ho0)) | ((with_reducible refine gate_callee (f := 19) rfl ?_); refine goesL_ (some 32) rfl rfl Try.func19 (by kernel_rfl) rfl #[.slice A0 l0.length c0, .int .i64 a2] rfl (by (try simp only [List.map_toArray, List.map_cons, List.map_nil]); first | done | rfl | (simp only [List.length_drop, List.length_take]; rfl)) ?_; (with_reducible refine (signalboxref41_Who.calls kj3 _ _ l0 a2 t190 _ ?side1 ?side2 A11.out).mono ?_); (case side1 => repeat (first | exact (Kd.C_below HR0.out HB.out) | (with_reducible refine Kd.C_alloc ?_ _) | (with_reducible refine Kd.C_drewN ?_ _) | (with_reducible refine Kd.C_drew ?_))); (case side2 => exact HC0.out); rintro e w19 ⟨v191, rfl, ho0, hb⟩; refine ⟨_, rfl, ?_⟩; have n0_ := Aside0.mk (Kd.R_elder' (by (with_reducible repeat (first | apply Kd.R_alloc | apply Kd.R_drewN | apply Kd.R_drew)); exact HO189.out) (Kd.R_base ho0) hb); have n1_ := Aside0.mk (Kd.R_lower (Kd.R_new' ho0 (Kd.R_lt (by (with_reducible repeat (first | apply Kd.R_alloc | apply Kd.R_drewN | apply Kd.R_drew)); exact HO189.out))) (below_size (by repeat (first | (with_reducible first | exact HB.out | apply below_alloc | apply pw_below_drewN | apply below_drew1) | exact HB.out)))); have n2_ := Aside0.mk (below_step (by repeat (first | (with_reducible first | exact HB.out | apply below_alloc | apply pw_below_drewN | apply below_drew1) | exact HB.out)) hb); clear HO189; clear HB; have HO189 := n0_; have HO192 := n1_; have HB := n2_; clear n0_ n1_ n2_; (try clear hb); (try clear hb2); (try clear hk); (try clear hi); (try clear ho0); obtain ⟨Ao20, co20, eo20⟩ := Kd.R_slice HO189.out; subst eo20; obtain ⟨Ao21, co21, eo21⟩ := Kd.R_slice HO192.out; subst eo21) | ((with_reducible refine gate_callee (f := 16) rfl ?_); refine goesL_ (some 33) rfl rfl Try.func16 (by kernel_rfl) rfl #[.slice Ao20 t187.length co20, .slice Ao21 t190.length co21] rfl (by (try simp only [List.map_toArray, List.map_cons, List.map_nil]); first | done | rfl | (simp only [List.length_drop, List.length_take]; rfl)) ?_; (with_reducible refine (signalboxref09_Ints.calls kj3 _ _ t187 _ _ t190 true _ ?side1 ?side2 ?side3 ?side4 A12.out).mono ?_); (case side1 => repeat (first | exact (Kd.R_reads' HO189.out).2.2 | (with_reducible refine Kd.C_alloc ?_ _) | (with_reducible refine Kd.C_drewN ?_ _) | (with_reducible refine Kd.C_drew ?_))); (case side2 => exact (Kd.R_reads' HO189.out).2.1); (case side3 => repeat (first | exact (Kd.R_reads' HO192.out).2.2 | (with_reducible refine Kd.C_alloc ?_ _) | (with_reducible refine Kd.C_drewN ?_ _) | (with_reducible refine Kd.C_drew ?_))); (case side4 => exact (Kd.R_reads' HO192.out).2.1); rintro e w' ⟨rfl, ⟨nd, rfl⟩⟩; refine ⟨_, rfl, ?_⟩) | ((with_reducible refine gate_callee (f := 20) rfl ?_); refine goesL_ (some 38) rfl rfl Try.func20 (by kernel_rfl) rfl #[.slice A0 l0.length c0, .int .i64 a1] rfl (by (try simp only [List.map_toArray, List.map_cons, List.map_nil]); first | done | rfl | (simp only [List.length_drop, List.length_take]; rfl)) ?_; (with_reducible refine (matrix_Plan.calls kj3 _ _ l0 a1 t194 t195 _ ?side1 ?side2 A14.out).mono ?_); (case side1 => repeat (first | exact (Kd.C_below HR0.out (by repeat (first | (with_reducible first | exact HB.out | apply below_alloc | apply pw_below_drewN | apply below_drew1) | exact HB.out))) | (with_reducible refine Kd.C_alloc ?_ _) | (with_reducible refine Kd.C_drewN ?_ _) | (with_reducible refine Kd.C_drew ?_))); (case side2 => exact HC0.out); rintro e w22 ⟨v196, rfl, ho0, hb⟩; refine ⟨_, rfl, ?_⟩; have n0_ := Aside0.mk (Kd.R_below (by (with_reducible repeat (first | apply Kd.R_alloc | apply Kd.R_drewN | apply Kd.R_drew)); exact HO189.out) hb); have n1_ := Aside0.mk (Kd.R_below (by (with_reducible repeat (first | apply Kd.R_alloc | apply Kd.R_drewN | apply Kd.R_drew)); exact HO192.out) hb); have n2_ := Aside0.mk (Kd.S_lower (Kd.S_new' (Kd.S_new' ho0 (Kd.R_lt (by (with_reducible repeat (first | apply Kd.R_alloc | apply Kd.R_drewN | apply Kd.R_drew)); exact HO189.out))) (Kd.R_lt (by (with_reducible repeat (first | apply Kd.R_alloc | apply Kd.R_drewN | apply Kd.R_drew)); exact HO192.out))) (below_size (by repeat (first | (with_reducible first | exact HB.out | apply below_alloc | apply pw_below_drewN | apply below_drew1) | exact HB.out)))); have n3_ := Aside0.mk (below_step (by repeat (first | (with_reducible first | exact HB.out | apply below_alloc | apply pw_below_drewN | apply below_drew1) | exact HB.out)) hb); clear HO189; clear HO192; clear HB; have HO189 := n0_; have HO192 := n1_; have HO197 := n2_; have HB := n3_; clear n0_ n1_ n2_ n3_; (try clear hb); (try clear hb2); (try clear hk); (try clear hi); (try clear ho0)) | ((with_reducible refine gate_callee (f := 21) rfl ?_); refine goesL_ (some 44) rfl rfl Try.func21 (by kernel_rfl) rfl #[.slice A0 l0.length c0, .int .i64 a1] rfl (by (try simp only [List.map_toArray, List.map_cons, List.map_nil]); first | done | rfl | (simp only [List.length_drop, List.length_take]; rfl)) ?_; (with_reducible refine (matrix_Free.calls kj3 _ _ l0 a1 t198 t199 _ ?side1 ?side2 A15.out).mono ?_); (case side1 => repeat (first | exact (Kd.C_below HR0.out HB.out) | (with_reducible refine Kd.C_alloc ?_ _) | (with_reducible refine Kd.C_drewN ?_ _) | (with_reducible refine Kd.C_drew ?_))); (case side2 => exact HC0.out); rintro e w23 ⟨rfl, hb⟩; refine ⟨_, rfl, ?_⟩; have n0_ := Aside0.mk (Kd.R_below (by (with_reducible repeat (first | apply Kd.R_alloc | apply Kd.R_drewN | apply Kd.R_drew)); exact HO189.out) hb); have n1_ := Aside0.mk (Kd.R_below (by (with_reducible repeat (first | apply Kd.R_alloc | apply Kd.R_drewN | apply Kd.R_drew)); exact HO192.out) hb); have n2_ := Aside0.mk (Kd.S_below (by (with_reducible repeat (first | apply Kd.S_alloc | apply Kd.S_drewN | apply Kd.S_drew)); exact HO197.out) hb); have n3_ := Aside0.mk (below_step (by repeat (first | (with_reducible first | exact HB.out | apply below_alloc | apply pw_below_drewN | apply below_drew1) | exact HB.out)) hb); clear HO189; clear HO192; clear HO197; clear HB; have HO189 := n0_; have HO192 := n1_; have HO197 := n2_; have HB := n3_; clear n0_ n1_ n2_ n3_; (try clear hb); (try clear hb2); (try clear hk); (try clear hi)) | ((with_reducible refine gate_callee (f := 13) rfl ?_); refine goesL_ (some 48) rfl rfl Try.func13 (by kernel_rfl) rfl #[.slice A0 l0.length c0] rfl (by (try simp only [List.map_toArray, List.map_cons, List.map_nil]); first | done | rfl | (simp only [List.length_drop, List.length_take]; rfl)) ?_; (with_reducible refine (signalboxref41_Right.calls kj3 _ _ l0 t200 _ ?side1 ?side2 A16.out).mono ?_); (case side1 => repeat (first | exact (Kd.C_below HR0.out HB.out) | (with_reducible refine Kd.C_alloc ?_ _) | (with_reducible refine Kd.C_drewN ?_ _) | (with_reducible refine Kd.C_drew ?_))); (case side2 => exact HC0.out); rintro e w24 ⟨rfl, hb⟩; refine ⟨_, rfl, ?_⟩; have n0_ := Aside0.mk (Kd.R_below (by (with_reducible repeat (first | apply Kd.R_alloc | apply Kd.R_drewN | apply Kd.R_drew)); exact HO189.out) hb); have n1_ := Aside0.mk (Kd.R_below (by (with_reducible repeat (first | apply Kd.R_alloc | apply Kd.R_drewN | apply Kd.R_drew)); exact HO192.out) hb); have n2_ := Aside0.mk (Kd.S_below (by (with_reducible repeat (first | apply Kd.S_alloc | apply Kd.S_drewN | apply Kd.S_drew)); exact HO197.out) hb); have n3_ := Aside0.mk (below_step (by repeat (first | (with_reducible first | exact HB.out | apply below_alloc | apply pw_below_drewN | apply below_drew1) | exact HB.out)) hb); clear HO189; clear HO192; clear HO197; clear HB; have HO189 := n0_; have HO192 := n1_; have HO197 := n2_; have HB := n3_; clear n0_ n1_ n2_ n3_; (try clear hb); (try clear hb2); (try clear hk); (try clear hi)))
          (try simp only [Act.put, List.setIfInBounds_toArray, List.set_cons_zero, List.set_cons_succ])
          go_cut [58] (fun v58 wc => ∃ (kq : Nat) (x58_16 : Bool), v58 = .bool x58_16 ∧ Aside0 (signalboxlaw41_MatrixPlans.j1 kq l0 a1 t194 t195 t198 t199 t200 x58_16 = some r) ∧ Aside0 (kq ≤ kj3) ∧ Aside0 (Kd.S (Kd.slice 3 (Kd.int .i64)) 34 wc w.heap.size (fun _ => True) v196 t194) ∧ Aside0 (Below w.heap.size w wc))
          case first =>
            have H := HC17.out
            clear HC17
            by_cases c25 : t200 = 0
            · rw [if_pos c25] at H
              have c25b0 : (t200 == 0) = true := beq_iff_eq.mpr c25
              have c25b1 : (t200 != 0) = false := bne_eq_false_iff_eq.mpr c25
              clear c25
              (first | rw [c25b0] | (simp only [i64_w, i32_w]; rw [c25b0]) | skip)
              by_cases c26 : a1 < 0
              · rw [if_pos c26] at H
                have c26b0 : decide (a1 < 0) = true := decide_eq_true c26
                clear c26
                have H' := Aside0.mk H
                clear H
                go_wp2
                go_meet
                case rel => exact ⟨_, (true), (by first | rfl | (simp; done) | (simp [*]; done)), H', ⟨by have := HJ3.out; first | omega | exact Nat.le_refl _⟩, ⟨by (with_reducible repeat (first | apply Kd.S_alloc | apply Kd.S_drewN | apply Kd.S_drew)); exact Kd.S_mono HO197.out (fun _ hk => trivial)⟩, ⟨by repeat (first | (with_reducible first | exact HB.out | apply below_alloc | apply pw_below_drewN | apply below_drew1) | exact HB.out)⟩⟩
              · rw [if_neg c26] at H
                have c26b0 : decide (a1 < 0) = false := decide_eq_false c26
                clear c26
                have H' := Aside0.mk H
                clear H
                go_wp2
                go_meet
                case rel => exact ⟨_, (decide (a1 > 1000)), (by first | rfl | (simp; done) | (simp [*]; done)), H', ⟨by have := HJ3.out; first | omega | exact Nat.le_refl _⟩, ⟨by (with_reducible repeat (first | apply Kd.S_alloc | apply Kd.S_drewN | apply Kd.S_drew)); exact Kd.S_mono HO197.out (fun _ hk => trivial)⟩, ⟨by repeat (first | (with_reducible first | exact HB.out | apply below_alloc | apply pw_below_drewN | apply below_drew1) | exact HB.out)⟩⟩
            · rw [if_neg c25] at H
              have c25b0 : (t200 == 0) = false := beq_eq_false_iff_ne.mpr c25
              have c25b1 : (t200 != 0) = true := bne_iff_ne.mpr c25
              (first | rw [c25b0] | (simp only [i64_w, i32_w]; rw [c25b0]) | skip)
              have H' := Aside0.mk H
              clear H
              go_wp2
              go_meet
              case rel => exact ⟨_, (false), (by first | rfl | (simp; done) | (simp [*]; done)), H', ⟨by have := HJ3.out; first | omega | exact Nat.le_refl _⟩, ⟨by (with_reducible repeat (first | apply Kd.S_alloc | apply Kd.S_drewN | apply Kd.S_drew)); exact Kd.S_mono HO197.out (fun _ hk => trivial)⟩, ⟨by repeat (first | (with_reducible first | exact HB.out | apply below_alloc | apply pw_below_drewN | apply below_drew1) | exact HB.out)⟩⟩
          case rest =>
            clear HC17
            try clear c1
            try clear c2
            try clear p2
            try clear c5
            try clear c5b0
            try clear c5b1
            try clear c6
            try clear c6b0
            try clear c7
            try clear c9
            try clear c13
            try clear c15
            try clear c16
            try clear c19
            try clear c20
            try clear c21
            try clear c25
            try clear c25b0
            try clear c25b1
            try clear c26
            try clear c26b0
            try clear p2
            try clear HA
            try clear HJ16
            try clear HO_7
            try clear HB
            obtain ⟨kq, x58_16, rfl, HA, HJ16, HO_7, HB⟩ := hcut
            cases kq with
            | zero => exact absurd HA.out (by simp [signalboxlaw41_MatrixPlans.j1])
            | succ kj16 =>
              have H := HA.out
              clear HA
              simp only [signalboxlaw41_MatrixPlans.j1] at H
              have HC27 := Aside0.mk H
              clear H
              go_upto_if 58 with (fail)
              go_cut [11] (fun v11 wc => ∃ (kq : Nat) (x11_26 : Int), v11 = .int .i64 x11_26 ∧ Aside0 (signalboxlaw41_MatrixPlans.j2 kq l0 a1 t194 t195 t198 t199 x11_26 = some r) ∧ Aside0 (kq ≤ kj16) ∧ Aside0 (Kd.S (Kd.slice 3 (Kd.int .i64)) 34 wc w.heap.size (fun _ => True) v196 t194) ∧ Aside0 (Below w.heap.size w wc))
              case first =>
                have H := HC27.out
                clear HC27
                by_cases c28 : x58_16 = true
                · subst c28
                  have H1 : (signalboxlaw41_MatrixPlans.j2 kj16 l0 a1 t194 t195 t198 t199 2) = some r := by rw [if_pos rfl] at H; exact H
                  clear H
                  have H := H1
                  clear H1
                  have H' := Aside0.mk H
                  clear H
                  go_wp2
                  go_meet
                  case rel => exact ⟨_, (2), (by first | rfl | (simp; done) | (simp [*]; done)), H', ⟨by have := HJ3.out; have := HJ16.out; first | omega | exact Nat.le_refl _⟩, ⟨by (with_reducible repeat (first | apply Kd.S_alloc | apply Kd.S_drewN | apply Kd.S_drew)); exact HO_7.out⟩, ⟨by repeat (first | (with_reducible first | exact HB.out | apply below_alloc | apply pw_below_drewN | apply below_drew1) | exact HB.out)⟩⟩
                · replace c28 := Bool.eq_false_iff.mpr c28
                  subst c28
                  have H1 : (signalboxlaw41_MatrixPlans.j2 kj16 l0 a1 t194 t195 t198 t199 t200) = some r := by rw [if_neg (show ¬ (false = true) by decide)] at H; exact H
                  clear H
                  have H := H1
                  clear H1
                  have H' := Aside0.mk H
                  clear H
                  go_wp2
                  go_meet
                  case rel => exact ⟨_, (t200), (by first | rfl | (simp; done) | (simp [*]; done)), H', ⟨by have := HJ3.out; have := HJ16.out; first | omega | exact Nat.le_refl _⟩, ⟨by (with_reducible repeat (first | apply Kd.S_alloc | apply Kd.S_drewN | apply Kd.S_drew)); exact HO_7.out⟩, ⟨by repeat (first | (with_reducible first | exact HB.out | apply below_alloc | apply pw_below_drewN | apply below_drew1) | exact HB.out)⟩⟩
              case rest =>
                clear HC27
                try clear c1
                try clear c2
                try clear p2
                try clear c5
                try clear c5b0
                try clear c5b1
                try clear c6
                try clear c6b0
                try clear c7
                try clear c9
                try clear c13
                try clear c15
                try clear c16
                try clear c19
                try clear c20
                try clear c21
                try clear c25
                try clear c25b0
                try clear c25b1
                try clear c26
                try clear c26b0
                try clear c28
                try clear p2
                try clear HA
                try clear HJ26
                try clear HO_7
                try clear HB
                obtain ⟨kq, x11_26, rfl, HA, HJ26, HO_7, HB⟩ := hcut
                cases kq with
                | zero => exact absurd HA.out (by simp [signalboxlaw41_MatrixPlans.j2])
                | succ kj26 =>
                  have H := HA.out
                  clear HA
                  simp only [signalboxlaw41_MatrixPlans.j2] at H
                  have HC29 := Aside0.mk H
                  clear H
                  go_upto_region 10 with (fail)
                  go_cut [66] (fun v66 wc => ∃ (kq : Nat) (x66_28 : Bool), v66 = .bool x66_28 ∧ Aside0 (signalboxlaw41_MatrixPlans.j3 kq l0 a1 t194 t198 x11_26 x66_28 = some r) ∧ Aside0 (kq ≤ kj26) ∧ Aside0 (Kd.S (Kd.slice 3 (Kd.int .i64)) 34 wc w.heap.size (fun _ => True) v196 t194) ∧ Aside0 (Below w.heap.size w wc))
                  case first =>
                    have H := HC29.out
                    clear HC29
                    by_cases c30 : t195 = x11_26
                    · rw [if_pos c30] at H
                      have c30b0 : (t195 == x11_26) = true := beq_iff_eq.mpr c30
                      have c30b1 : (t195 != x11_26) = false := bne_eq_false_iff_eq.mpr c30
                      clear c30
                      (first | rw [c30b0] | (simp only [i64_w, i32_w]; rw [c30b0]) | skip)
                      have H' := Aside0.mk H
                      clear H
                      go_wp2
                      go_meet
                      case rel => exact ⟨_, ((t199 != x11_26)), (by first | rfl | (simp; done) | (simp [*]; done)), H', ⟨by have := HJ3.out; have := HJ16.out; have := HJ26.out; first | omega | exact Nat.le_refl _⟩, ⟨by (with_reducible repeat (first | apply Kd.S_alloc | apply Kd.S_drewN | apply Kd.S_drew)); exact HO_7.out⟩, ⟨by repeat (first | (with_reducible first | exact HB.out | apply below_alloc | apply pw_below_drewN | apply below_drew1) | exact HB.out)⟩⟩
                    · rw [if_neg c30] at H
                      have c30b0 : (t195 == x11_26) = false := beq_eq_false_iff_ne.mpr c30
                      have c30b1 : (t195 != x11_26) = true := bne_iff_ne.mpr c30
                      (first | rw [c30b0] | (simp only [i64_w, i32_w]; rw [c30b0]) | skip)
                      have H' := Aside0.mk H
                      clear H
                      go_wp2
                      go_meet
                      case rel => exact ⟨_, (true), (by first | rfl | (simp; done) | (simp [*]; done)), H', ⟨by have := HJ3.out; have := HJ16.out; have := HJ26.out; first | omega | exact Nat.le_refl _⟩, ⟨by (with_reducible repeat (first | apply Kd.S_alloc | apply Kd.S_drewN | apply Kd.S_drew)); exact HO_7.out⟩, ⟨by repeat (first | (with_reducible first | exact HB.out | apply below_alloc | apply pw_below_drewN | apply below_drew1) | exact HB.out)⟩⟩
                  case rest =>
                    clear HC29
                    try clear c1
                    try clear c2
                    try clear p2
                    try clear c3
                    try clear c5
                    try clear c5b0
                    try clear c5b1
                    try clear c6
                    try clear c6b0
                    try clear c7
                    try clear c9
                    try clear c13
                    try clear c15
                    try clear c16
                    try clear c19
                    try clear c20
                    try clear c21
                    try clear c25
                    try clear c25b0
                    try clear c25b1
                    try clear c26
                    try clear c26b0
                    try clear c28
                    try clear c30
                    try clear c30b0
                    try clear c30b1
                    try clear p2
                    try clear HA
                    try clear HJ28
                    try clear HO_7
                    try clear HB
                    obtain ⟨kq, x66_28, rfl, HA, HJ28, HO_7, HB⟩ := hcut
                    cases kq with
                    | zero => exact absurd HA.out (by simp [signalboxlaw41_MatrixPlans.j3])
                    | succ kj28 =>
                      have H := HA.out
                      clear HA
                      simp only [signalboxlaw41_MatrixPlans.j3] at H
                      by_cases c31 : x66_28 = true
                      · subst c31
                        have H1 : (some false) = some r := by rw [if_pos rfl] at H; exact H
                        clear H
                        have H := H1
                        clear H1
                        obtain rfl := Option.some.inj H
                        go_wp2
                        go_ret
                        exact ⟨by first | rfl | (simp [errW_none, errW_some] <;> rfl) | (simp [*, errW_none, errW_some] <;> rfl), by repeat (first | (with_reducible first | exact HB.out | apply below_alloc | apply pw_below_drewN | apply below_drew1) | exact HB.out)⟩
                      · replace c31 := Bool.eq_false_iff.mpr c31
                        subst c31
                        have H1 : (if x11_26 = 0 then (signalboxlaw41_MatrixPlans.l0 kj28 l0 a1 t194 t198 0 a1 0) else (if (t194.length : Int) = 0 then (if t198 = 0 then ((signalboxlaw41_alive.f kj28).bind fun t201 => (some t201)) else (some false)) else (some false))) = some r := by rw [if_neg (show ¬ (false = true) by decide)] at H; exact H
                        clear H
                        have H := H1
                        clear H1
                        by_cases c32 : x11_26 = 0
                        · rw [if_pos c32] at H
                          have c32b0 : (x11_26 == 0) = true := beq_iff_eq.mpr c32
                          have c32b1 : (x11_26 != 0) = false := bne_eq_false_iff_eq.mpr c32
                          clear c32
                          have H' := Aside0.mk H
                          clear H
                          go_wp2
                          go_loopg [12, 80] kj28 (fun kq v12 v80 w' => ∃ (x12_5 : Int) (x80_5 : Int), v12 = .int .i64 x12_5 ∧ v80 = .int .i64 x80_5 ∧ Aside0 (signalboxlaw41_MatrixPlans.l0 kq l0 a1 t194 t198 x12_5 a1 x80_5 = some r) ∧ Aside0 (kq ≤ kj28) ∧ Aside0 (Kd.S (Kd.slice 3 (Kd.int .i64)) 34 w' w.heap.size (fun _ => True) v196 t194) ∧ Aside0 (Below w.heap.size w w'))
                          case atStart => exact ⟨(0), (0), (by first | rfl | (simp; done) | (simp [*]; done)), (by first | rfl | (simp; done) | (simp [*]; done)), H', ⟨Nat.le_refl _⟩, ⟨by (with_reducible repeat (first | apply Kd.S_alloc | apply Kd.S_drewN | apply Kd.S_drew)); exact HO_7.out⟩, ⟨by repeat (first | (with_reducible first | exact HB.out | apply below_alloc | apply pw_below_drewN | apply below_drew1) | exact HB.out)⟩⟩
                          case round =>
                            clear H'
                            try clear c1
                            try clear c2
                            try clear p2
                            try clear c3
                            try clear c5
                            try clear c5b0
                            try clear c5b1
                            try clear c6
                            try clear c6b0
                            try clear c7
                            try clear c9
                            try clear c13
                            try clear c15
                            try clear c16
                            try clear c19
                            try clear c20
                            try clear c21
                            try clear c25
                            try clear c25b0
                            try clear c25b1
                            try clear c26
                            try clear c26b0
                            try clear c28
                            try clear c30
                            try clear c30b0
                            try clear c30b1
                            try clear c31
                            try clear c32
                            try clear c32b0
                            try clear c32b1
                            try clear p2
                            obtain ⟨x12_5, x80_5, rfl, rfl, HA, HK5, HO_7, HB⟩ := hrel
                            cases gk with
                            | zero => exact absurd HA.out (by simp [signalboxlaw41_MatrixPlans.l0])
                            | succ k5 =>
                              have H := HA.out
                              clear HA
                              simp only [signalboxlaw41_MatrixPlans.l0] at H
                              by_cases c33 : x80_5 < a1
                              · rw [if_pos c33] at H
                                have c33b0 : decide (x80_5 < a1) = true := decide_eq_true c33
                                clear c33
                                replace H := Option.bind_eq_some_iff.mp H
                                obtain ⟨t203, A340, H⟩ := H
                                replace H : (if x80_5 ≥ (t194.length : Int) then (signalboxlaw41_MatrixPlans.j5 k5 l0 a1 t194 t198 x12_5 t203 a1 x80_5 true) else (if 0 ≤ x80_5 then (if x80_5 < (t194.length : Int) then ((signalboxref09_Ints.f k5 (rd_L4 t194 x80_5) t203).bind fun t207 => (signalboxlaw41_MatrixPlans.j5 k5 l0 a1 t194 t198 x12_5 t203 a1 x80_5 (!t207))) else (none)) else (none))) = some r := H
                                have A34 := Aside0.mk A340
                                clear A340
                                have HC35 := Aside0.mk H
                                clear H
                                go_upto_region 19 with (first | ((with_reducible refine gate_callee (f := 19) rfl ?_); refine goesL_ (some 85) rfl rfl Try.func19 (by kernel_rfl) rfl #[.slice A0 l0.length c0, .int .i64 x80_5] rfl (by (try simp only [List.map_toArray, List.map_cons, List.map_nil]); first | done | rfl | (simp only [List.length_drop, List.length_take]; rfl)) ?_; (with_reducible refine (signalboxref41_Who.calls k5 _ _ l0 x80_5 t203 _ ?side1 ?side2 A34.out).mono ?_); (case side1 => repeat (first | exact (Kd.C_below HR0.out HB.out) | (with_reducible refine Kd.C_alloc ?_ _) | (with_reducible refine Kd.C_drewN ?_ _) | (with_reducible refine Kd.C_drew ?_))); (case side2 => exact HC0.out); rintro e w36 ⟨v204, rfl, ho0, hb⟩; refine ⟨_, rfl, ?_⟩; have n0_ := Aside0.mk (Kd.S_elder' (by (with_reducible repeat (first | apply Kd.S_alloc | apply Kd.S_drewN | apply Kd.S_drew)); exact HO_7.out) (Kd.R_base ho0) hb); have n1_ := Aside0.mk (Kd.R_lower ho0 (below_size (by repeat (first | (with_reducible first | exact HB.out | apply below_alloc | apply pw_below_drewN | apply below_drew1) | exact HB.out)))); have n2_ := Aside0.mk (below_step (by repeat (first | (with_reducible first | exact HB.out | apply below_alloc | apply pw_below_drewN | apply below_drew1) | exact HB.out)) hb); clear HO_7; clear HB; have HO_7 := n0_; have HO205 := n1_; have HB := n2_; clear n0_ n1_ n2_; (try clear hb); (try clear hb2); (try clear hk); (try clear hi); (try clear ho0)))
                                (try simp only [Act.put, List.setIfInBounds_toArray, List.set_cons_zero, List.set_cons_succ])
                                go_cut [98] (fun v98 wc => ∃ (kq : Nat) (x98_34 : Bool), v98 = .bool x98_34 ∧ Aside0 (signalboxlaw41_MatrixPlans.j5 kq l0 a1 t194 t198 x12_5 t203 a1 x80_5 x98_34 = some r) ∧ Aside0 (kq ≤ k5) ∧ Aside0 (Kd.S (Kd.slice 3 (Kd.int .i64)) 34 wc w.heap.size (fun k_ => some k_ ≠ (v204 : Value).ownBlock) v196 t194) ∧ Aside0 (Kd.R (Kd.int .i64) 3 wc w.heap.size (fun _ => True) v204 t203) ∧ Aside0 (Below w.heap.size w wc))
                                case first =>
                                  have H := HC35.out
                                  clear HC35
                                  by_cases c37 : x80_5 ≥ (t194.length : Int)
                                  · rw [if_pos c37] at H
                                    have c37b0 : decide ((t194.length : Int) ≤ x80_5) = true := decide_eq_true c37
                                    clear c37
                                    (first | rw [c37b0] | (simp only [i64_w, i32_w]; rw [c37b0]) | skip)
                                    have H' := Aside0.mk H
                                    clear H
                                    obtain ⟨Ao38, co38, eo38⟩ := Kd.S_slice HO_7.out
                                    subst eo38
                                    go_wp2
                                    go_meet
                                    case rel => exact ⟨_, (true), (by first | rfl | (simp; done) | (simp [*]; done)), H', ⟨by have := HJ3.out; have := HJ16.out; have := HJ26.out; have := HJ28.out; have := HK5.out; first | omega | exact Nat.le_refl _⟩, ⟨by (with_reducible repeat (first | apply Kd.S_alloc | apply Kd.S_drewN | apply Kd.S_drew)); exact Kd.S_mono HO_7.out (fun _ hk => hk.2)⟩, ⟨by (with_reducible repeat (first | apply Kd.R_alloc | apply Kd.R_drewN | apply Kd.R_drew)); exact HO205.out⟩, ⟨by repeat (first | (with_reducible first | exact HB.out | apply below_alloc | apply pw_below_drewN | apply below_drew1) | exact HB.out)⟩⟩
                                  · rw [if_neg c37] at H
                                    have c37b0 : decide ((t194.length : Int) ≤ x80_5) = false := decide_eq_false c37
                                    clear c37
                                    (first | rw [c37b0] | (simp only [i64_w, i32_w]; rw [c37b0]) | skip)
                                    by_cases c39 : 0 ≤ x80_5
                                    · rw [if_pos c39] at H
                                      have c39b0 : decide (0 ≤ x80_5) = true := decide_eq_true c39
                                      clear c39
                                      by_cases c40 : x80_5 < (t194.length : Int)
                                      · rw [if_pos c40] at H
                                        have c40b0 : decide (x80_5 < (t194.length : Int)) = true := decide_eq_true c40
                                        clear c40
                                        replace H := Option.bind_eq_some_iff.mp H
                                        obtain ⟨t207, A410, H⟩ := H
                                        replace H : (signalboxlaw41_MatrixPlans.j5 k5 l0 a1 t194 t198 x12_5 t203 a1 x80_5 (!t207)) = some r := H
                                        have A41 := Aside0.mk A410
                                        clear A410
                                        have H' := Aside0.mk H
                                        clear H
                                        obtain ⟨Ao42, co42, eo42⟩ := Kd.S_slice HO_7.out
                                        subst eo42
                                        have p206 : 0 ≤ (x80_5 : Int) := of_decide_eq_true (by first | (with_reducible assumption) | assumption)
                                        have q206 : x80_5 < (t194.length : Int) := of_decide_eq_true (by first | (with_reducible assumption) | assumption)
                                        obtain ⟨ad206, A206_0, c206_0, e206, hx206_0, hl206_0, hi206_0⟩ := at_L4 (Kd.S_reads' HO_7.out).2.2 x80_5 p206 q206
                                        cases e206
                                        obtain ⟨ce206, hce206, hMe206, hcc206⟩ := Kd.S_get HO_7.out [] x80_5 p206 (by first | exact q206 | exact of_decide_eq_true (by first | (with_reducible assumption) | assumption) | (have e_ := (Kd.S_reads' HO_7.out).1; omega))
                                        obtain ⟨ve206_0, rfl, ge206_0⟩ := hMe206
                                        have hv206_0 := hcc206 0 _ rfl
                                        rw [Nat.add_zero, show ((Kd.slice 3 (Kd.int .i64))).sz = 1 from rfl, Nat.mul_one] at hv206_0
                                        replace hv206_0 := Option.some.inj (hv206_0.symm.trans hx206_0)
                                        rw [hv206_0] at ge206_0
                                        have HL206_0 := Aside0.mk (show Kd.R (Kd.int .i64) 3 _ _ _ _ (rd_L4 t194 x80_5) from ge206_0)
                                        clear hv206_0 ge206_0
                                        clear hcc206 hce206
                                        have HR206_0 := Aside0.mk hi206_0
                                        have HC206_0 := Aside0.mk hl206_0
                                        clear hi206_0 hl206_0
                                        replace p206 := eq_true p206
                                        replace q206 := eq_true q206
                                        obtain ⟨Ao43, co43, eo43⟩ := Kd.R_slice HO205.out
                                        subst eo43
                                        go_wp2_with (first | (go_at_call 16; (with_reducible refine (signalboxref09_Ints.calls k5 _ _ (rd_L4 t194 x80_5) _ _ t203 t207 _ ?side1 ?side2 ?side3 ?side4 A41.out).mono ?_); (case side1 => repeat (first | exact (by repeat (first | (with_reducible exact HR206_0.out) | (with_reducible refine Kd.C_alloc ?_ _) | (with_reducible refine Kd.C_drewN ?_ _) | (with_reducible refine Kd.C_drew ?_) | exact HR206_0.out)) | (with_reducible refine Kd.C_alloc ?_ _) | (with_reducible refine Kd.C_drewN ?_ _) | (with_reducible refine Kd.C_drew ?_))); (case side2 => exact HC206_0.out); (case side3 => repeat (first | exact (Kd.R_reads' HO205.out).2.2 | (with_reducible refine Kd.C_alloc ?_ _) | (with_reducible refine Kd.C_drewN ?_ _) | (with_reducible refine Kd.C_drew ?_))); (case side4 => exact (Kd.R_reads' HO205.out).2.1); rintro e w' ⟨rfl, ⟨nd, rfl⟩⟩))
                                        go_meet
                                        case rel => exact ⟨_, (!t207), (by first | rfl | (simp; done) | (simp [*]; done)), H', ⟨by have := HJ3.out; have := HJ16.out; have := HJ26.out; have := HJ28.out; have := HK5.out; first | omega | exact Nat.le_refl _⟩, ⟨by (with_reducible repeat (first | apply Kd.S_alloc | apply Kd.S_drewN | apply Kd.S_drew)); exact Kd.S_mono HO_7.out (fun _ hk => hk.2)⟩, ⟨by (with_reducible repeat (first | apply Kd.R_alloc | apply Kd.R_drewN | apply Kd.R_drew)); exact HO205.out⟩, ⟨by repeat (first | (with_reducible first | exact HB.out | apply below_alloc | apply pw_below_drewN | apply below_drew1) | exact HB.out)⟩⟩
                                      · rw [if_neg c40] at H
                                        exact absurd H (by simp)
                                    · rw [if_neg c39] at H
                                      exact absurd H (by simp)
                                case rest =>
                                  clear HC35
                                  try clear c1
                                  try clear c2
                                  try clear p2
                                  try clear q2
                                  try clear hx2
                                  try clear c3
                                  try clear c4
                                  try clear c5
                                  try clear c5b0
                                  try clear c5b1
                                  try clear c6
                                  try clear c6b0
                                  try clear c7
                                  try clear c9
                                  try clear c13
                                  try clear c15
                                  try clear c16
                                  try clear c19
                                  try clear c20
                                  try clear p20
                                  try clear q20
                                  try clear hx20
                                  try clear c21
                                  try clear c25
                                  try clear c25b0
                                  try clear c25b1
                                  try clear c26
                                  try clear c26b0
                                  try clear c28
                                  try clear c30
                                  try clear c30b0
                                  try clear c30b1
                                  try clear c31
                                  try clear c32
                                  try clear c32b0
                                  try clear c32b1
                                  try clear c33
                                  try clear c33b0
                                  try clear c37
                                  try clear c37b0
                                  try clear c39
                                  try clear c39b0
                                  try clear c40
                                  try clear c40b0
                                  try clear hx206_0
                                  try clear p2
                                  try clear p206
                                  try clear q206
                                  try clear HA
                                  try clear HJ34
                                  try clear HO_7
                                  try clear HO_14
                                  try clear HB
                                  obtain ⟨kq, x98_34, rfl, HA, HJ34, HO_7, HO_14, HB⟩ := hcut
                                  cases kq with
                                  | zero => exact absurd HA.out (by simp [signalboxlaw41_MatrixPlans.j5])
                                  | succ kj34 =>
                                    have H := HA.out
                                    clear HA
                                    simp only [signalboxlaw41_MatrixPlans.j5] at H
                                    by_cases c44 : x98_34 = true
                                    · subst c44
                                      have H1 : (some false) = some r := by rw [if_pos rfl] at H; exact H
                                      clear H
                                      have H := H1
                                      clear H1
                                      obtain rfl := Option.some.inj H
                                      go_wp2
                                      go_ret
                                      exact ⟨by first | rfl | (simp [errW_none, errW_some] <;> rfl) | (simp [*, errW_none, errW_some] <;> rfl), by repeat (first | (with_reducible first | exact HB.out | apply below_alloc | apply pw_below_drewN | apply below_drew1) | exact HB.out)⟩
                                    · replace c44 := Bool.eq_false_iff.mpr c44
                                      subst c44
                                      have H1 : (if (t203.length : Int) = 0 then (signalboxlaw41_MatrixPlans.l0 kj34 l0 a1 t194 t198 (wrap64 (x12_5 + 1)) a1 (wrap64 (x80_5 + 1))) else (signalboxlaw41_MatrixPlans.l0 kj34 l0 a1 t194 t198 x12_5 a1 (wrap64 (x80_5 + 1)))) = some r := by rw [if_neg (show ¬ (false = true) by decide)] at H; exact H
                                      clear H
                                      have H := H1
                                      clear H1
                                      by_cases c45 : (t203.length : Int) = 0
                                      · rw [if_pos c45] at H
                                        have c45b0 : ((t203.length : Int) == 0) = true := beq_iff_eq.mpr c45
                                        have c45b1 : ((t203.length : Int) != 0) = false := bne_eq_false_iff_eq.mpr c45
                                        clear c45
                                        have H' := Aside0.mk H
                                        clear H
                                        obtain ⟨Ao46, co46, eo46⟩ := Kd.R_slice HO_14.out
                                        subst eo46
                                        go_wp2
                                        go_roundg kj34
                                        case measure => have := HJ3.out; have := HJ16.out; have := HJ26.out; have := HJ28.out; have := HK5.out; have := HJ34.out; omega
                                        case rel => exact ⟨(wrap64 (x12_5 + 1)), (wrap64 (x80_5 + 1)), (by first | rfl | (simp; done) | (simp [*]; done)), (by first | rfl | (simp; done) | (simp [*]; done)), H', ⟨by have := HJ3.out; have := HJ16.out; have := HJ26.out; have := HJ28.out; have := HK5.out; have := HJ34.out; omega⟩, ⟨by (with_reducible repeat (first | apply Kd.S_alloc | apply Kd.S_drewN | apply Kd.S_drew)); exact Kd.S_mono HO_7.out (fun _ hk => trivial)⟩, ⟨by repeat (first | (with_reducible first | exact HB.out | apply below_alloc | apply pw_below_drewN | apply below_drew1) | exact HB.out)⟩⟩
                                      · rw [if_neg c45] at H
                                        have c45b0 : ((t203.length : Int) == 0) = false := beq_eq_false_iff_ne.mpr c45
                                        have c45b1 : ((t203.length : Int) != 0) = true := bne_iff_ne.mpr c45
                                        have c45b2 : ¬ (t203 = []) := fun h_ => c45 (by rw [h_]; rfl)
                                        have H' := Aside0.mk H
                                        clear H
                                        obtain ⟨Ao47, co47, eo47⟩ := Kd.R_slice HO_14.out
                                        subst eo47
                                        go_wp2
                                        go_roundg kj34
                                        case measure => have := HJ3.out; have := HJ16.out; have := HJ26.out; have := HJ28.out; have := HK5.out; have := HJ34.out; omega
                                        case rel => exact ⟨(x12_5), (wrap64 (x80_5 + 1)), (by first | rfl | (simp; done) | (simp [*]; done)), (by first | rfl | (simp; done) | (simp [*]; done)), H', ⟨by have := HJ3.out; have := HJ16.out; have := HJ26.out; have := HJ28.out; have := HK5.out; have := HJ34.out; omega⟩, ⟨by (with_reducible repeat (first | apply Kd.S_alloc | apply Kd.S_drewN | apply Kd.S_drew)); exact Kd.S_mono HO_7.out (fun _ hk => trivial)⟩, ⟨by repeat (first | (with_reducible first | exact HB.out | apply below_alloc | apply pw_below_drewN | apply below_drew1) | exact HB.out)⟩⟩
                              · rw [if_neg c33] at H
                                have c33b0 : decide (x80_5 < a1) = false := decide_eq_false c33
                                clear c33
                                by_cases c48 : (t194.length : Int) = a1
                                · rw [if_pos c48] at H
                                  have c48b0 : ((t194.length : Int) == a1) = true := beq_iff_eq.mpr c48
                                  have c48b1 : ((t194.length : Int) != a1) = false := bne_eq_false_iff_eq.mpr c48
                                  clear c48
                                  by_cases c49 : t198 = x12_5
                                  · rw [if_pos c49] at H
                                    have c49b0 : (t198 == x12_5) = true := beq_iff_eq.mpr c49
                                    have c49b1 : (t198 != x12_5) = false := bne_eq_false_iff_eq.mpr c49
                                    clear c49
                                    replace H := Option.bind_eq_some_iff.mp H
                                    obtain ⟨t202, A500, H⟩ := H
                                    replace H : (some t202) = some r := H
                                    have A50 := Aside0.mk A500
                                    clear A500
                                    obtain rfl := Option.some.inj H
                                    obtain ⟨Ao51, co51, eo51⟩ := Kd.S_slice HO_7.out
                                    subst eo51
                                    go_wp2_with (first | (go_at_call 9; (with_reducible refine (signalboxlaw41_alive.calls k5  t202 _ A50.out).mono ?_); rintro e w52 ⟨rfl, hb⟩; have n0_ := Aside0.mk (Kd.S_below (by (with_reducible repeat (first | apply Kd.S_alloc | apply Kd.S_drewN | apply Kd.S_drew)); exact HO_7.out) hb); have n1_ := Aside0.mk (below_step (by repeat (first | (with_reducible first | exact HB.out | apply below_alloc | apply pw_below_drewN | apply below_drew1) | exact HB.out)) hb); clear HO_7; clear HB; have HO_7 := n0_; have HB := n1_; clear n0_ n1_; (try clear hb); (try clear hb2); (try clear hk); (try clear hi)))
                                    go_ret
                                    exact ⟨by first | rfl | (simp [errW_none, errW_some] <;> rfl) | (simp [*, errW_none, errW_some] <;> rfl), by repeat (first | (with_reducible first | exact HB.out | apply below_alloc | apply pw_below_drewN | apply below_drew1) | exact HB.out)⟩
                                  · rw [if_neg c49] at H
                                    have c49b0 : (t198 == x12_5) = false := beq_eq_false_iff_ne.mpr c49
                                    have c49b1 : (t198 != x12_5) = true := bne_iff_ne.mpr c49
                                    obtain rfl := Option.some.inj H
                                    obtain ⟨Ao53, co53, eo53⟩ := Kd.S_slice HO_7.out
                                    subst eo53
                                    go_wp2
                                    go_ret
                                    exact ⟨by first | rfl | (simp [errW_none, errW_some] <;> rfl) | (simp [*, errW_none, errW_some] <;> rfl), by repeat (first | (with_reducible first | exact HB.out | apply below_alloc | apply pw_below_drewN | apply below_drew1) | exact HB.out)⟩
                                · rw [if_neg c48] at H
                                  have c48b0 : ((t194.length : Int) == a1) = false := beq_eq_false_iff_ne.mpr c48
                                  have c48b1 : ((t194.length : Int) != a1) = true := bne_iff_ne.mpr c48
                                  obtain rfl := Option.some.inj H
                                  obtain ⟨Ao54, co54, eo54⟩ := Kd.S_slice HO_7.out
                                  subst eo54
                                  go_wp2
                                  go_ret
                                  exact ⟨by first | rfl | (simp [errW_none, errW_some] <;> rfl) | (simp [*, errW_none, errW_some] <;> rfl), by repeat (first | (with_reducible first | exact HB.out | apply below_alloc | apply pw_below_drewN | apply below_drew1) | exact HB.out)⟩
                        · rw [if_neg c32] at H
                          have c32b0 : (x11_26 == 0) = false := beq_eq_false_iff_ne.mpr c32
                          have c32b1 : (x11_26 != 0) = true := bne_iff_ne.mpr c32
                          by_cases c55 : (t194.length : Int) = 0
                          · rw [if_pos c55] at H
                            have c55b0 : ((t194.length : Int) == 0) = true := beq_iff_eq.mpr c55
                            have c55b1 : ((t194.length : Int) != 0) = false := bne_eq_false_iff_eq.mpr c55
                            clear c55
                            by_cases c56 : t198 = 0
                            · rw [if_pos c56] at H
                              have c56b0 : (t198 == 0) = true := beq_iff_eq.mpr c56
                              have c56b1 : (t198 != 0) = false := bne_eq_false_iff_eq.mpr c56
                              clear c56
                              replace H := Option.bind_eq_some_iff.mp H
                              obtain ⟨t201, A570, H⟩ := H
                              replace H : (some t201) = some r := H
                              have A57 := Aside0.mk A570
                              clear A570
                              obtain rfl := Option.some.inj H
                              obtain ⟨Ao58, co58, eo58⟩ := Kd.S_slice HO_7.out
                              subst eo58
                              go_wp2_with (first | (go_at_call 9; (with_reducible refine (signalboxlaw41_alive.calls kj28  t201 _ A57.out).mono ?_); rintro e w59 ⟨rfl, hb⟩; have n0_ := Aside0.mk (Kd.S_below (by (with_reducible repeat (first | apply Kd.S_alloc | apply Kd.S_drewN | apply Kd.S_drew)); exact HO_7.out) hb); have n1_ := Aside0.mk (below_step (by repeat (first | (with_reducible first | exact HB.out | apply below_alloc | apply pw_below_drewN | apply below_drew1) | exact HB.out)) hb); clear HO_7; clear HB; have HO_7 := n0_; have HB := n1_; clear n0_ n1_; (try clear hb); (try clear hb2); (try clear hk); (try clear hi)))
                              go_ret
                              exact ⟨by first | rfl | (simp [errW_none, errW_some] <;> rfl) | (simp [*, errW_none, errW_some] <;> rfl), by repeat (first | (with_reducible first | exact HB.out | apply below_alloc | apply pw_below_drewN | apply below_drew1) | exact HB.out)⟩
                            · rw [if_neg c56] at H
                              have c56b0 : (t198 == 0) = false := beq_eq_false_iff_ne.mpr c56
                              have c56b1 : (t198 != 0) = true := bne_iff_ne.mpr c56
                              obtain rfl := Option.some.inj H
                              obtain ⟨Ao60, co60, eo60⟩ := Kd.S_slice HO_7.out
                              subst eo60
                              go_wp2
                              go_ret
                              exact ⟨by first | rfl | (simp [errW_none, errW_some] <;> rfl) | (simp [*, errW_none, errW_some] <;> rfl), by repeat (first | (with_reducible first | exact HB.out | apply below_alloc | apply pw_below_drewN | apply below_drew1) | exact HB.out)⟩
                          · rw [if_neg c55] at H
                            have c55b0 : ((t194.length : Int) == 0) = false := beq_eq_false_iff_ne.mpr c55
                            have c55b1 : ((t194.length : Int) != 0) = true := bne_iff_ne.mpr c55
                            have c55b2 : ¬ (t194 = []) := fun h_ => c55 (by rw [h_]; rfl)
                            obtain rfl := Option.some.inj H
                            obtain ⟨Ao61, co61, eo61⟩ := Kd.S_slice HO_7.out
                            subst eo61
                            go_wp2
                            go_ret
                            exact ⟨by first | rfl | (simp [errW_none, errW_some] <;> rfl) | (simp [*, errW_none, errW_some] <;> rfl), by repeat (first | (with_reducible first | exact HB.out | apply below_alloc | apply pw_below_drewN | apply below_drew1) | exact HB.out)⟩
        · replace c13 := Bool.eq_false_iff.mpr c13
          subst c13
          have H1 : (some false) = some r := by rw [if_neg (show ¬ (false = true) by decide)] at H; exact H
          clear H
          have H := H1
          clear H1
          obtain rfl := Option.some.inj H
          go_wp2_with (first | ((with_reducible refine gate_callee (f := 15) rfl ?_); refine goesL_ (some 29) rfl rfl Try.func15 (by kernel_rfl) rfl #[.slice A0 l0.length c0, .int .i64 a2] rfl (by (try simp only [List.map_toArray, List.map_cons, List.map_nil]); first | done | rfl | (simp only [List.length_drop, List.length_take]; rfl)) ?_; (with_reducible refine (matrix_Who.calls kj3 _ _ l0 a2 t187 _ ?side1 ?side2 A10.out).mono ?_); (case side1 => repeat (first | exact (Kd.C_below HR0.out HB.out) | (with_reducible refine Kd.C_alloc ?_ _) | (with_reducible refine Kd.C_drewN ?_ _) | (with_reducible refine Kd.C_drew ?_))); (case side2 => exact HC0.out); rintro e w62 ⟨v188, rfl, ho0, hb⟩; refine ⟨_, rfl, ?_⟩; have n0_ := Aside0.mk (Kd.R_lower ho0 (below_size (by repeat (first | (with_reducible first | exact HB.out | apply below_alloc | apply pw_below_drewN | apply below_drew1) | exact HB.out)))); have n1_ := Aside0.mk (below_step (by repeat (first | (with_reducible first | exact HB.out | apply below_alloc | apply pw_below_drewN | apply below_drew1) | exact HB.out)) hb); clear HB; have HO189 := n0_; have HB := n1_; clear n0_ n1_; (try clear hb); (try clear hb2); (try clear hk); (try clear hi); (try clear ho0)) | ((with_reducible refine gate_callee (f := 19) rfl ?_); refine goesL_ (some 32) rfl rfl Try.func19 (by kernel_rfl) rfl #[.slice A0 l0.length c0, .int .i64 a2] rfl (by (try simp only [List.map_toArray, List.map_cons, List.map_nil]); first | done | rfl | (simp only [List.length_drop, List.length_take]; rfl)) ?_; (with_reducible refine (signalboxref41_Who.calls kj3 _ _ l0 a2 t190 _ ?side1 ?side2 A11.out).mono ?_); (case side1 => repeat (first | exact (Kd.C_below HR0.out HB.out) | (with_reducible refine Kd.C_alloc ?_ _) | (with_reducible refine Kd.C_drewN ?_ _) | (with_reducible refine Kd.C_drew ?_))); (case side2 => exact HC0.out); rintro e w63 ⟨v191, rfl, ho0, hb⟩; refine ⟨_, rfl, ?_⟩; have n0_ := Aside0.mk (Kd.R_elder' (by (with_reducible repeat (first | apply Kd.R_alloc | apply Kd.R_drewN | apply Kd.R_drew)); exact HO189.out) (Kd.R_base ho0) hb); have n1_ := Aside0.mk (Kd.R_lower (Kd.R_new' ho0 (Kd.R_lt (by (with_reducible repeat (first | apply Kd.R_alloc | apply Kd.R_drewN | apply Kd.R_drew)); exact HO189.out))) (below_size (by repeat (first | (with_reducible first | exact HB.out | apply below_alloc | apply pw_below_drewN | apply below_drew1) | exact HB.out)))); have n2_ := Aside0.mk (below_step (by repeat (first | (with_reducible first | exact HB.out | apply below_alloc | apply pw_below_drewN | apply below_drew1) | exact HB.out)) hb); clear HO189; clear HB; have HO189 := n0_; have HO192 := n1_; have HB := n2_; clear n0_ n1_ n2_; (try clear hb); (try clear hb2); (try clear hk); (try clear hi); (try clear ho0); obtain ⟨Ao64, co64, eo64⟩ := Kd.R_slice HO189.out; subst eo64; obtain ⟨Ao65, co65, eo65⟩ := Kd.R_slice HO192.out; subst eo65) | ((with_reducible refine gate_callee (f := 16) rfl ?_); refine goesL_ (some 33) rfl rfl Try.func16 (by kernel_rfl) rfl #[.slice Ao64 t187.length co64, .slice Ao65 t190.length co65] rfl (by (try simp only [List.map_toArray, List.map_cons, List.map_nil]); first | done | rfl | (simp only [List.length_drop, List.length_take]; rfl)) ?_; (with_reducible refine (signalboxref09_Ints.calls kj3 _ _ t187 _ _ t190 false _ ?side1 ?side2 ?side3 ?side4 A12.out).mono ?_); (case side1 => repeat (first | exact (Kd.R_reads' HO189.out).2.2 | (with_reducible refine Kd.C_alloc ?_ _) | (with_reducible refine Kd.C_drewN ?_ _) | (with_reducible refine Kd.C_drew ?_))); (case side2 => exact (Kd.R_reads' HO189.out).2.1); (case side3 => repeat (first | exact (Kd.R_reads' HO192.out).2.2 | (with_reducible refine Kd.C_alloc ?_ _) | (with_reducible refine Kd.C_drewN ?_ _) | (with_reducible refine Kd.C_drew ?_))); (case side4 => exact (Kd.R_reads' HO192.out).2.1); rintro e w' ⟨rfl, ⟨nd, rfl⟩⟩; refine ⟨_, rfl, ?_⟩))
          go_ret
          exact ⟨by first | rfl | (simp [errW_none, errW_some] <;> rfl) | (simp [*, errW_none, errW_some] <;> rfl), by repeat (first | (with_reducible first | exact HB.out | apply below_alloc | apply pw_below_drewN | apply below_drew1) | exact HB.out)⟩
def ok24 (x : S24) : Prop := ((Lit.int .i64 x.f0).wf = true) ∧ ((Lit.int .i64 x.f1).wf = true) ∧ ((Lit.int .i64 x.f2).wf = true)
def signalboxlaw41_MatrixPlans.Pure : Prop := ∀ (l0 : List (S24)) (a1 : Int) (a2 : Int), l0.length ≤ maxLen → l0.length * 24 ≤ 140737488351232 → ((∀ x ∈ l0, (ok24 x))) → (Lit.int .i64 a1).wf = true → (Lit.int .i64 a2).wf = true → ∃ k, signalboxlaw41_MatrixPlans.f k l0 a1 a2 = some true

end Go.Proofs.Ytlikjdeaippjiaa.PMatrixPlans
