-- Laid by a program of the session over the kit's print. Not trusted: Lean checks it.
import Derived.Test.YtlhglkmiclcbcaaPArbLeastx0
namespace Go.Proofs.Ytlhglkmiclcbcaa.PArbLeast
open Go.RowKit Go.Proofs.YtlhglkmiclcbcaaW.PrintWords Go.Proofs.YtlhglkmiclcbcaaW.PrintLast Go.Proofs.YtlhglkmiclcbcaaW.PrintMore
attribute [local go_sem] max2_int min2_int max_two min_two max_three min_three max_four min_four   -- for this text's walks alone
set_option linter.unusedVariables false
set_option linter.unusedSimpArgs false

/-! ### arb_longest: function 23 -/
def arb_longest.l0 : Nat → Int → List ByteArray → Int → Int → Option (Int)
  | 0, _, _, _, _ => none
  | k + 1, x3, x6, x7, x8 => if x8 < x7 then (if 0 ≤ x8 then (if x8 < (x6.length : Int) then (arb_longest.l0 k (mx x3 ((rdOf ByteArray.empty x6 x8).size : Int)) x6 x7 (wrap64 (x8 + 1))) else (none)) else (none)) else (some x3)
def arb_longest.f (k : Nat) (l0 : List ByteArray) : Option (Int) := arb_longest.l0 k 0 l0 (l0.length : Int) 0
theorem arb_longest.mono_l : ∀ k, (∀ y0 y1 y2 y3, LeO (arb_longest.l0 k y0 y1 y2 y3) (arb_longest.l0 (k + 1) y0 y1 y2 y3))
  | 0 => fun _ _ _ _ r h => by simp [arb_longest.l0] at h
  | k + 1 => by
    have ih0 := arb_longest.mono_l k
    · intro y0 y1 y2 y3
      unfold arb_longest.l0
      repeat' first
      | (with_reducible exact ih0 _ _ _ _)
      | (with_reducible exact LeO.refl _)
      | (with_reducible exact LeO.none _)
      | (with_reducible refine LeO.ite ?_ ?_)
      | (with_reducible refine LeO.bind ?_ (fun _ => ?_))
      | exact ih0 _ _ _ _
      | exact LeO.none _
      | refine LeO.ite ?_ ?_
      | refine LeO.bind ?_ (fun _ => ?_)
theorem arb_longest.mono : ∀ a0 k, LeO (arb_longest.f k a0) (arb_longest.f (k + 1) a0) := by
  intro a0 k
  have ih0 := arb_longest.mono_l k
  unfold arb_longest.f
  repeat' first
      | (with_reducible exact ih0 _ _ _ _)
      | (with_reducible exact LeO.refl _)
      | (with_reducible exact LeO.none _)
      | (with_reducible refine LeO.ite ?_ ?_)
      | (with_reducible refine LeO.bind ?_ (fun _ => ?_))
      | exact ih0 _ _ _ _
      | exact LeO.none _
      | refine LeO.ite ?_ ?_
      | refine LeO.bind ?_ (fun _ => ?_)
set_option maxHeartbeats 8000000 in
set_option maxRecDepth 100000 in
theorem arb_longest.calls (k : Nat) (A0 : Option Addr) (c0 : Nat) (l0 : List ByteArray) (r : Int) (w : World) (hr0 : Kd.C Kd.string w A0 l0.length l0) (hc0 : l0.length ≤ c0) (h : arb_longest.f k l0 = some r) :
    Calls Try.prog 23 #[.slice A0 l0.length c0] w fun e w' => e = .returned (.int .i64 r) ∧ Below w.heap.size w w' := by
  have HR0 := Aside0.mk hr0
  have HC0 := Aside0.mk hc0
  clear hr0 hc0
  have HB := Aside0.mk (Below.refl w.heap.size w)
  have H : (arb_longest.l0 k 0 l0 (l0.length : Int) 0) = some r := h
  clear h
  have H' := Aside0.mk H
  clear H
  go_enter Try.func23, Try.ntmps23
  go_wp2
  go_loopg [3, 8] k (fun kq v3 v8 w' => ∃ (x3_1 : Int) (x8_1 : Int), v3 = .int .i64 x3_1 ∧ v8 = .int .i64 x8_1 ∧ Aside0 (arb_longest.l0 kq x3_1 l0 (l0.length : Int) x8_1 = some r) ∧ Aside0 (kq ≤ k) ∧ Aside0 (Below w.heap.size w w'))
  case atStart => exact ⟨(0), (0), (by first | rfl | (simp; done) | (simp [*]; done)), (by first | rfl | (simp; done) | (simp [*]; done)), H', ⟨Nat.le_refl _⟩, ⟨by repeat (first | (with_reducible first | exact HB.out | apply below_alloc | apply pw_below_drewN | apply below_drew1) | exact HB.out)⟩⟩
  case round =>
    clear H'
    obtain ⟨x3_1, x8_1, rfl, rfl, HA, HK1, HB⟩ := hrel
    cases gk with
    | zero => exact absurd HA.out (by simp [arb_longest.l0])
    | succ k1 =>
      have H := HA.out
      clear HA
      simp only [arb_longest.l0] at H
      by_cases c2 : x8_1 < (l0.length : Int)
      · rw [if_pos c2] at H
        have c2b0 : decide (x8_1 < (l0.length : Int)) = true := decide_eq_true c2
        clear c2
        by_cases c3 : 0 ≤ x8_1
        · rw [if_pos c3] at H
          have c3b0 : decide (0 ≤ x8_1) = true := decide_eq_true c3
          clear c3
          by_cases c4 : x8_1 < (l0.length : Int)
          · rw [if_pos c4] at H
            have c4b0 : decide (x8_1 < (l0.length : Int)) = true := decide_eq_true c4
            clear c4
            obtain ⟨ji5, hji5⟩ : ∃ j_ : Int, (mx x3_1 ((rdOf ByteArray.empty l0 x8_1).size : Int)) = j_ := ⟨_, rfl⟩
            replace H : (arb_longest.l0 k1 ji5 l0 (l0.length : Int) (wrap64 (x8_1 + 1))) = some r := by first | (rw [hji5] at H; exact H) | (simp only [hji5] at H ⊢; exact H)
            have hji5_ : (if x3_1 < ((rdOf ByteArray.empty l0 x8_1).size : Int) then ((rdOf ByteArray.empty l0 x8_1).size : Int) else x3_1) = ji5 := hji5
            have H' := Aside0.mk H
            clear H
            have p101 : 0 ≤ (x8_1 : Int) := of_decide_eq_true (by first | (with_reducible assumption) | assumption)
            have q101 : x8_1 < (l0.length : Int) := of_decide_eq_true (by first | (with_reducible assumption) | assumption)
            obtain ⟨ad101, e101, hx101_0⟩ := Kd.at_string HR0.out x8_1 p101 q101
            cases e101
            replace hx101_0 := (HB.out.cell (World.block_lt_of_cell? w _ hx101_0)).trans hx101_0
            replace p101 := eq_true p101
            replace q101 := eq_true q101
            go_wp2
            go_roundg k1
            case measure => have := HK1.out; omega
            case rel => exact ⟨(ji5), (wrap64 (x8_1 + 1)), (by first | rfl | (simp; done) | (simp only [← hji5] <;> (first | rfl | simp)) | (simp [*]; done)), (by first | rfl | (simp; done) | (simp [*]; done)), H', ⟨by have := HK1.out; omega⟩, ⟨by repeat (first | (with_reducible first | exact HB.out | apply below_alloc | apply pw_below_drewN | apply below_drew1) | exact HB.out)⟩⟩
          · rw [if_neg c4] at H
            exact absurd H (by simp)
        · rw [if_neg c3] at H
          exact absurd H (by simp)
      · rw [if_neg c2] at H
        have c2b0 : decide (x8_1 < (l0.length : Int)) = false := decide_eq_false c2
        clear c2
        obtain rfl := Option.some.inj H
        go_wp2
        go_ret
        exact ⟨by first | rfl | (simp [errW_none, errW_some] <;> rfl) | (simp [*, errW_none, errW_some] <;> rfl), by repeat (first | (with_reducible first | exact HB.out | apply below_alloc | apply pw_below_drewN | apply below_drew1) | exact HB.out)⟩

/-! ### arb_shows: function 24 -/
def arb_shows.f (a0 : ByteArray) (a1 : Int) : Option (Bool) := if a1 < (a0.size : Int) then (if 0 ≤ a1 then (some ((bt a0 a1) == 48)) else (none)) else (some false)
set_option maxHeartbeats 8000000 in
set_option maxRecDepth 100000 in
theorem arb_shows.calls (a0 : ByteArray) (a1 : Int) (r : Bool) (w : World) (h : arb_shows.f a0 a1 = some r) :
    Calls Try.prog 24 #[.string a0, .int .i64 a1] w fun e w' => e = .returned (.bool r) ∧ Drawn0 w w' := by
  have H : (if a1 < (a0.size : Int) then (if 0 ≤ a1 then (some ((bt a0 a1) == 48)) else (none)) else (some false)) = some r := h
  clear h
  by_cases c3 : a1 < (a0.size : Int)
  · rw [if_pos c3] at H
    have c3b0 : decide (a1 < (a0.size : Int)) = true := decide_eq_true c3
    clear c3
    by_cases c4 : 0 ≤ a1
    · rw [if_pos c4] at H
      have c4b0 : decide (0 ≤ a1) = true := decide_eq_true c4
      clear c4
      obtain rfl := Option.some.inj H
      have p5 : 0 ≤ (a1 : Int) := of_decide_eq_true (by first | (with_reducible assumption) | assumption)
      have q5 : a1 < (a0.size : Int) := of_decide_eq_true (by first | (with_reducible assumption) | assumption)
      have hx5 := bt_at a0 a1
      replace p5 := eq_true p5
      replace q5 := eq_true q5
      go_enter Try.func24, Try.ntmps24
      go_wp2
      go_ret
      exact ⟨by first | rfl | (simp; done) | (simp [*]; done), by repeat (first | exact Drawn0.refl _ | apply Drawn0.step)⟩
    · rw [if_neg c4] at H
      exact absurd H (by simp)
  · rw [if_neg c3] at H
    have c3b0 : decide (a1 < (a0.size : Int)) = false := decide_eq_false c3
    clear c3
    obtain rfl := Option.some.inj H
    go_enter Try.func24, Try.ntmps24
    go_wp2
    go_ret
    exact ⟨by first | rfl | (simp; done) | (simp [*]; done), by repeat (first | exact Drawn0.refl _ | apply Drawn0.step)⟩

/-! ### arb_Level: function 10 -/
mutual
def arb_Level.l0 : Nat → List ByteArray → List Int → Int → Int → Option (ByteArray)
  | 0, _, _, _, _ => none
  | k + 1, x0, x3, x9, x10 => if x10 < x9 then (arb_Level.l1 k x0 x3 x10 49 x9 x10 x0 (x0.length : Int) 0) else (some (strOfNums x3))
def arb_Level.l1 : Nat → List ByteArray → List Int → Int → Int → Int → Int → List ByteArray → Int → Int → Option (ByteArray)
  | 0, _, _, _, _, _, _, _, _, _ => none
  | k + 1, x0, x3, x4, x5, x9, x10, x13, x14, x15 => if x15 < x14 then (if 0 ≤ x15 then (if x15 < (x13.length : Int) then ((arb_shows.f (rdOf ByteArray.empty x13 x15) x4).bind fun t104 => (if t104 = true then (arb_Level.l1 k x0 x3 x4 48 x9 x10 x13 x14 (wrap64 (x15 + 1))) else (arb_Level.l1 k x0 x3 x4 x5 x9 x10 x13 x14 (wrap64 (x15 + 1))))) else (none)) else (none)) else (if x3.length < 140737488355328 then (arb_Level.l0 k x0 (x3 ++ [x5]) x9 (wrap64 (x10 + 1))) else (none))
end
def arb_Level.f (k : Nat) (l0 : List ByteArray) : Option (ByteArray) := (arb_longest.f k l0).bind fun t102 => (arb_Level.l0 k l0 ([] : List Int) t102 0)
theorem arb_Level.mono_l : ∀ k, (∀ y0 y1 y2 y3, LeO (arb_Level.l0 k y0 y1 y2 y3) (arb_Level.l0 (k + 1) y0 y1 y2 y3)) ∧ (∀ y0 y1 y2 y3 y4 y5 y6 y7 y8, LeO (arb_Level.l1 k y0 y1 y2 y3 y4 y5 y6 y7 y8) (arb_Level.l1 (k + 1) y0 y1 y2 y3 y4 y5 y6 y7 y8))
  | 0 => ⟨fun _ _ _ _ r h => by simp [arb_Level.l0] at h, fun _ _ _ _ _ _ _ _ _ r h => by simp [arb_Level.l1] at h⟩
  | k + 1 => by
    obtain ⟨ih0, ih1⟩ := arb_Level.mono_l k
    refine ⟨?_, ?_⟩
    · intro y0 y1 y2 y3
      unfold arb_Level.l0
      repeat' first
      | (with_reducible exact ih0 _ _ _ _)
      | (with_reducible exact ih1 _ _ _ _ _ _ _ _ _)
      | (with_reducible exact arb_longest.mono _ _)
      | (with_reducible exact LeO.refl _)
      | (with_reducible exact LeO.none _)
      | (with_reducible refine LeO.ite ?_ ?_)
      | (with_reducible refine LeO.bind ?_ (fun _ => ?_))
      | exact ih0 _ _ _ _
      | exact ih1 _ _ _ _ _ _ _ _ _
      | exact arb_longest.mono _ _
      | exact LeO.none _
      | refine LeO.ite ?_ ?_
      | refine LeO.bind ?_ (fun _ => ?_)
    · intro y0 y1 y2 y3 y4 y5 y6 y7 y8
      unfold arb_Level.l1
      repeat' first
      | (with_reducible exact ih0 _ _ _ _)
      | (with_reducible exact ih1 _ _ _ _ _ _ _ _ _)
      | (with_reducible exact arb_longest.mono _ _)
      | (with_reducible exact LeO.refl _)
      | (with_reducible exact LeO.none _)
      | (with_reducible refine LeO.ite ?_ ?_)
      | (with_reducible refine LeO.bind ?_ (fun _ => ?_))
      | exact ih0 _ _ _ _
      | exact ih1 _ _ _ _ _ _ _ _ _
      | exact arb_longest.mono _ _
      | exact LeO.none _
      | refine LeO.ite ?_ ?_
      | refine LeO.bind ?_ (fun _ => ?_)
theorem arb_Level.mono : ∀ a0 k, LeO (arb_Level.f k a0) (arb_Level.f (k + 1) a0) := by
  intro a0 k
  obtain ⟨ih0, ih1⟩ := arb_Level.mono_l k
  unfold arb_Level.f
  repeat' first
      | (with_reducible exact ih0 _ _ _ _)
      | (with_reducible exact ih1 _ _ _ _ _ _ _ _ _)
      | (with_reducible exact arb_longest.mono _ _)
      | (with_reducible exact LeO.refl _)
      | (with_reducible exact LeO.none _)
      | (with_reducible refine LeO.ite ?_ ?_)
      | (with_reducible refine LeO.bind ?_ (fun _ => ?_))
      | exact ih0 _ _ _ _
      | exact ih1 _ _ _ _ _ _ _ _ _
      | exact arb_longest.mono _ _
      | exact LeO.none _
      | refine LeO.ite ?_ ?_
      | refine LeO.bind ?_ (fun _ => ?_)
set_option maxHeartbeats 8000000 in
set_option maxRecDepth 100000 in
theorem arb_Level.calls (k : Nat) (A0 : Option Addr) (c0 : Nat) (l0 : List ByteArray) (r : ByteArray) (w : World) (hr0 : Kd.C Kd.string w A0 l0.length l0) (hc0 : l0.length ≤ c0) (h : arb_Level.f k l0 = some r) :
    Calls Try.prog 10 #[.slice A0 l0.length c0] w fun e w' => e = .returned (.string r) ∧ Below w.heap.size w w' := by
  have HR0 := Aside0.mk hr0
  have HC0 := Aside0.mk hc0
  clear hr0 hc0
  have HB := Aside0.mk (Below.refl w.heap.size w)
  have H : ((arb_longest.f k l0).bind fun t102 => (arb_Level.l0 k l0 ([] : List Int) t102 0)) = some r := h
  clear h
  replace H := Option.bind_eq_some_iff.mp H
  obtain ⟨t102, A20, H⟩ := H
  replace H : (arb_Level.l0 k l0 ([] : List Int) t102 0) = some r := H
  have A2 := Aside0.mk A20
  clear A20
  have H' := Aside0.mk H
  clear H
  go_enter Try.func10, Try.ntmps10
  go_wp2_with (first | ((with_reducible refine gate_callee (f := 23) rfl ?_); refine goesL_ (some 9) rfl rfl Try.func23 (by kernel_rfl) rfl #[.slice A0 l0.length c0] rfl (by (try simp only [List.map_toArray, List.map_cons, List.map_nil]); first | done | rfl | (simp only [List.length_drop, List.length_take]; rfl)) ?_; (with_reducible refine (arb_longest.calls k _ _ l0 t102 _ ?side1 ?side2 A2.out).mono ?_); (case side1 => repeat (first | exact HR0.out | (with_reducible refine Kd.C_alloc ?_ _) | (with_reducible refine Kd.C_drewN ?_ _) | (with_reducible refine Kd.C_drew ?_))); (case side2 => exact HC0.out); rintro e w3 ⟨rfl, hb⟩; refine ⟨_, rfl, ?_⟩; have n0_ := Aside0.mk (below_step (by repeat (first | (with_reducible first | exact HB.out | apply below_alloc | apply pw_below_drewN | apply below_drew1) | exact HB.out)) hb); clear HB; have HB := n0_; clear n0_; (try clear hb); (try clear hb2); (try clear hk); (try clear hi)))
  go_loopg [3, 10] k (fun kq v3 v10 w' => ∃ (x3_1 : List Int) (x10_1 : Int), v10 = .int .i64 x10_1 ∧ Aside0 (arb_Level.l0 kq l0 x3_1 t102 x10_1 = some r) ∧ Aside0 (kq ≤ k) ∧ Aside0 (Kd.R (Kd.int .u8) 5 w' w.heap.size (fun _ => True) v3 x3_1) ∧ Aside0 (Below w.heap.size w w'))
  case atStart => exact ⟨(([] : List Int)), (0), (by first | rfl | (simp; done) | (simp [*]; done)), H', ⟨Nat.le_refl _⟩, ⟨by first | exact Kd.R_nil _ _ _ _ _ | exact Kd.N_nil _ _ _ _ _ | exact Kd.V_nil _ _ _ _ _ | exact Kd.Q_nil _ _ _ _ _ | exact Kd.S_nil _ _ _ _ _⟩, ⟨by repeat (first | (with_reducible first | exact HB.out | apply below_alloc | apply pw_below_drewN | apply below_drew1) | exact HB.out)⟩⟩
  case round =>
    clear H'
    try clear c1
    try clear c2
    try clear p2
    obtain ⟨x3_1, x10_1, rfl, HA, HK1, HO_3, HB⟩ := hrel
    cases gk with
    | zero => exact absurd HA.out (by simp [arb_Level.l0])
    | succ k1 =>
      have H := HA.out
      clear HA
      simp only [arb_Level.l0] at H
      by_cases c4 : x10_1 < t102
      · rw [if_pos c4] at H
        have c4b0 : decide (x10_1 < t102) = true := decide_eq_true c4
        clear c4
        have H' := Aside0.mk H
        clear H
        go_wp2
        go_loopg [5, 15] k1 (fun kq v5 v15 w' => ∃ (x5_2 : Int) (x15_2 : Int), v5 = .int .u8 x5_2 ∧ v15 = .int .i64 x15_2 ∧ Aside0 (arb_Level.l1 kq l0 x3_1 x10_1 x5_2 t102 x10_1 l0 (l0.length : Int) x15_2 = some r) ∧ Aside0 (kq ≤ k1) ∧ Aside0 (Kd.R (Kd.int .u8) 5 w' w.heap.size (fun _ => True) u3 x3_1) ∧ Aside0 (Below w.heap.size w w'))
        case atStart => exact ⟨(49), (0), (by first | rfl | (simp; done) | (simp [*]; done)), (by first | rfl | (simp; done) | (simp [*]; done)), H', ⟨Nat.le_refl _⟩, ⟨by (with_reducible repeat (first | apply Kd.R_alloc | apply Kd.R_drewN | apply Kd.R_drew)); exact HO_3.out⟩, ⟨by repeat (first | (with_reducible first | exact HB.out | apply below_alloc | apply pw_below_drewN | apply below_drew1) | exact HB.out)⟩⟩
        case round =>
          clear H'
          try clear c1
          try clear c2
          try clear p2
          try clear c4
          try clear c4b0
          try clear p2
          obtain ⟨x5_2, x15_2, rfl, rfl, HA, HK2, HO_3, HB⟩ := hrel
          cases gk with
          | zero => exact absurd HA.out (by simp [arb_Level.l1])
          | succ k2 =>
            have H := HA.out
            clear HA
            simp only [arb_Level.l1] at H
            by_cases c5 : x15_2 < (l0.length : Int)
            · rw [if_pos c5] at H
              have c5b0 : decide (x15_2 < (l0.length : Int)) = true := decide_eq_true c5
              clear c5
              by_cases c6 : 0 ≤ x15_2
              · rw [if_pos c6] at H
                have c6b0 : decide (0 ≤ x15_2) = true := decide_eq_true c6
                clear c6
                by_cases c7 : x15_2 < (l0.length : Int)
                · rw [if_pos c7] at H
                  have c7b0 : decide (x15_2 < (l0.length : Int)) = true := decide_eq_true c7
                  clear c7
                  replace H := Option.bind_eq_some_iff.mp H
                  obtain ⟨t104, A80, H⟩ := H
                  replace H : (if t104 = true then (arb_Level.l1 k2 l0 x3_1 x10_1 48 t102 x10_1 l0 (l0.length : Int) (wrap64 (x15_2 + 1))) else (arb_Level.l1 k2 l0 x3_1 x10_1 x5_2 t102 x10_1 l0 (l0.length : Int) (wrap64 (x15_2 + 1)))) = some r := H
                  have A8 := Aside0.mk A80
                  clear A80
                  by_cases c9 : t104 = true
                  · subst c9
                    have H1 : (arb_Level.l1 k2 l0 x3_1 x10_1 48 t102 x10_1 l0 (l0.length : Int) (wrap64 (x15_2 + 1))) = some r := by rw [if_pos rfl] at H; exact H
                    clear H
                    have H := H1
                    clear H1
                    have H' := Aside0.mk H
                    clear H
                    have p103 : 0 ≤ (x15_2 : Int) := of_decide_eq_true (by first | (with_reducible assumption) | assumption)
                    have q103 : x15_2 < (l0.length : Int) := of_decide_eq_true (by first | (with_reducible assumption) | assumption)
                    obtain ⟨ad103, e103, hx103_0⟩ := Kd.at_string HR0.out x15_2 p103 q103
                    cases e103
                    replace hx103_0 := (HB.out.cell (World.block_lt_of_cell? w _ hx103_0)).trans hx103_0
                    replace p103 := eq_true p103
                    replace q103 := eq_true q103
                    go_wp2_with (first | ((with_reducible refine gate_callee (f := 24) rfl ?_); refine goesL_ (some 21) rfl rfl Try.func24 (by kernel_rfl) rfl #[.string (rdOf ByteArray.empty l0 x15_2), .int .i64 x10_1] rfl (by (try simp only [List.map_toArray, List.map_cons, List.map_nil]); first | done | rfl | (simp only [List.length_drop, List.length_take]; rfl)) ?_; (with_reducible refine (arb_shows.calls (rdOf ByteArray.empty l0 x15_2) x10_1 true _ A8.out).mono ?_); rintro e w' ⟨rfl, ⟨nd, rfl⟩⟩; refine ⟨_, rfl, ?_⟩))
                    go_roundg k2
                    case measure => have := HK1.out; have := HK2.out; omega
                    case rel => exact ⟨(48), (wrap64 (x15_2 + 1)), (by first | rfl | (simp; done) | (simp [*]; done)), (by first | rfl | (simp; done) | (simp [*]; done)), H', ⟨by have := HK1.out; have := HK2.out; omega⟩, ⟨by (with_reducible repeat (first | apply Kd.R_alloc | apply Kd.R_drewN | apply Kd.R_drew)); exact HO_3.out⟩, ⟨by repeat (first | (with_reducible first | exact HB.out | apply below_alloc | apply pw_below_drewN | apply below_drew1) | exact HB.out)⟩⟩
                  · replace c9 := Bool.eq_false_iff.mpr c9
                    subst c9
                    have H1 : (arb_Level.l1 k2 l0 x3_1 x10_1 x5_2 t102 x10_1 l0 (l0.length : Int) (wrap64 (x15_2 + 1))) = some r := by rw [if_neg (show ¬ (false = true) by decide)] at H; exact H
                    clear H
                    have H := H1
                    clear H1
                    have H' := Aside0.mk H
                    clear H
                    have p103 : 0 ≤ (x15_2 : Int) := of_decide_eq_true (by first | (with_reducible assumption) | assumption)
                    have q103 : x15_2 < (l0.length : Int) := of_decide_eq_true (by first | (with_reducible assumption) | assumption)
                    obtain ⟨ad103, e103, hx103_0⟩ := Kd.at_string HR0.out x15_2 p103 q103
                    cases e103
                    replace hx103_0 := (HB.out.cell (World.block_lt_of_cell? w _ hx103_0)).trans hx103_0
                    replace p103 := eq_true p103
                    replace q103 := eq_true q103
                    go_wp2_with (first | ((with_reducible refine gate_callee (f := 24) rfl ?_); refine goesL_ (some 21) rfl rfl Try.func24 (by kernel_rfl) rfl #[.string (rdOf ByteArray.empty l0 x15_2), .int .i64 x10_1] rfl (by (try simp only [List.map_toArray, List.map_cons, List.map_nil]); first | done | rfl | (simp only [List.length_drop, List.length_take]; rfl)) ?_; (with_reducible refine (arb_shows.calls (rdOf ByteArray.empty l0 x15_2) x10_1 false _ A8.out).mono ?_); rintro e w' ⟨rfl, ⟨nd, rfl⟩⟩; refine ⟨_, rfl, ?_⟩))
                    go_roundg k2
                    case measure => have := HK1.out; have := HK2.out; omega
                    case rel => exact ⟨(x5_2), (wrap64 (x15_2 + 1)), (by first | rfl | (simp; done) | (simp [*]; done)), (by first | rfl | (simp; done) | (simp [*]; done)), H', ⟨by have := HK1.out; have := HK2.out; omega⟩, ⟨by (with_reducible repeat (first | apply Kd.R_alloc | apply Kd.R_drewN | apply Kd.R_drew)); exact HO_3.out⟩, ⟨by repeat (first | (with_reducible first | exact HB.out | apply below_alloc | apply pw_below_drewN | apply below_drew1) | exact HB.out)⟩⟩
                · rw [if_neg c7] at H
                  exact absurd H (by simp)
              · rw [if_neg c6] at H
                exact absurd H (by simp)
            · rw [if_neg c5] at H
              have c5b0 : decide (x15_2 < (l0.length : Int)) = false := decide_eq_false c5
              clear c5
              by_cases c10 : x3_1.length < 140737488355328
              · rw [if_pos c10] at H
                have LMc10 := Aside0.mk c10
                clear c10
                obtain ⟨y105, hy105⟩ : ∃ y_ : List Int, y_ = (x3_1 ++ [x5_2]) := ⟨_, rfl⟩
                replace H : (arb_Level.l0 k2 l0 y105 t102 (wrap64 (x10_1 + 1))) = some r := by first | (rw [hy105]; with_reducible exact H) | (have H2_ := (Option.bind_some _ _).symm.trans H; rw [hy105]; with_reducible exact H2_) | (have H2_ := (Option.bind_some _ _).symm.trans H; with_reducible exact H2_) | with_reducible exact H | (rw [hy105]; exact H) | exact H
                have Ny105 := Aside0.mk hy105
                clear hy105
                have H' := Aside0.mk H
                clear H
                go_wp2_with (first | ((with_reducible refine gate_builtin (b := .append) (xs := #[.tmp 23, .tmp 25]) rfl ?_); at_builtin; refine Kd.R_append (Kd.int .u8) (w0 := w) w.heap.size rfl (.tmp 23) (.tmp 25) 44 5 (.int .u8 0) 1 rfl Try.underlying44 info5 rfl (by decide) (by omega) u3 x3_1 x5_2 [.int .u8 x5_2] (fun _ => True) (fun _ => False) rfl rfl ?aP (fun _ hk => hk.elim) ?aF ?aO ?aB ?aS ?aL ?_; (case aP => exact rfl); (case aB => exact (by repeat (first | (with_reducible first | exact HB.out | apply below_alloc | apply pw_below_drewN | apply below_drew1) | exact HB.out))); (case aF => exact (fun _ _ => trivial)); (case aO => exact (by (with_reducible repeat (first | apply Kd.R_alloc | apply Kd.R_drewN | apply Kd.R_drew)); exact HO_3.out)); (case aS => exact (below_size (by repeat (first | (with_reducible first | exact HB.out | apply below_alloc | apply pw_below_drewN | apply below_drew1) | exact HB.out)))); (case aL => have := LMc10.out; omega); intro v106 w11 ho hb hg hat; rw [← Ny105.out] at ho; have n0_ := Aside0.mk (hb); have n1_ := Aside0.mk (ho); clear HB; clear HO_3; have HB := n0_; have HO107 := n1_; clear n0_ n1_; clear ho hb hg hat))
                go_roundg k2
                case measure => have := HK1.out; have := HK2.out; omega
                case rel => exact ⟨(y105), (wrap64 (x10_1 + 1)), (by first | rfl | (simp; done) | (simp [*]; done)), H', ⟨by have := HK1.out; have := HK2.out; omega⟩, ⟨by (with_reducible repeat (first | apply Kd.R_alloc | apply Kd.R_drewN | apply Kd.R_drew)); exact HO107.out⟩, ⟨by repeat (first | (with_reducible first | exact HB.out | apply below_alloc | apply pw_below_drewN | apply below_drew1) | exact HB.out)⟩⟩
              · rw [if_neg c10] at H
                exact absurd H (by simp)
      · rw [if_neg c4] at H
        have c4b0 : decide (x10_1 < t102) = false := decide_eq_false c4
        clear c4
        obtain rfl := Option.some.inj H
        have hcv12 := own_string (P := Try.prog) Try.underlying44 Try.underlying5 Try.underlying9 (Kd.own_of_R HO_3.out)
        go_wp2
        go_ret
        exact ⟨by first | rfl | (simp [errW_none, errW_some] <;> rfl) | (simp [*, errW_none, errW_some] <;> rfl), by repeat (first | (with_reducible first | exact HB.out | apply below_alloc | apply pw_below_drewN | apply below_drew1) | exact HB.out)⟩

/-! ### signalboxref09_Ints: function 12 -/
def signalboxref09_Ints.l0 : Nat → List Int → List Int → Int → Option (Bool)
  | 0, _, _, _ => none
  | k + 1, x0, x1, x5 => if x5 < (x0.length : Int) then (if 0 ≤ x5 then (if x5 < (x1.length : Int) then (if (rd x0 x5) = (rd x1 x5) then (signalboxref09_Ints.l0 k x0 x1 (wrap64 (x5 + 1))) else (some false)) else (none)) else (none)) else (some true)
def signalboxref09_Ints.f (k : Nat) (l0 : List Int) (l1 : List Int) : Option (Bool) := if (l0.length : Int) = (l1.length : Int) then (signalboxref09_Ints.l0 k l0 l1 0) else (some false)
theorem signalboxref09_Ints.mono_l : ∀ k, (∀ y0 y1 y2, LeO (signalboxref09_Ints.l0 k y0 y1 y2) (signalboxref09_Ints.l0 (k + 1) y0 y1 y2))
  | 0 => fun _ _ _ r h => by simp [signalboxref09_Ints.l0] at h
  | k + 1 => by
    have ih0 := signalboxref09_Ints.mono_l k
    · intro y0 y1 y2
      unfold signalboxref09_Ints.l0
      repeat' first
      | (with_reducible exact ih0 _ _ _)
      | (with_reducible exact LeO.refl _)
      | (with_reducible exact LeO.none _)
      | (with_reducible refine LeO.ite ?_ ?_)
      | (with_reducible refine LeO.bind ?_ (fun _ => ?_))
      | exact ih0 _ _ _
      | exact LeO.none _
      | refine LeO.ite ?_ ?_
      | refine LeO.bind ?_ (fun _ => ?_)
theorem signalboxref09_Ints.mono : ∀ a0 a1 k, LeO (signalboxref09_Ints.f k a0 a1) (signalboxref09_Ints.f (k + 1) a0 a1) := by
  intro a0 a1 k
  have ih0 := signalboxref09_Ints.mono_l k
  unfold signalboxref09_Ints.f
  repeat' first
      | (with_reducible exact ih0 _ _ _)
      | (with_reducible exact LeO.refl _)
      | (with_reducible exact LeO.none _)
      | (with_reducible refine LeO.ite ?_ ?_)
      | (with_reducible refine LeO.bind ?_ (fun _ => ?_))
      | exact ih0 _ _ _
      | exact LeO.none _
      | refine LeO.ite ?_ ?_
      | refine LeO.bind ?_ (fun _ => ?_)
set_option maxHeartbeats 8000000 in
set_option maxRecDepth 100000 in
theorem signalboxref09_Ints.calls (k : Nat) (A0 : Option Addr) (c0 : Nat) (l0 : List Int) (A1 : Option Addr) (c1 : Nat) (l1 : List Int) (r : Bool) (w : World) (hr0 : Kd.C (Kd.int .i64) w A0 l0.length l0) (hc0 : l0.length ≤ c0) (hr1 : Kd.C (Kd.int .i64) w A1 l1.length l1) (hc1 : l1.length ≤ c1) (h : signalboxref09_Ints.f k l0 l1 = some r) :
    Calls Try.prog 12 #[.slice A0 l0.length c0, .slice A1 l1.length c1] w fun e w' => e = .returned (.bool r) ∧ Drawn0 w w' := by
  have HR0 := Aside0.mk hr0
  have HC0 := Aside0.mk hc0
  clear hr0 hc0
  have HR1 := Aside0.mk hr1
  have HC1 := Aside0.mk hc1
  clear hr1 hc1
  have H : (if (l0.length : Int) = (l1.length : Int) then (signalboxref09_Ints.l0 k l0 l1 0) else (some false)) = some r := h
  clear h
  by_cases c3 : (l0.length : Int) = (l1.length : Int)
  · rw [if_pos c3] at H
    have c3b0 : ((l0.length : Int) == (l1.length : Int)) = true := beq_iff_eq.mpr c3
    have c3b1 : ((l0.length : Int) != (l1.length : Int)) = false := bne_eq_false_iff_eq.mpr c3
    have c3b2 : (l0.length == l1.length) = true := by first | simpa using c3 | (simp at c3 ⊢; omega)
    clear c3
    have H' := Aside0.mk H
    clear H
    go_enter Try.func12, Try.ntmps12
    go_wp2
    repeat (go_quiet (fail); try go_wp2)
    go_loopg [5] k (fun kq v5 w' => ∃ (x5_1 : Int), v5 = .int .i64 x5_1 ∧ Aside0 (signalboxref09_Ints.l0 kq l0 l1 x5_1 = some r) ∧ Aside0 (kq ≤ k) ∧ Drawn0 w w')
    case atStart => exact ⟨(0), (by first | rfl | (simp; done) | (simp [*]; done)), H', ⟨Nat.le_refl _⟩, by repeat (first | exact Drawn0.refl _ | apply Drawn0.step)⟩
    case round =>
      clear H'
      try clear c1
      try clear p2
      try clear c3
      try clear c3b0
      try clear c3b1
      try clear c3b2
      obtain ⟨x5_1, rfl, HA, HK1, ⟨m1, rfl⟩⟩ := hrel
      cases gk with
      | zero => exact absurd HA.out (by simp [signalboxref09_Ints.l0])
      | succ k1 =>
        have H := HA.out
        clear HA
        simp only [signalboxref09_Ints.l0] at H
        by_cases c4 : x5_1 < (l0.length : Int)
        · rw [if_pos c4] at H
          have c4b0 : decide (x5_1 < (l0.length : Int)) = true := decide_eq_true c4
          clear c4
          by_cases c5 : 0 ≤ x5_1
          · rw [if_pos c5] at H
            have c5b0 : decide (0 ≤ x5_1) = true := decide_eq_true c5
            clear c5
            by_cases c6 : x5_1 < (l1.length : Int)
            · rw [if_pos c6] at H
              have c6b0 : decide (x5_1 < (l1.length : Int)) = true := decide_eq_true c6
              clear c6
              by_cases c7 : (rd l0 x5_1) = (rd l1 x5_1)
              · rw [if_pos c7] at H
                have c7b0 : ((rd l0 x5_1) == (rd l1 x5_1)) = true := beq_iff_eq.mpr c7
                have c7b1 : ((rd l0 x5_1) != (rd l1 x5_1)) = false := bne_eq_false_iff_eq.mpr c7
                clear c7
                have H' := Aside0.mk H
                clear H
                have p108 : 0 ≤ (x5_1 : Int) := of_decide_eq_true (by first | (with_reducible assumption) | assumption)
                have q108 : x5_1 < (l0.length : Int) := of_decide_eq_true (by first | (with_reducible assumption) | assumption)
                obtain ⟨ad108, e108, hx108_0⟩ := Kd.at_int HR0.out x5_1 p108 q108
                cases e108
                replace p108 := eq_true p108
                replace q108 := eq_true q108
                have p109 : 0 ≤ (x5_1 : Int) := of_decide_eq_true (by first | (with_reducible assumption) | assumption)
                have q109 : x5_1 < (l1.length : Int) := of_decide_eq_true (by first | (with_reducible assumption) | assumption)
                obtain ⟨ad109, e109, hx109_0⟩ := Kd.at_int HR1.out x5_1 p109 q109
                cases e109
                replace p109 := eq_true p109
                replace q109 := eq_true q109
                go_wp2
                repeat (go_quiet (fail); try go_wp2)
                go_roundg k1
                case measure => have := HK1.out; omega
                case rel => exact ⟨(wrap64 (x5_1 + 1)), (by first | rfl | (simp; done) | (simp [*]; done)), H', ⟨by have := HK1.out; omega⟩, by repeat (first | exact Drawn0.refl _ | apply Drawn0.step)⟩
              · rw [if_neg c7] at H
                have c7b0 : ((rd l0 x5_1) == (rd l1 x5_1)) = false := beq_eq_false_iff_ne.mpr c7
                have c7b1 : ((rd l0 x5_1) != (rd l1 x5_1)) = true := bne_iff_ne.mpr c7
                obtain rfl := Option.some.inj H
                have p108 : 0 ≤ (x5_1 : Int) := of_decide_eq_true (by first | (with_reducible assumption) | assumption)
                have q108 : x5_1 < (l0.length : Int) := of_decide_eq_true (by first | (with_reducible assumption) | assumption)
                obtain ⟨ad108, e108, hx108_0⟩ := Kd.at_int HR0.out x5_1 p108 q108
                cases e108
                replace p108 := eq_true p108
                replace q108 := eq_true q108
                have p109 : 0 ≤ (x5_1 : Int) := of_decide_eq_true (by first | (with_reducible assumption) | assumption)
                have q109 : x5_1 < (l1.length : Int) := of_decide_eq_true (by first | (with_reducible assumption) | assumption)
                obtain ⟨ad109, e109, hx109_0⟩ := Kd.at_int HR1.out x5_1 p109 q109
                cases e109
                replace p109 := eq_true p109
                replace q109 := eq_true q109
                go_wp2
                repeat (go_quiet (fail); try go_wp2)
                go_ret
                exact ⟨by first | rfl | (simp; done) | (simp [*]; done), by repeat (first | exact Drawn0.refl _ | apply Drawn0.step)⟩
            · rw [if_neg c6] at H
              exact absurd H (by simp)
          · rw [if_neg c5] at H
            exact absurd H (by simp)
        · rw [if_neg c4] at H
          have c4b0 : decide (x5_1 < (l0.length : Int)) = false := decide_eq_false c4
          clear c4
          obtain rfl := Option.some.inj H
          go_wp2
          repeat (go_quiet (fail); try go_wp2)
          go_ret
          exact ⟨by first | rfl | (simp; done) | (simp [*]; done), by repeat (first | exact Drawn0.refl _ | apply Drawn0.step)⟩
  · rw [if_neg c3] at H
    have c3b0 : ((l0.length : Int) == (l1.length : Int)) = false := beq_eq_false_iff_ne.mpr c3
    have c3b1 : ((l0.length : Int) != (l1.length : Int)) = true := bne_iff_ne.mpr c3
    have c3b2 : (l0.length == l1.length) = false := by first | simpa using c3 | (simp at c3 ⊢; omega)
    obtain rfl := Option.some.inj H
    go_enter Try.func12, Try.ntmps12
    go_wp2
    repeat (go_quiet (fail); try go_wp2)
    go_ret
    exact ⟨by first | rfl | (simp; done) | (simp [*]; done), by repeat (first | exact Drawn0.refl _ | apply Drawn0.step)⟩

/-! ### arb_Race: function 13 -/
theorem bl_total : ∀ x y : List UInt8, (Op.bytesLess x y || x == y) = !(Op.bytesLess y x)
  | [], [] => by simp [Op.bytesLess]
  | [], b :: y => by simp [Op.bytesLess]
  | a :: x, [] => by simp [Op.bytesLess]
  | a :: x, b :: y => by
    have ih := bl_total x y
    have hlt : (a < b) = (a.toNat < b.toNat) := rfl
    have hgt : (b < a) = (b.toNat < a.toNat) := rfl
    by_cases h : a = b
    · subst h
      have hn : ¬ a < a := by rw [UInt8.lt_iff_toNat_lt]; omega
      simp only [Op.bytesLess, hn, decide_false, Bool.false_or, beq_self_eq_true, Bool.true_and, ← ih]
      simp
    · have hne : (a == b) = false := by simpa using h
      have hne2 : (b == a) = false := by simpa using (fun e => h (Eq.symm e))
      have h3 : (a :: x == b :: y) = false := by simp [h]
      simp only [Op.bytesLess, hne, hne2, h3, Bool.false_and, Bool.or_false]
      rw [Bool.eq_iff_iff]
      simp only [decide_eq_true_eq, Bool.not_eq_true', decide_eq_false_iff_not, hlt, hgt]
      have : a.toNat ≠ b.toNat := fun e => h (UInt8.toNat_inj.mp e)
      omega
theorem leq_str {P : Program} (t : TypeId) (a b : ByteArray) : ∀ W : World, (binOp .leq t (.string a) (.string b)).run P W = .ok (.bool (!(Op.bytesLess b.toList a.toList))) W := by
  intro W
  rw [← bl_total]
  unfold binOp
  simp [Op.stringOp]
/-- Does a text show a nought at a place? -/
def shw (s : ByteArray) (j : Nat) : Bool := decide (j < s.size) && (bt s (j : Int) == 48)
/-- Those of whom the texts show it. -/
def keepL (l : List ByteArray) (j : Nat) (L : List Int) : List Int := L.filter (fun i => shw (rdOf ByteArray.empty l i) j)
/-- The first numbers. -/
def iotaL : Nat → List Int
  | 0 => []
  | n + 1 => iotaL n ++ [(n : Int)]
theorem iotaL_len : ∀ n, (iotaL n).length = n
  | 0 => rfl
  | n + 1 => by simp [iotaL, iotaL_len n]
theorem iotaL_mem : ∀ (n : Nat) (x : Int), x ∈ iotaL n → 0 ≤ x ∧ x < n
  | 0, x, h => by simp [iotaL] at h
  | n + 1, x, h => by
    simp only [iotaL, List.mem_append, List.mem_singleton] at h
    rcases h with h | rfl
    · have := iotaL_mem n x h; omega
    · omega
/-- Who is left behind so many places. -/
def raceN (l : List ByteArray) : Nat → List Int
  | 0 => iotaL l.length
  | j + 1 => if keepL l j (raceN l j) = [] then raceN l j else keepL l j (raceN l j)
theorem keepL_mem (l : List ByteArray) (j : Nat) (L : List Int) (x : Int) (h : x ∈ keepL l j L) : x ∈ L := (List.mem_filter.mp h).1
theorem keepL_len (l : List ByteArray) (j : Nat) (L : List Int) : (keepL l j L).length ≤ L.length := List.length_filter_le _ _
theorem raceN_mem (l : List ByteArray) : ∀ (j : Nat) (x : Int), x ∈ raceN l j → 0 ≤ x ∧ x < l.length
  | 0, x, h => iotaL_mem _ x h
  | j + 1, x, h => by
    simp only [raceN] at h
    split at h
    · exact raceN_mem l j x h
    · exact raceN_mem l j x (keepL_mem l j _ x h)
theorem raceN_len (l : List ByteArray) : ∀ (j : Nat), (raceN l j).length ≤ l.length
  | 0 => by simp [raceN, iotaL_len]
  | j + 1 => by
    simp only [raceN]
    have h := raceN_len l j
    have h2 := keepL_len l j (raceN l j)
    split <;> omega
theorem keepL_take (l : List ByteArray) (j : Nat) (L : List Int) (i : Nat) (hi : i < L.length) (b : Bool) (hb : shw (rdOf ByteArray.empty l (rd L i)) j = b) : keepL l j (L.take (i + 1)) = if b = true then keepL l j (L.take i) ++ [rd L i] else keepL l j (L.take i) := by
  have e : rd L (i : Int) = L[i] := by unfold rd; simp [hi]
  rw [e] at hb ⊢
  rw [List.take_add_one, List.getElem?_eq_getElem hi]
  unfold keepL
  rw [List.filter_append]
  cases b with
  | true => simp [hb]
  | false => simp [hb]
theorem shows_eq (s : ByteArray) (j : Nat) : arb_shows.f s (j : Int) = some (shw s j) := by
  unfold arb_shows.f shw
  by_cases h : j < s.size
  · rw [if_pos (by omega), if_pos (by omega)]
    simp [h]
  · rw [if_neg (by omega)]
    simp [h]
theorem arb_Race.info : (Try.prog.info? 3).map (fun i => (i.zero, i.size, i.bytes)) = some (some (.int .i64 0), 1, 8) := by kernel_rfl
set_option maxRecDepth 1000000 in
set_option maxHeartbeats 8000000 in
theorem keep_any (g1 g3 g5 : Nat) (A0 : Option Addr) (c0 : Nat) (l0 : List ByteArray) (L : List Int) (v : Value) (j base : Nat) (okf : Nat → Prop) (w : World)
    (hB1 : w.heap[g1]? = some (.cells #[.slice A0 l0.length c0] 22 (0, 0))) (hB3 : w.heap[g3]? = some (.cells #[v] 28 (0, 0))) (hB5 : w.heap[g5]? = some (.cells #[.int .i64 j] 3 (0, 0)))
    (hl : Kd.C Kd.string w A0 l0.length l0) (hL : Kd.R (Kd.int .i64) 3 w base okf v L) (hin : ∀ x, x ∈ L → 0 ≤ x ∧ x < l0.length) (hlen : L.length < 17592186044416) :
    Calls Try.prog 26 #[.bool true, .pointer (some ⟨g3, 0, none⟩), .pointer (some ⟨g1, 0, none⟩), .pointer (some ⟨g5, 0, none⟩)] w fun e w' => ∃ v0_ : Value, e = .returned v0_ ∧ Kd.R (Kd.int .i64) 3 w' w.heap.size (fun _ => True) v0_ (keepL l0 j L) ∧ Below w.heap.size w w' := by
  obtain ⟨A, c, rfl, hcL, hC⟩ := Kd.R_reads hL
  clear hL
  have HR0 := Aside0.mk hl
  have HRL := Aside0.mk hC
  have HIN := Aside0.mk hin
  have HLE := Aside0.mk hlen
  have B1 := Aside0.mk hB1
  have B5 := Aside0.mk hB5
  have hc3 : w.cell? ⟨g3, 0, none⟩ = some (.slice A L.length c) := (blk_cell hB3 0).trans rfl
  have HB := Aside0.mk (Below.refl w.heap.size w)
  clear hl hC hin hlen hB1 hB3 hB5
  go_enter Try.func26, Try.ntmps26
  go_wp2
  clear hc3
  go_loopg [6, 11] (L.length + 1) (fun kq v6 v11 w' => ∃ i : Nat, v11 = .int .i64 i ∧ Aside0 (i ≤ L.length ∧ kq + i = L.length + 1) ∧ Aside0 (Kd.R (Kd.int .i64) 3 w' w.heap.size (fun _ => True) v6 (keepL l0 j (L.take i))) ∧ Aside0 (Below w.heap.size w w'))
  case atStart => exact ⟨0, rfl, ⟨by omega⟩, ⟨Kd.R_nil _ _ _ _ _⟩, HB⟩
  case round =>
    obtain ⟨i, rfl, HJ, HO, HB⟩ := hrel
    by_cases hi : i < L.length
    · have hi0 : 0 ≤ (i : Int) := by omega
      have hi1 : (i : Int) < (L.length : Int) := by omega
      obtain ⟨adi, ei, hxi⟩ := Kd.at_int HRL.out (i : Int) hi0 hi1
      cases ei
      have hmem : rd L (i : Int) ∈ L := by
        have e : rd L (i : Int) = L[i] := by unfold rd; simp [hi]
        rw [e]
        exact List.getElem_mem hi
      obtain ⟨hx0, hx1⟩ := HIN.out _ hmem
      have HK := Aside0.mk (keepL_take l0 j L i hi)
      obtain ⟨x, hx⟩ : ∃ x, rd L (i : Int) = x := ⟨_, rfl⟩
      rw [hx] at hxi hx0 hx1 HK
      clear hx hmem
      obtain ⟨ads, es, hxs⟩ := Kd.at_string HR0.out x hx0 hx1
      cases es
      replace hxi := (HB.out.cell (World.block_lt_of_cell? w _ hxi)).trans hxi
      rw [Int.toNat_natCast] at hxi
      replace hxs := (HB.out.cell (World.block_lt_of_cell? w _ hxs)).trans hxs
      have hc1 : wr.cell? ⟨g1, 0, none⟩ = some (.slice (some ads) l0.length c0) := (blk_cell (blk_below B1.out HB.out) 0).trans rfl
      have hc5 : wr.cell? ⟨g5, 0, none⟩ = some (.int .i64 j) := (blk_cell (blk_below B5.out HB.out) 0).trans rfl
      have HS := Aside0.mk (shows_eq (rdOf ByteArray.empty l0 x) j)
      go_wp2
      go_region_held3 (fun w' => w'.cell? ⟨g1, 0, none⟩ = some (.slice (some ads) l0.length c0) ∧ w'.cell? (ads.add x.toNat) = some (.string (rdOf ByteArray.empty l0 x)) ∧ w'.cell? ⟨g5, 0, none⟩ = some (.int .i64 j)) (first | exact ⟨hc1, hxs, hc5⟩ | go_keep) (first | (go_at_call 24; (with_reducible refine (arb_shows.calls (rdOf ByteArray.empty l0 x) j _ _ HS.out).mono ?_); rintro e w' ⟨rfl, ⟨nd, rfl⟩⟩))
      all_goals
        clear hc1 hc5 hxs hxi
        have HO1 := Aside0.mk (Kd.R_drewN HO.out (1 + nd))
        have HB1 := Aside0.mk (pw_below_drewN HB.out (1 + nd))
        clear HO HB
        generalize wr.drewN (1 + nd) = W at HO1 HB1 ⊢
        have hLb := HLE.out
        generalize hbv : shw (rdOf ByteArray.empty l0 x) j = b at ⊢
        have HK1 := Aside0.mk (HK.out b hbv)
        clear HK hbv
        cases b with
        | false =>
          have HO := Aside0.mk (show Kd.R (Kd.int .i64) 3 W w.heap.size (fun _ => True) u6 (keepL l0 j (L.take (i + 1))) by rw [HK1.out]; exact HO1.out)
          clear HO1
          go_wp2
          go_roundg (gk - 1)
          case measure => have := HJ.out; omega
          case rel => exact ⟨i + 1, by first | rfl | go_num, ⟨by have := HJ.out; omega⟩, HO, HB1⟩
        | true =>
          have HLn := Aside0.mk (show (keepL l0 j (L.take i)).length < 17592186044416 by have h1 := keepL_len l0 j (L.take i); rw [List.length_take] at h1; omega)
          go_wp2_with (first | ((with_reducible refine gate_builtin (b := .append) (xs := #[.tmp 23, .tmp 25]) rfl ?_); at_builtin; refine Kd.R_append (Kd.int .i64) (w0 := w) w.heap.size rfl (.tmp 23) (.tmp 25) 28 3 (.int .i64 0) 8 rfl Try.underlying28 arb_Race.info rfl (by decide) (by omega) u6 (keepL l0 j (L.take i)) x [.int .i64 x] (fun _ => True) (fun _ => False) rfl rfl ?aP (fun _ hk => hk.elim) ?aF ?aO ?aB ?aS ?aL ?_; (case aP => exact rfl); (case aB => exact HB1.out); (case aF => exact (fun _ _ => trivial)); (case aO => exact HO1.out); (case aS => exact (below_size HB1.out)); (case aL => have := HLn.out; omega); intro v174 w13 ho hb hg hat; rw [show keepL l0 j (L.take i) ++ [x] = keepL l0 j (L.take (i + 1)) from HK1.out.symm] at ho; have n0_ := Aside0.mk (hb); have n1_ := Aside0.mk (ho); clear HB1; clear HO1; have HB := n0_; have HO := n1_; clear n0_ n1_; clear ho hb hg hat))
          go_roundg (gk - 1)
          case measure => have := HJ.out; omega
          case rel => exact ⟨i + 1, by first | rfl | go_num, ⟨by have := HJ.out; omega⟩, HO, HB⟩
    · have hie : i = L.length := by have := HJ.out; omega
      subst hie
      have HO2 := HO.out
      rw [List.take_length] at HO2
      have HO3 := Aside0.mk HO2
      clear HO2
      go_wp2
      go_ret
      exact ⟨_, rfl, HO3.out, HB.out⟩
def arb_Race.f (k : Nat) (l0 : List ByteArray) : Option (List Int) := (arb_longest.f k l0).bind fun n => if l0.length < 17592186044416 then (if 0 ≤ n ∧ n ≤ 9223372036854775806 then some (raceN l0 n.toNat) else none) else none
theorem arb_Race.mono : ∀ l0 k, LeO (arb_Race.f k l0) (arb_Race.f (k + 1) l0) := by
  intro l0 k
  unfold arb_Race.f
  exact LeO.bind (arb_longest.mono _ k) (fun _ => LeO.refl _)
def RaceJ (A0 : Option Addr) (c0 : Nat) (l0 : List ByteArray) (N : Nat) (w : World) (a' : Act) (w' : World) : Prop :=
  ∃ (j : Nat) (v : Value) (g3 g5 : Nat) (u4 u7 u8 u9 u10 u11 u12 u13 u14 u15 u16 u17 u18 u19 u20 u21 u22 u23 u24 u25 u26 u27 u28 u29 u30 u31 u32 u33 : Value), a' = { tmps := #[.slice A0 l0.length c0, .pointer (some ⟨w.heap.size, 0, none⟩), .slice none 0 0, .pointer (some ⟨g3, 0, none⟩), u4, .pointer (some ⟨g5, 0, none⟩), .int .i64 N, u7, u8, u9, u10, u11, u12, u13, u14, u15, u16, u17, u18, u19, u20, u21, u22, u23, u24, u25, u26, u27, u28, u29, u30, u31, u32, u33], defers := [] } ∧ j ≤ N ∧ w'.heap[w.heap.size]? = some (.cells #[.slice A0 l0.length c0] 22 (0, 0)) ∧ w'.heap[g3]? = some (.cells #[v] 28 (0, 0)) ∧ w'.heap[g5]? = some (.cells #[.int .i64 j] 3 (0, 0)) ∧ Kd.R (Kd.int .i64) 3 w' w.heap.size (fun k => k ≠ g5) v (raceN l0 j) ∧ Below w.heap.size w w' ∧ w.heap.size < g3 ∧ g3 < g5
def cellInt (w : World) : Value → Int
  | .pointer (some ad) => match w.cell? ad with
    | some (.int _ q) => q
    | _ => 0
  | _ => 0
theorem cellInt_of {w : World} {ad : Addr} {k : IntKind} {q : Int} (h : w.cell? ad = some (.int k q)) : cellInt w (.pointer (some ad)) = q := by
  simp only [cellInt, h]
set_option maxRecDepth 1000000 in
set_option maxHeartbeats 8000000 in
theorem arb_Race.calls (k : Nat) (A0 : Option Addr) (c0 : Nat) (l0 : List ByteArray) (r : List Int) (w : World) (hr0 : Kd.C Kd.string w A0 l0.length l0) (hc0 : l0.length ≤ c0) (h : arb_Race.f k l0 = some r) :
    Calls Try.prog 13 #[.slice A0 l0.length c0] w fun e w' => ∃ v0_ : Value, e = .returned (v0_) ∧ Kd.R (Kd.int .i64) 3 w' w.heap.size (fun _ => True) v0_ r ∧ Below w.heap.size w w' := by
  obtain ⟨n, hn, h1⟩ := Option.bind_eq_some_iff.mp h
  by_cases hlb : l0.length < 17592186044416
  case neg => rw [if_neg hlb] at h1; exact absurd h1 (by simp)
  rw [if_pos hlb] at h1
  by_cases hn0 : 0 ≤ n ∧ n ≤ 9223372036854775806
  case neg => rw [if_neg hn0] at h1; exact absurd h1 (by simp)
  rw [if_pos hn0] at h1
  obtain ⟨hn0, hnb⟩ := hn0
  obtain ⟨N, rfl⟩ : ∃ N : Nat, n = N := ⟨n.toNat, by omega⟩
  rw [Int.toNat_natCast] at h1
  obtain rfl := Option.some.inj h1
  have HN := Aside0.mk hn
  have HL := Aside0.mk hlb
  have HC := Aside0.mk hc0
  have HR0 := Aside0.mk hr0
  clear h h1 hn hlb hn0 hc0 hr0
  go_enter Try.func13, Try.ntmps13
  go_wp2
  have B1 := Aside0.mk (blk_new w (Obj.cells #[.slice A0 l0.length c0] 22 (0, 0)))
  have HB := Aside0.mk (below_alloc (Below.refl w.heap.size w) (Obj.cells #[.slice A0 l0.length c0] 22 (0, 0)))
  have HZ := Aside0.mk (show (w.alloc (Obj.cells #[.slice A0 l0.length c0] 22 (0, 0))).heap.size = w.heap.size + 1 by simp)
  generalize w.alloc (Obj.cells #[.slice A0 l0.length c0] 22 (0, 0)) = W1 at B1 HB HZ ⊢
  have ht3 : ∀ q, q ∈ 3 :: (Kd.int .i64).E → q ≠ 28 := by
    intro q hq
    rcases List.mem_cons.mp hq with rfl | h
    · decide
    · cases h
  have HT := Aside0.mk ht3
  clear ht3
  have HNB := Aside0.mk (show N ≤ 9223372036854775806 by omega)
  clear hnb
  refine wp_scope_jumps 0 (RaceJ A0 c0 l0 N w) (fun a' w' => ((N : Int) - cellInt w' (a'.tmps.getD 5 undef)).toNat) rfl ?_ ?_
  · have hc1 : (W1.alloc (Obj.cells #[.slice none 0 0] 28 (0, 0))).cell? ⟨w.heap.size, 0, none⟩ = some (.slice A0 l0.length c0) := (blk_cell (blk_alloc B1.out _) 0).trans rfl
    have B1' := Aside0.mk (blk_alloc B1.out (Obj.cells #[.slice none 0 0] 28 (0, 0)))
    have B3 := Aside0.mk (blk_new W1 (Obj.cells #[.slice none 0 0] 28 (0, 0)))
    have HB' := Aside0.mk (below_alloc HB.out (Obj.cells #[.slice none 0 0] 28 (0, 0)))
    have HG := Aside0.mk (show w.heap.size < W1.heap.size by have := HZ.out; omega)
    go_wp2
    clear hc1
    generalize W1.alloc (Obj.cells #[.slice none 0 0] 28 (0, 0)) = W2 at B1' B3 HB' ⊢
    generalize W1.heap.size = g3 at B3 HG ⊢
    clear B1 HB HZ
    go_loopg [11] (l0.length + 1) (fun kq v11 w' => ∃ (i : Nat) (v : Value), v11 = .int .i64 i ∧ Aside0 (i ≤ l0.length ∧ kq + i = l0.length + 1) ∧ Aside0 (w'.heap[w.heap.size]? = some (.cells #[.slice A0 l0.length c0] 22 (0, 0))) ∧ Aside0 (w'.heap[g3]? = some (.cells #[v] 28 (0, 0))) ∧ Aside0 (Kd.R (Kd.int .i64) 3 w' w.heap.size (fun _ => True) v (iotaL i)) ∧ Aside0 (Below w.heap.size w w'))
    case atStart => exact ⟨0, _, rfl, ⟨by omega⟩, B1', B3, ⟨Kd.R_nil _ _ _ _ _⟩, HB'⟩
    case round =>
      clear B1' B3 HB'
      obtain ⟨i, v, rfl, HJ, B1, B3, HO, HB⟩ := hrel
      by_cases hi : i < l0.length
      · have hc3 : wr.cell? ⟨g3, 0, none⟩ = some v := (blk_cell B3.out 0).trans rfl
        have HLn := Aside0.mk (show (iotaL i).length < 17592186044416 by have := HL.out; rw [iotaL_len]; omega)
        have hlb := HL.out
        go_wp2_with (first | ((with_reducible refine gate_builtin (b := .append) (xs := #[.tmp 14, .tmp 16]) rfl ?_); at_builtin; refine Kd.R_append (Kd.int .i64) (w0 := w) w.heap.size rfl (.tmp 14) (.tmp 16) 28 3 (.int .i64 0) 8 rfl Try.underlying28 arb_Race.info rfl (by decide) (by omega) v (iotaL i) (i : Int) [.int .i64 i] (fun _ => True) (fun _ => False) rfl rfl ?aP (fun _ hk => hk.elim) ?aF ?aO ?aB ?aS ?aL ?_; (case aP => exact rfl); (case aB => exact HB.out); (case aF => exact (fun _ _ => trivial)); (case aO => exact HO.out); (case aS => exact (below_size HB.out)); (case aL => have := HLn.out; omega); intro v174 w13 ho hb hg hat; obtain ⟨n9, A9, c9, rfl⟩ : (∃ (n9 : Nat) (A9 : Option Addr) (c9 : Nat), v174 = Value.slice A9 n9 c9) := (by obtain ⟨A, c, h⟩ := Kd.R_slice ho; exact ⟨_, A, c, h⟩); have n0_ := Aside0.mk (hb); have n1_ := Aside0.mk (ho); have n2_ := Aside0.mk (blk_grown B1.out hg (Kd.R_ne HO.out B1.out (by decide))); have n3_ := Aside0.mk (blk_grown B3.out hg (Kd.R_ne HO.out B3.out (by decide))); have hd3 : w13.cell? ⟨g3, 0, none⟩ = some v := ((blk_cell n3_.out 0).trans rfl); have hf3 := blk_frozen n3_.out 0; clear HB HO B1 B3; have HB := n0_; have HO := n1_; have B1 := n2_; have B3 := n3_; clear n0_ n1_ n2_ n3_; clear ho hb hg hat hc3))
        have HB2 := Aside0.mk (below_set (j := 0) (v := Value.slice A9 n9 c9) HB.out (Nat.le_of_lt HG.out))
        have HO2 := Aside0.mk (Kd.R_set HO.out B3.out HT.out 0 (Value.slice A9 n9 c9))
        have B12 := Aside0.mk (blk_far B1.out (p := ⟨g3, 0, none⟩) (show w.heap.size ≠ g3 by have := HG.out; omega) (Value.slice A9 n9 c9))
        have B32 := Aside0.mk (blk_put B3.out 0 (Value.slice A9 n9 c9) rfl)
        clear hd3 hf3
        go_roundg (gk - 1)
        case measure => have := HJ.out; omega
        case rel => exact ⟨i + 1, _, by first | rfl | go_num, ⟨by have := HJ.out; omega⟩, B12, B32, HO2, HB2⟩
      · have hie : i = l0.length := by have := HJ.out; omega
        subst hie
        have hc1 : wr.cell? ⟨w.heap.size, 0, none⟩ = some (.slice A0 l0.length c0) := (blk_cell B1.out 0).trans rfl
        go_wp2_with (first | (go_at_call 23; (with_reducible refine (arb_longest.calls k _ _ l0 N _ ?s1 ?s2 HN.out).mono ?_); (case s1 => exact Kd.C_below HR0.out HB.out); (case s2 => exact HC.out); rintro e w4 ⟨rfl, hb4⟩; have n0_ := Aside0.mk (below_step HB.out hb4); have n1_ := Aside0.mk (blk_below B1.out hb4); have n2_ := Aside0.mk (blk_below B3.out hb4); have n3_ := Aside0.mk (Kd.R_below HO.out hb4); clear HB B1 B3 HO hb4; have HB := n0_; have B1 := n1_; have B3 := n2_; have HO := n3_; clear n0_ n1_ n2_ n3_; clear hc1))
        have B5 := Aside0.mk (blk_new w4 (Obj.cells #[.int .i64 0] 3 (0, 0)))
        have n0_ := Aside0.mk (below_alloc HB.out (Obj.cells #[.int .i64 0] 3 (0, 0)))
        have n1_ := Aside0.mk (blk_alloc B1.out (Obj.cells #[.int .i64 0] 3 (0, 0)))
        have n2_ := Aside0.mk (blk_alloc B3.out (Obj.cells #[.int .i64 0] 3 (0, 0)))
        have n3_ := Aside0.mk (Kd.R_mono (Kd.R_alloc (Kd.R_elderB HO.out w4.heap.size (Nat.le_refl _)) (Obj.cells #[.int .i64 0] 3 (0, 0))) (fun _ hk => hk.2) : Kd.R (Kd.int .i64) 3 _ w.heap.size (fun k => k ≠ w4.heap.size) v (iotaL l0.length))
        have hg35 : g3 < w4.heap.size := blk_lt B3.out
        clear HB B1 B3 HO
        have HB := n0_
        have B1 := n1_
        have B3 := n2_
        have HO := n3_
        clear n0_ n1_ n2_ n3_
        go_step3
        generalize w4.alloc (Obj.cells #[.int .i64 0] 3 (0, 0)) = W at B1 B3 B5 HO HB ⊢
        generalize w4.heap.size = g5 at B5 HO hg35 ⊢
        obtain ⟨j, hj0⟩ : ∃ j : Nat, j = 0 := ⟨0, rfl⟩
        have hjN : j ≤ N := by omega
        replace B5 := Aside0.mk (show W.heap[g5]? = some (.cells #[.int .i64 (j : Int)] 3 (0, 0)) by rw [hj0]; exact B5.out)
        replace HO := Aside0.mk (show Kd.R (Kd.int .i64) 3 W w.heap.size (fun k => k ≠ g5) v (raceN l0 j) by rw [hj0]; exact HO.out)
        clear hj0
        have HG2 := Aside0.mk (show g3 < g5 from hg35)
        by_cases hje : j = N
        · have hc5 : W.cell? ⟨g5, 0, none⟩ = some (.int .i64 (j : Int)) := (blk_cell B5.out 0).trans rfl
          have hc3 : W.cell? ⟨g3, 0, none⟩ = some v := (blk_cell B3.out 0).trans rfl
          have hcv : (j : Int) = (N : Int) := by omega
          have HO2 := Aside0.mk (Kd.R_mono HO.out (fun _ _ => trivial) : Kd.R (Kd.int .i64) 3 W w.heap.size (fun _ => True) v (raceN l0 j))
          rw [hje] at HO2
          clear HO
          go_wp2
          (try simp only [Exit.jump])
          go_ret
          exact ⟨_, rfl, HO2.out, HB.out⟩
        · have hc5 : W.cell? ⟨g5, 0, none⟩ = some (.int .i64 (j : Int)) := (blk_cell B5.out 0).trans rfl
          have hne : ¬ (j : Int) = (N : Int) := by omega
          have HK := Aside0.mk (keep_any w.heap.size g3 g5 A0 c0 l0 (raceN l0 j) v j w.heap.size (fun k => k ≠ g5) W B1.out B3.out B5.out (Kd.C_below HR0.out HB.out) HO.out (raceN_mem l0 j) (Nat.lt_of_le_of_lt (raceN_len l0 j) HL.out))
          have hlt : j < N := by omega
          by_cases hke : keepL l0 j (raceN l0 j) = []
          · go_upto_region 14 with (first | (go_at_call 26; (with_reducible refine (HK.out).mono ?_); rintro e w6 ⟨v6, rfl, ho6, hb6⟩; obtain ⟨n6, A6, c6, rfl, hn6⟩ : (∃ (n6 : Nat) (A6 : Option Addr) (c6 : Nat), v6 = Value.slice A6 n6 c6 ∧ n6 = (keepL l0 j (raceN l0 j)).length) := (by obtain ⟨A, c, h⟩ := Kd.R_slice ho6; exact ⟨_, A, c, h, rfl⟩); (have hp6 : n6 = 0 := by simp [hn6, hke]); subst hp6; have n0_ := Aside0.mk (below_step HB.out hb6); have n1_ := Aside0.mk (blk_below B1.out hb6); have n2_ := Aside0.mk (blk_below B3.out hb6); have n5_ := Aside0.mk (blk_below B5.out hb6); have n3_ := Aside0.mk (Kd.R_below HO.out hb6); have n4_ := Aside0.mk (Kd.R_lower (Kd.R_mono (Kd.R_newB ho6 B5.out) (fun _ hk => hk.2)) (below_size HB.out) : Kd.R (Kd.int .i64) 3 w6 w.heap.size (fun k => k ≠ g5) (Value.slice A6 0 c6) (keepL l0 j (raceN l0 j))); have hc3 : w6.cell? ⟨g3, 0, none⟩ = some v := ((blk_cell n2_.out 0).trans rfl); have hf3 := blk_frozen n2_.out 0; clear HB B1 B3 B5 HO hb6 ho6 hn6; have HB := n0_; have B1 := n1_; have B3 := n2_; have B5 := n5_; have HO := n3_; have HO6 := n4_; clear n0_ n1_ n2_ n3_ n4_ n5_; clear hc5))
            clear hc3 hf3 HO6
            have n0_ := Aside0.mk (below_set (j := 0) (v := Value.int .i64 ((j : Int) + 1)) HB.out (show w.heap.size ≤ g5 by have := HG.out; have := HG2.out; omega))
            have n1_ := Aside0.mk (blk_far B1.out (p := ⟨g5, 0, none⟩) (show w.heap.size ≠ g5 by have := HG.out; have := HG2.out; omega) (Value.int .i64 ((j : Int) + 1)))
            have n2_ := Aside0.mk (blk_far B3.out (p := ⟨g5, 0, none⟩) (show g3 ≠ g5 by have := HG2.out; omega) (Value.int .i64 ((j : Int) + 1)))
            have n3_ := Aside0.mk (blk_put (cs' := #[Value.int .i64 ((j + 1 : Nat) : Int)]) B5.out 0 (Value.int .i64 ((j : Int) + 1)) rfl)
            have n4_ := Aside0.mk (Kd.R_far HO.out (p := ⟨g5, 0, none⟩) (fun k hk => hk) (Value.int .i64 ((j : Int) + 1)))
            have n5_ := Aside0.mk ((blk_cell n3_.out 0).trans rfl : (_ : World).cell? ⟨g5, 0, none⟩ = some (.int .i64 ((j + 1 : Nat) : Int)))
            have hc5 : w6.cell? ⟨g5, 0, none⟩ = some (.int .i64 (j : Int)) := (blk_cell B5.out 0).trans rfl
            have hf5 := blk_frozen B5.out 0
            have hnb := HNB.out
            go_wp2
            go_step3
            exact ⟨rfl, ⟨j + 1, _, g3, g5, _, _, _, _, _, _, _, _, _, _, _, _, _, _, _, _, _, _, _, _, _, _, _, _, _, _, _, _, rfl, by omega, n1_.out, n2_.out, n3_.out, by rw [raceN, if_pos hke]; exact n4_.out, n0_.out, HG.out, HG2.out⟩⟩
          · go_upto_region 14 with (first | (go_at_call 26; (with_reducible refine (HK.out).mono ?_); rintro e w6 ⟨v6, rfl, ho6, hb6⟩; obtain ⟨n6, A6, c6, rfl, hn6⟩ : (∃ (n6 : Nat) (A6 : Option Addr) (c6 : Nat), v6 = Value.slice A6 n6 c6 ∧ n6 = (keepL l0 j (raceN l0 j)).length) := (by obtain ⟨A, c, h⟩ := Kd.R_slice ho6; exact ⟨_, A, c, h, rfl⟩); (have hp6 : (0 : Int) < (n6 : Int) := by have := List.length_pos_iff.mpr hke; omega); have n0_ := Aside0.mk (below_step HB.out hb6); have n1_ := Aside0.mk (blk_below B1.out hb6); have n2_ := Aside0.mk (blk_below B3.out hb6); have n5_ := Aside0.mk (blk_below B5.out hb6); have n3_ := Aside0.mk (Kd.R_below HO.out hb6); have n4_ := Aside0.mk (Kd.R_lower (Kd.R_mono (Kd.R_newB ho6 B5.out) (fun _ hk => hk.2)) (below_size HB.out) : Kd.R (Kd.int .i64) 3 w6 w.heap.size (fun k => k ≠ g5) (Value.slice A6 n6 c6) (keepL l0 j (raceN l0 j))); have hc3 : w6.cell? ⟨g3, 0, none⟩ = some v := ((blk_cell n2_.out 0).trans rfl); have hf3 := blk_frozen n2_.out 0; clear HB B1 B3 B5 HO hb6 ho6 hn6; have HB := n0_; have B1 := n1_; have B3 := n2_; have B5 := n5_; have HO := n3_; have HO6 := n4_; clear n0_ n1_ n2_ n3_ n4_ n5_; clear hc5))
            clear hc3 hf3 HO
            have n0_ := Aside0.mk (below_set (j := 0) (v := Value.slice A6 n6 c6) HB.out (Nat.le_of_lt HG.out))
            have n1_ := Aside0.mk (blk_far B1.out (p := ⟨g3, 0, none⟩) (show w.heap.size ≠ g3 by have := HG.out; omega) (Value.slice A6 n6 c6))
            have n2_ := Aside0.mk (blk_put (cs' := #[Value.slice A6 n6 c6]) B3.out 0 (Value.slice A6 n6 c6) rfl)
            have n3_ := Aside0.mk (blk_far B5.out (p := ⟨g3, 0, none⟩) (show g5 ≠ g3 by have := HG2.out; omega) (Value.slice A6 n6 c6))
            have n4_ := Aside0.mk (Kd.R_set HO6.out B3.out HT.out 0 (Value.slice A6 n6 c6))
            clear HB B1 B3 B5 HO6
            have HB := n0_
            have B1 := n1_
            have B3 := n2_
            have B5 := n3_
            have HO := n4_
            clear n0_ n1_ n2_ n3_ n4_
            generalize w6.setCell ⟨g3, 0, none⟩ (Value.slice A6 n6 c6) = W7 at HB B1 B3 B5 HO ⊢
            have n0_ := Aside0.mk (below_set (j := 0) (v := Value.int .i64 ((j : Int) + 1)) HB.out (show w.heap.size ≤ g5 by have := HG.out; have := HG2.out; omega))
            have n1_ := Aside0.mk (blk_far B1.out (p := ⟨g5, 0, none⟩) (show w.heap.size ≠ g5 by have := HG.out; have := HG2.out; omega) (Value.int .i64 ((j : Int) + 1)))
            have n2_ := Aside0.mk (blk_far B3.out (p := ⟨g5, 0, none⟩) (show g3 ≠ g5 by have := HG2.out; omega) (Value.int .i64 ((j : Int) + 1)))
            have n3_ := Aside0.mk (blk_put (cs' := #[Value.int .i64 ((j + 1 : Nat) : Int)]) B5.out 0 (Value.int .i64 ((j : Int) + 1)) rfl)
            have n4_ := Aside0.mk (Kd.R_far HO.out (p := ⟨g5, 0, none⟩) (fun k hk => hk) (Value.int .i64 ((j : Int) + 1)))
            have n5_ := Aside0.mk ((blk_cell n3_.out 0).trans rfl : (_ : World).cell? ⟨g5, 0, none⟩ = some (.int .i64 ((j + 1 : Nat) : Int)))
            have hc5 : W7.cell? ⟨g5, 0, none⟩ = some (.int .i64 (j : Int)) := (blk_cell B5.out 0).trans rfl
            have hf5 := blk_frozen B5.out 0
            have hnb := HNB.out
            go_wp2
            go_step3
            exact ⟨rfl, ⟨j + 1, _, g3, g5, _, _, _, _, _, _, _, _, _, _, _, _, _, _, _, _, _, _, _, _, _, _, _, _, _, _, _, _, rfl, by omega, n1_.out, n2_.out, n3_.out, by rw [raceN, if_neg hke]; exact n4_.out, n0_.out, HG.out, HG2.out⟩⟩
  · rintro a' W ⟨j, v, g3, g5, u4, u7, u8, u9, u10, u11, u12, u13, u14, u15, u16, u17, u18, u19, u20, u21, u22, u23, u24, u25, u26, u27, u28, u29, u30, u31, u32, u33, rfl, hjN, hb1, hb3, hb5, hR, hB, hg1, hg2⟩
    have B1 := Aside0.mk hb1
    have B3 := Aside0.mk hb3
    have B5 := Aside0.mk hb5
    have HO := Aside0.mk hR
    have HB := Aside0.mk hB
    have HG := Aside0.mk hg1
    have HC0 := Aside0.mk ((blk_cell hb5 0).trans rfl : W.cell? ⟨g5, 0, none⟩ = some (.int .i64 (j : Int)))
    clear hb1 hb3 hb5 hR hB hg1
    have HG2 := Aside0.mk (show g3 < g5 from hg2)
    by_cases hje : j = N
    · have hc5 : W.cell? ⟨g5, 0, none⟩ = some (.int .i64 (j : Int)) := (blk_cell B5.out 0).trans rfl
      have hc3 : W.cell? ⟨g3, 0, none⟩ = some v := (blk_cell B3.out 0).trans rfl
      have hcv : (j : Int) = (N : Int) := by omega
      have HO2 := Aside0.mk (Kd.R_mono HO.out (fun _ _ => trivial) : Kd.R (Kd.int .i64) 3 W w.heap.size (fun _ => True) v (raceN l0 j))
      rw [hje] at HO2
      clear HO
      go_wp2
      (try simp only [Exit.jump])
      go_ret
      exact ⟨_, rfl, HO2.out, HB.out⟩
    · have hc5 : W.cell? ⟨g5, 0, none⟩ = some (.int .i64 (j : Int)) := (blk_cell B5.out 0).trans rfl
      have hne : ¬ (j : Int) = (N : Int) := by omega
      have HK := Aside0.mk (keep_any w.heap.size g3 g5 A0 c0 l0 (raceN l0 j) v j w.heap.size (fun k => k ≠ g5) W B1.out B3.out B5.out (Kd.C_below HR0.out HB.out) HO.out (raceN_mem l0 j) (Nat.lt_of_le_of_lt (raceN_len l0 j) HL.out))
      have hlt : j < N := by omega
      by_cases hke : keepL l0 j (raceN l0 j) = []
      · go_upto_region 14 with (first | (go_at_call 26; (with_reducible refine (HK.out).mono ?_); rintro e w6 ⟨v6, rfl, ho6, hb6⟩; obtain ⟨n6, A6, c6, rfl, hn6⟩ : (∃ (n6 : Nat) (A6 : Option Addr) (c6 : Nat), v6 = Value.slice A6 n6 c6 ∧ n6 = (keepL l0 j (raceN l0 j)).length) := (by obtain ⟨A, c, h⟩ := Kd.R_slice ho6; exact ⟨_, A, c, h, rfl⟩); (have hp6 : n6 = 0 := by simp [hn6, hke]); subst hp6; have n0_ := Aside0.mk (below_step HB.out hb6); have n1_ := Aside0.mk (blk_below B1.out hb6); have n2_ := Aside0.mk (blk_below B3.out hb6); have n5_ := Aside0.mk (blk_below B5.out hb6); have n3_ := Aside0.mk (Kd.R_below HO.out hb6); have n4_ := Aside0.mk (Kd.R_lower (Kd.R_mono (Kd.R_newB ho6 B5.out) (fun _ hk => hk.2)) (below_size HB.out) : Kd.R (Kd.int .i64) 3 w6 w.heap.size (fun k => k ≠ g5) (Value.slice A6 0 c6) (keepL l0 j (raceN l0 j))); have hc3 : w6.cell? ⟨g3, 0, none⟩ = some v := ((blk_cell n2_.out 0).trans rfl); have hf3 := blk_frozen n2_.out 0; clear HB B1 B3 B5 HO hb6 ho6 hn6; have HB := n0_; have B1 := n1_; have B3 := n2_; have B5 := n5_; have HO := n3_; have HO6 := n4_; clear n0_ n1_ n2_ n3_ n4_ n5_; clear hc5))
        clear hc3 hf3 HO6
        have n0_ := Aside0.mk (below_set (j := 0) (v := Value.int .i64 ((j : Int) + 1)) HB.out (show w.heap.size ≤ g5 by have := HG.out; have := HG2.out; omega))
        have n1_ := Aside0.mk (blk_far B1.out (p := ⟨g5, 0, none⟩) (show w.heap.size ≠ g5 by have := HG.out; have := HG2.out; omega) (Value.int .i64 ((j : Int) + 1)))
        have n2_ := Aside0.mk (blk_far B3.out (p := ⟨g5, 0, none⟩) (show g3 ≠ g5 by have := HG2.out; omega) (Value.int .i64 ((j : Int) + 1)))
        have n3_ := Aside0.mk (blk_put (cs' := #[Value.int .i64 ((j + 1 : Nat) : Int)]) B5.out 0 (Value.int .i64 ((j : Int) + 1)) rfl)
        have n4_ := Aside0.mk (Kd.R_far HO.out (p := ⟨g5, 0, none⟩) (fun k hk => hk) (Value.int .i64 ((j : Int) + 1)))
        have n5_ := Aside0.mk ((blk_cell n3_.out 0).trans rfl : (_ : World).cell? ⟨g5, 0, none⟩ = some (.int .i64 ((j + 1 : Nat) : Int)))
        have hc5 : w6.cell? ⟨g5, 0, none⟩ = some (.int .i64 (j : Int)) := (blk_cell B5.out 0).trans rfl
        have hf5 := blk_frozen B5.out 0
        have hnb := HNB.out
        go_wp2
        go_step3
        exact ⟨rfl, ⟨j + 1, _, g3, g5, _, _, _, _, _, _, _, _, _, _, _, _, _, _, _, _, _, _, _, _, _, _, _, _, _, _, _, _, rfl, by omega, n1_.out, n2_.out, n3_.out, by rw [raceN, if_pos hke]; exact n4_.out, n0_.out, HG.out, HG2.out⟩, by (show ((N : Int) - cellInt _ (.pointer (some ⟨g5, 0, none⟩))).toNat < ((N : Int) - cellInt W (.pointer (some ⟨g5, 0, none⟩))).toNat); rw [cellInt_of n5_.out, cellInt_of HC0.out]; omega⟩
      · go_upto_region 14 with (first | (go_at_call 26; (with_reducible refine (HK.out).mono ?_); rintro e w6 ⟨v6, rfl, ho6, hb6⟩; obtain ⟨n6, A6, c6, rfl, hn6⟩ : (∃ (n6 : Nat) (A6 : Option Addr) (c6 : Nat), v6 = Value.slice A6 n6 c6 ∧ n6 = (keepL l0 j (raceN l0 j)).length) := (by obtain ⟨A, c, h⟩ := Kd.R_slice ho6; exact ⟨_, A, c, h, rfl⟩); (have hp6 : (0 : Int) < (n6 : Int) := by have := List.length_pos_iff.mpr hke; omega); have n0_ := Aside0.mk (below_step HB.out hb6); have n1_ := Aside0.mk (blk_below B1.out hb6); have n2_ := Aside0.mk (blk_below B3.out hb6); have n5_ := Aside0.mk (blk_below B5.out hb6); have n3_ := Aside0.mk (Kd.R_below HO.out hb6); have n4_ := Aside0.mk (Kd.R_lower (Kd.R_mono (Kd.R_newB ho6 B5.out) (fun _ hk => hk.2)) (below_size HB.out) : Kd.R (Kd.int .i64) 3 w6 w.heap.size (fun k => k ≠ g5) (Value.slice A6 n6 c6) (keepL l0 j (raceN l0 j))); have hc3 : w6.cell? ⟨g3, 0, none⟩ = some v := ((blk_cell n2_.out 0).trans rfl); have hf3 := blk_frozen n2_.out 0; clear HB B1 B3 B5 HO hb6 ho6 hn6; have HB := n0_; have B1 := n1_; have B3 := n2_; have B5 := n5_; have HO := n3_; have HO6 := n4_; clear n0_ n1_ n2_ n3_ n4_ n5_; clear hc5))
        clear hc3 hf3 HO
        have n0_ := Aside0.mk (below_set (j := 0) (v := Value.slice A6 n6 c6) HB.out (Nat.le_of_lt HG.out))
        have n1_ := Aside0.mk (blk_far B1.out (p := ⟨g3, 0, none⟩) (show w.heap.size ≠ g3 by have := HG.out; omega) (Value.slice A6 n6 c6))
        have n2_ := Aside0.mk (blk_put (cs' := #[Value.slice A6 n6 c6]) B3.out 0 (Value.slice A6 n6 c6) rfl)
        have n3_ := Aside0.mk (blk_far B5.out (p := ⟨g3, 0, none⟩) (show g5 ≠ g3 by have := HG2.out; omega) (Value.slice A6 n6 c6))
        have n4_ := Aside0.mk (Kd.R_set HO6.out B3.out HT.out 0 (Value.slice A6 n6 c6))
        clear HB B1 B3 B5 HO6
        have HB := n0_
        have B1 := n1_
        have B3 := n2_
        have B5 := n3_
        have HO := n4_
        clear n0_ n1_ n2_ n3_ n4_
        generalize w6.setCell ⟨g3, 0, none⟩ (Value.slice A6 n6 c6) = W7 at HB B1 B3 B5 HO ⊢
        have n0_ := Aside0.mk (below_set (j := 0) (v := Value.int .i64 ((j : Int) + 1)) HB.out (show w.heap.size ≤ g5 by have := HG.out; have := HG2.out; omega))
        have n1_ := Aside0.mk (blk_far B1.out (p := ⟨g5, 0, none⟩) (show w.heap.size ≠ g5 by have := HG.out; have := HG2.out; omega) (Value.int .i64 ((j : Int) + 1)))
        have n2_ := Aside0.mk (blk_far B3.out (p := ⟨g5, 0, none⟩) (show g3 ≠ g5 by have := HG2.out; omega) (Value.int .i64 ((j : Int) + 1)))
        have n3_ := Aside0.mk (blk_put (cs' := #[Value.int .i64 ((j + 1 : Nat) : Int)]) B5.out 0 (Value.int .i64 ((j : Int) + 1)) rfl)
        have n4_ := Aside0.mk (Kd.R_far HO.out (p := ⟨g5, 0, none⟩) (fun k hk => hk) (Value.int .i64 ((j : Int) + 1)))
        have n5_ := Aside0.mk ((blk_cell n3_.out 0).trans rfl : (_ : World).cell? ⟨g5, 0, none⟩ = some (.int .i64 ((j + 1 : Nat) : Int)))
        have hc5 : W7.cell? ⟨g5, 0, none⟩ = some (.int .i64 (j : Int)) := (blk_cell B5.out 0).trans rfl
        have hf5 := blk_frozen B5.out 0
        have hnb := HNB.out
        go_wp2
        go_step3
        exact ⟨rfl, ⟨j + 1, _, g3, g5, _, _, _, _, _, _, _, _, _, _, _, _, _, _, _, _, _, _, _, _, _, _, _, _, _, _, _, _, rfl, by omega, n1_.out, n2_.out, n3_.out, by rw [raceN, if_neg hke]; exact n4_.out, n0_.out, HG.out, HG2.out⟩, by (show ((N : Int) - cellInt _ (.pointer (some ⟨g5, 0, none⟩))).toNat < ((N : Int) - cellInt W (.pointer (some ⟨g5, 0, none⟩))).toNat); rw [cellInt_of n5_.out, cellInt_of HC0.out]; omega⟩

end Go.Proofs.Ytlhglkmiclcbcaa.PArbLeast
