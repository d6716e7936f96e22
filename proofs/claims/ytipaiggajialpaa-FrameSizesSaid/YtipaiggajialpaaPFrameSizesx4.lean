-- Laid by a program of the session over the kit's print. Not trusted: Lean checks it.
import Derived.Test.YtipaiggajialpaaPFrameSizesx0
import Derived.Test.YtipaiggajialpaaPFrameSizesx1
import Derived.Test.YtipaiggajialpaaPFrameSizesx3
namespace Go.Proofs.Ytipaiggajialpaa.PFrameSizes
open Go.RowKit Go.Proofs.YtipaiggajialpaaW.PrintWords Go.Proofs.YtipaiggajialpaaW.PrintLast Go.Proofs.YtipaiggajialpaaW.PrintMore
attribute [local go_sem] max2_int min2_int max_two min_two max_three min_three max_four min_four   -- for this text's walks alone
set_option linter.unusedVariables false
set_option linter.unusedSimpArgs false

/-! ### frame_Fit: function 22 -/
theorem fit1 (n x : Int) (b : Nat) (w : World) (hb : w.heap[b]? = some (.cells #[.int .i64 n] 3 (0, 0))) :
    Calls Try.prog 36 #[.int .i64 x, .pointer (some ⟨b, 0, none⟩)] w fun e w' => e = .returned (.bool (decide (n ≤ x))) ∧ w = w' := by
  have hc0 : w.cell? ⟨b, 0, none⟩ = some (.int .i64 n) := (blk_cell hb 0).trans rfl
  clear hb
  go_enter Try.func36, Try.ntmps36
  go_wp2
  go_ret
  exact ⟨rfl, rfl⟩

def frame_Fit.f (a0 : Int) : Option (Int × Bool) := some (if a0 < 0 then (0, false) else ((frst (fun x => decide (a0 ≤ x)) 0 szL).2.1, (frst (fun x => decide (a0 ≤ x)) 0 szL).2.2))
set_option maxHeartbeats 8000000 in
theorem frame_Fit.calls (a0 : Int) (r1 : Int) (r2 : Bool) (w : World) (h : frame_Fit.f a0 = some (r1, r2)) :
    Calls Try.prog 22 #[.int .i64 a0] w fun e w' => e = .returned (.tuple #[.int .i64 r1, .bool r2]) ∧ Below w.heap.size w w' := by
  have h1 := Option.some.inj h
  clear h
  by_cases hn : a0 < 0
  · rw [if_pos hn] at h1
    obtain ⟨rfl, rfl⟩ := Prod.mk.inj h1
    clear h1
    go_enter Try.func22, Try.ntmps22
    go_wp2
    go_ret2
    exact ⟨rfl, below_alloc (Below.refl _ _) _⟩
  · rw [if_neg hn] at h1
    have HR := Aside0.mk h1
    clear h1
    go_enter Try.func22, Try.ntmps22
    go_wp2_with (go_at_call 33; (with_reducible refine (first_any (fun x => decide (a0 ≤ x)) 36 w.heap.size (.cells #[.int .i64 a0] 3 (0, 0)) _ (blk_new w _) (fun args W => enters_ Try.func36 rfl (by kernel_rfl) args W) (fun x W hb => fit1 a0 x _ W hb)).mono ?_); rintro e w1 ⟨rfl, hw⟩; have HB := Aside0.mk ((below_alloc (Below.refl w.heap.size w) (.cells #[.int .i64 a0] 3 (0, 0))).trans (hw.mono (by simp))); clear hw)
    go_ret2
    obtain ⟨rfl, rfl⟩ := Prod.mk.inj HR.out
    exact ⟨rfl, HB.out⟩

/-! ### signalboxref02_Fit: function 23 -/
def signalboxref02_Fit.l0 : Nat → Int → List Int → Int → Option (Int)
  | 0, _, _, _ => none
  | k + 1, x0, x3, x4 => if x4 < (x3.length : Int) then (if x0 ≥ 0 then (if 0 ≤ x4 then (if (rd x3 x4) ≥ x0 then (some (rd x3 x4)) else (signalboxref02_Fit.l0 k x0 x3 (wrap64 (x4 + 1)))) else (none)) else (signalboxref02_Fit.l0 k x0 x3 (wrap64 (x4 + 1)))) else (some (-1))
def signalboxref02_Fit.f (k : Nat) (a0 : Int) : Option (Int) := (signalboxref02_Sizes.f).bind fun t149 => (signalboxref02_Fit.l0 k a0 t149 0)
theorem signalboxref02_Fit.mono_l : ∀ k, (∀ y0 y1 y2, LeO (signalboxref02_Fit.l0 k y0 y1 y2) (signalboxref02_Fit.l0 (k + 1) y0 y1 y2))
  | 0 => fun _ _ _ r h => by simp [signalboxref02_Fit.l0] at h
  | k + 1 => by
    have ih0 := signalboxref02_Fit.mono_l k
    · intro y0 y1 y2
      unfold signalboxref02_Fit.l0
      repeat' first
      | (with_reducible exact ih0 _ _ _)
      | (with_reducible exact LeO.refl _)
      | (with_reducible exact LeO.none _)
      | (with_reducible refine LeO.ite ?_ ?_)
      | (with_reducible refine LeO.bind ?_ (fun _ => ?_))
      | exact ih0 _ _ _
      | exact LeO.none _
      | refine LeO.ite ?_ ?_
      | refine LeO.bind ?_ (fun _ => ?_)
theorem signalboxref02_Fit.mono : ∀ a0 k, LeO (signalboxref02_Fit.f k a0) (signalboxref02_Fit.f (k + 1) a0) := by
  intro a0 k
  have ih0 := signalboxref02_Fit.mono_l k
  unfold signalboxref02_Fit.f
  repeat' first
      | (with_reducible exact ih0 _ _ _)
      | (with_reducible exact LeO.refl _)
      | (with_reducible exact LeO.none _)
      | (with_reducible refine LeO.ite ?_ ?_)
      | (with_reducible refine LeO.bind ?_ (fun _ => ?_))
      | exact ih0 _ _ _
      | exact LeO.none _
      | refine LeO.ite ?_ ?_
      | refine LeO.bind ?_ (fun _ => ?_)
set_option maxHeartbeats 8000000 in
set_option maxRecDepth 100000 in
theorem signalboxref02_Fit.calls (k : Nat) (a0 : Int) (r : Int) (w : World) (h : signalboxref02_Fit.f k a0 = some r) :
    Calls Try.prog 23 #[.int .i64 a0] w fun e w' => e = .returned (.int .i64 r) ∧ Below w.heap.size w w' := by
  have HB := Aside0.mk (Below.refl w.heap.size w)
  have H : ((signalboxref02_Sizes.f).bind fun t149 => (signalboxref02_Fit.l0 k a0 t149 0)) = some r := h
  clear h
  replace H := Option.bind_eq_some_iff.mp H
  obtain ⟨t149, A20, H⟩ := H
  replace H : (signalboxref02_Fit.l0 k a0 t149 0) = some r := H
  have A2 := Aside0.mk A20
  clear A20
  have H' := Aside0.mk H
  clear H
  go_enter Try.func23, Try.ntmps23
  go_wp2_with (first | ((with_reducible refine gate_callee (f := 21) rfl ?_); refine goesL_ (some 5) rfl rfl Try.func21 (by kernel_rfl) rfl #[] rfl (by (try simp only [List.map_toArray, List.map_cons, List.map_nil]); first | done | rfl | (simp only [List.length_drop, List.length_take]; rfl)) ?_; (with_reducible refine (signalboxref02_Sizes.calls  t149 _ A2.out).mono ?_); rintro e w3 ⟨v150, rfl, ho0, hb⟩; refine ⟨_, rfl, ?_⟩; have n0_ := Aside0.mk (Kd.R_lower ho0 (below_size (by repeat (first | (with_reducible first | exact HB.out | apply below_alloc | apply pw_below_drewN | apply below_drew1) | exact HB.out)))); have n1_ := Aside0.mk (below_step (by repeat (first | (with_reducible first | exact HB.out | apply below_alloc | apply pw_below_drewN | apply below_drew1) | exact HB.out)) hb); clear HB; have HO151 := n0_; have HB := n1_; clear n0_ n1_; (try clear hb); (try clear hb2); (try clear hk); (try clear hi); (try clear ho0)))
  go_loopg [4] k (fun kq v4 w' => ∃ (x4_1 : Int), v4 = .int .i64 x4_1 ∧ Aside0 (signalboxref02_Fit.l0 kq a0 t149 x4_1 = some r) ∧ Aside0 (kq ≤ k) ∧ Aside0 (Kd.R (Kd.int .i64) 3 w' w.heap.size (fun _ => True) v150 t149) ∧ Aside0 (Below w.heap.size w w'))
  case atStart => exact ⟨(0), (by first | rfl | (simp; done) | (simp [*]; done)), H', ⟨Nat.le_refl _⟩, ⟨by (with_reducible repeat (first | apply Kd.R_alloc | apply Kd.R_drewN | apply Kd.R_drew)); exact HO151.out⟩, ⟨by repeat (first | (with_reducible first | exact HB.out | apply below_alloc | apply pw_below_drewN | apply below_drew1) | exact HB.out)⟩⟩
  case round =>
    clear H'
    try clear c2
    try clear p2
    obtain ⟨x4_1, rfl, HA, HK1, HO_3, HB⟩ := hrel
    cases gk with
    | zero => exact absurd HA.out (by simp [signalboxref02_Fit.l0])
    | succ k1 =>
      have H := HA.out
      clear HA
      simp only [signalboxref02_Fit.l0] at H
      by_cases c4 : x4_1 < (t149.length : Int)
      · rw [if_pos c4] at H
        have c4b0 : decide (x4_1 < (t149.length : Int)) = true := decide_eq_true c4
        clear c4
        by_cases c5 : a0 ≥ 0
        · rw [if_pos c5] at H
          have c5b0 : decide (0 ≤ a0) = true := decide_eq_true c5
          clear c5
          by_cases c6 : 0 ≤ x4_1
          · rw [if_pos c6] at H
            have c6b0 : decide (0 ≤ x4_1) = true := decide_eq_true c6
            clear c6
            by_cases c7 : (rd t149 x4_1) ≥ a0
            · rw [if_pos c7] at H
              have c7b0 : decide (a0 ≤ (rd t149 x4_1)) = true := decide_eq_true c7
              clear c7
              obtain rfl := Option.some.inj H
              obtain ⟨Ao8, co8, eo8⟩ := Kd.R_slice HO_3.out
              subst eo8
              have p152 : 0 ≤ (x4_1 : Int) := of_decide_eq_true (by first | (with_reducible assumption) | assumption)
              have q152 : x4_1 < (t149.length : Int) := of_decide_eq_true (by first | (with_reducible assumption) | assumption)
              obtain ⟨ad152, e152, hx152_0⟩ := Kd.at_int (Kd.R_reads' HO_3.out).2.2 x4_1 p152 q152
              cases e152
              replace p152 := eq_true p152
              replace q152 := eq_true q152
              have p153 : 0 ≤ (x4_1 : Int) := of_decide_eq_true (by first | (with_reducible assumption) | assumption)
              have q153 : x4_1 < (t149.length : Int) := of_decide_eq_true (by first | (with_reducible assumption) | assumption)
              obtain ⟨ad153, e153, hx153_0⟩ := Kd.at_int (Kd.R_reads' HO_3.out).2.2 x4_1 p153 q153
              obtain rfl : ad152 = ad153 := (by injection e153)
              replace p153 := eq_true p153
              replace q153 := eq_true q153
              go_wp2
              go_ret
              exact ⟨by first | rfl | (simp [errW_none, errW_some] <;> rfl) | (simp [*, errW_none, errW_some] <;> rfl), by repeat (first | (with_reducible first | exact HB.out | apply below_alloc | apply pw_below_drewN | apply below_drew1) | exact HB.out)⟩
            · rw [if_neg c7] at H
              have c7b0 : decide (a0 ≤ (rd t149 x4_1)) = false := decide_eq_false c7
              clear c7
              have H' := Aside0.mk H
              clear H
              obtain ⟨Ao9, co9, eo9⟩ := Kd.R_slice HO_3.out
              subst eo9
              have p152 : 0 ≤ (x4_1 : Int) := of_decide_eq_true (by first | (with_reducible assumption) | assumption)
              have q152 : x4_1 < (t149.length : Int) := of_decide_eq_true (by first | (with_reducible assumption) | assumption)
              obtain ⟨ad152, e152, hx152_0⟩ := Kd.at_int (Kd.R_reads' HO_3.out).2.2 x4_1 p152 q152
              cases e152
              replace p152 := eq_true p152
              replace q152 := eq_true q152
              go_wp2
              go_roundg k1
              case measure => have := HK1.out; omega
              case rel => exact ⟨(wrap64 (x4_1 + 1)), (by first | rfl | (simp; done) | (simp [*]; done)), H', ⟨by have := HK1.out; omega⟩, ⟨by (with_reducible repeat (first | apply Kd.R_alloc | apply Kd.R_drewN | apply Kd.R_drew)); exact HO_3.out⟩, ⟨by repeat (first | (with_reducible first | exact HB.out | apply below_alloc | apply pw_below_drewN | apply below_drew1) | exact HB.out)⟩⟩
          · rw [if_neg c6] at H
            exact absurd H (by simp)
        · rw [if_neg c5] at H
          have c5b0 : decide (0 ≤ a0) = false := decide_eq_false c5
          clear c5
          have H' := Aside0.mk H
          clear H
          obtain ⟨Ao10, co10, eo10⟩ := Kd.R_slice HO_3.out
          subst eo10
          go_wp2
          go_roundg k1
          case measure => have := HK1.out; omega
          case rel => exact ⟨(wrap64 (x4_1 + 1)), (by first | rfl | (simp; done) | (simp [*]; done)), H', ⟨by have := HK1.out; omega⟩, ⟨by (with_reducible repeat (first | apply Kd.R_alloc | apply Kd.R_drewN | apply Kd.R_drew)); exact HO_3.out⟩, ⟨by repeat (first | (with_reducible first | exact HB.out | apply below_alloc | apply pw_below_drewN | apply below_drew1) | exact HB.out)⟩⟩
      · rw [if_neg c4] at H
        have c4b0 : decide (x4_1 < (t149.length : Int)) = false := decide_eq_false c4
        clear c4
        obtain rfl := Option.some.inj H
        obtain ⟨Ao11, co11, eo11⟩ := Kd.R_slice HO_3.out
        subst eo11
        go_wp2
        go_ret
        exact ⟨by first | rfl | (simp [errW_none, errW_some] <;> rfl) | (simp [*, errW_none, errW_some] <;> rfl), by repeat (first | (with_reducible first | exact HB.out | apply below_alloc | apply pw_below_drewN | apply below_drew1) | exact HB.out)⟩

/-! ### signalboxlaw02_FrameSizes: function 7 -/
mutual
def signalboxlaw02_FrameSizes.j0 : Nat → Int → Bool → Option (Bool)
  | 0, _, _ => none
  | k + 1, x0, x37 => if x37 = true then (some false) else ((frame_Size.f x0).bind fun bt158 => (if x0 ≥ 0 then (if (bt158.2 != (decide (x0 < 16))) = true then (signalboxlaw02_FrameSizes.j1 k x0 bt158.1 bt158.2 true) else (if bt158.2 = true then ((signalboxref02_Sizes.f).bind fun t160 => (if 0 ≤ x0 then (if x0 < (t160.length : Int) then (if bt158.1 = (rd t160 x0) then (signalboxlaw02_FrameSizes.j1 k x0 bt158.1 bt158.2 false) else (signalboxlaw02_FrameSizes.j1 k x0 bt158.1 bt158.2 true)) else (none)) else (none))) else (signalboxlaw02_FrameSizes.j1 k x0 bt158.1 bt158.2 (bt158.1 != 0)))) else (if (bt158.2 != false) = true then (signalboxlaw02_FrameSizes.j1 k x0 bt158.1 bt158.2 true) else (if bt158.2 = true then ((signalboxref02_Sizes.f).bind fun t164 => (if 0 ≤ x0 then (if x0 < (t164.length : Int) then (if bt158.1 = (rd t164 x0) then (signalboxlaw02_FrameSizes.j1 k x0 bt158.1 bt158.2 false) else (signalboxlaw02_FrameSizes.j1 k x0 bt158.1 bt158.2 true)) else (none)) else (none))) else (signalboxlaw02_FrameSizes.j1 k x0 bt158.1 bt158.2 (bt158.1 != 0))))))
def signalboxlaw02_FrameSizes.j1 : Nat → Int → Int → Bool → Bool → Option (Bool)
  | 0, _, _, _, _ => none
  | k + 1, x0, x5, x6, x69 => if x69 = true then (some false) else ((frame_Fit.f x0).bind fun bt168 => ((signalboxref02_Fit.f k x0).bind fun t170 => (if (bt168.2 != (decide (t170 ≥ 0))) = true then (signalboxlaw02_FrameSizes.j2 k x0 x5 x6 true) else (if bt168.2 = true then ((signalboxref02_Fit.f k x0).bind fun t171 => (if bt168.1 = t171 then (signalboxlaw02_FrameSizes.j2 k x0 x5 x6 false) else (signalboxlaw02_FrameSizes.j2 k x0 x5 x6 true))) else (signalboxlaw02_FrameSizes.j2 k x0 x5 x6 (bt168.1 != 0))))))
def signalboxlaw02_FrameSizes.j2 : Nat → Int → Int → Bool → Bool → Option (Bool)
  | 0, _, _, _, _ => none
  | k + 1, x0, x5, x6, x96 => if x96 = true then (some false) else (if x6 = true then ((frame_Code.f x5).bind fun bt172 => (if bt172.1 = x0 then (if bt172.2 = true then ((signalboxlaw02_alive.f k).bind fun t174 => (some t174)) else (some false)) else (some false))) else ((signalboxlaw02_alive.f k).bind fun t175 => (some t175)))
end
def signalboxlaw02_FrameSizes.f (k : Nat) (a0 : Int) : Option (Bool) := (frame_Code.f a0).bind fun bt154 => ((signalboxref02_Code.f k a0).bind fun t156 => (if (bt154.2 != (decide (t156 ≥ 0))) = true then (signalboxlaw02_FrameSizes.j0 k a0 true) else (if bt154.2 = true then ((signalboxref02_Code.f k a0).bind fun t157 => (if bt154.1 = t157 then (signalboxlaw02_FrameSizes.j0 k a0 false) else (signalboxlaw02_FrameSizes.j0 k a0 true))) else (signalboxlaw02_FrameSizes.j0 k a0 (bt154.1 != 0)))))
theorem signalboxlaw02_FrameSizes.mono_l : ∀ k, (∀ y0 y1, LeO (signalboxlaw02_FrameSizes.j0 k y0 y1) (signalboxlaw02_FrameSizes.j0 (k + 1) y0 y1)) ∧ (∀ y0 y1 y2 y3, LeO (signalboxlaw02_FrameSizes.j1 k y0 y1 y2 y3) (signalboxlaw02_FrameSizes.j1 (k + 1) y0 y1 y2 y3)) ∧ (∀ y0 y1 y2 y3, LeO (signalboxlaw02_FrameSizes.j2 k y0 y1 y2 y3) (signalboxlaw02_FrameSizes.j2 (k + 1) y0 y1 y2 y3))
  | 0 => ⟨fun _ _ r h => by simp [signalboxlaw02_FrameSizes.j0] at h, fun _ _ _ _ r h => by simp [signalboxlaw02_FrameSizes.j1] at h, fun _ _ _ _ r h => by simp [signalboxlaw02_FrameSizes.j2] at h⟩
  | k + 1 => by
    obtain ⟨ih0, ih1, ih2⟩ := signalboxlaw02_FrameSizes.mono_l k
    refine ⟨?_, ?_, ?_⟩
    · intro y0 y1
      unfold signalboxlaw02_FrameSizes.j0
      repeat' first
      | (with_reducible exact ih0 _ _)
      | (with_reducible exact ih1 _ _ _ _)
      | (with_reducible exact ih2 _ _ _ _)
      | (with_reducible exact signalboxlaw02_alive.mono _)
      | (with_reducible exact signalboxref02_Code.mono _ _)
      | (with_reducible exact signalboxref02_Fit.mono _ _)
      | (with_reducible exact LeO.refl _)
      | (with_reducible exact LeO.none _)
      | (with_reducible refine LeO.ite ?_ ?_)
      | (with_reducible refine LeO.bind ?_ (fun _ => ?_))
      | exact ih0 _ _
      | exact ih1 _ _ _ _
      | exact ih2 _ _ _ _
      | exact signalboxlaw02_alive.mono _
      | exact signalboxref02_Code.mono _ _
      | exact signalboxref02_Fit.mono _ _
      | exact LeO.none _
      | refine LeO.ite ?_ ?_
      | refine LeO.bind ?_ (fun _ => ?_)
    · intro y0 y1 y2 y3
      unfold signalboxlaw02_FrameSizes.j1
      repeat' first
      | (with_reducible exact ih0 _ _)
      | (with_reducible exact ih1 _ _ _ _)
      | (with_reducible exact ih2 _ _ _ _)
      | (with_reducible exact signalboxlaw02_alive.mono _)
      | (with_reducible exact signalboxref02_Code.mono _ _)
      | (with_reducible exact signalboxref02_Fit.mono _ _)
      | (with_reducible exact LeO.refl _)
      | (with_reducible exact LeO.none _)
      | (with_reducible refine LeO.ite ?_ ?_)
      | (with_reducible refine LeO.bind ?_ (fun _ => ?_))
      | exact ih0 _ _
      | exact ih1 _ _ _ _
      | exact ih2 _ _ _ _
      | exact signalboxlaw02_alive.mono _
      | exact signalboxref02_Code.mono _ _
      | exact signalboxref02_Fit.mono _ _
      | exact LeO.none _
      | refine LeO.ite ?_ ?_
      | refine LeO.bind ?_ (fun _ => ?_)
    · intro y0 y1 y2 y3
      unfold signalboxlaw02_FrameSizes.j2
      repeat' first
      | (with_reducible exact ih0 _ _)
      | (with_reducible exact ih1 _ _ _ _)
      | (with_reducible exact ih2 _ _ _ _)
      | (with_reducible exact signalboxlaw02_alive.mono _)
      | (with_reducible exact signalboxref02_Code.mono _ _)
      | (with_reducible exact signalboxref02_Fit.mono _ _)
      | (with_reducible exact LeO.refl _)
      | (with_reducible exact LeO.none _)
      | (with_reducible refine LeO.ite ?_ ?_)
      | (with_reducible refine LeO.bind ?_ (fun _ => ?_))
      | exact ih0 _ _
      | exact ih1 _ _ _ _
      | exact ih2 _ _ _ _
      | exact signalboxlaw02_alive.mono _
      | exact signalboxref02_Code.mono _ _
      | exact signalboxref02_Fit.mono _ _
      | exact LeO.none _
      | refine LeO.ite ?_ ?_
      | refine LeO.bind ?_ (fun _ => ?_)
theorem signalboxlaw02_FrameSizes.mono : ∀ a0 k, LeO (signalboxlaw02_FrameSizes.f k a0) (signalboxlaw02_FrameSizes.f (k + 1) a0) := by
  intro a0 k
  obtain ⟨ih0, ih1, ih2⟩ := signalboxlaw02_FrameSizes.mono_l k
  unfold signalboxlaw02_FrameSizes.f
  repeat' first
      | (with_reducible exact ih0 _ _)
      | (with_reducible exact ih1 _ _ _ _)
      | (with_reducible exact ih2 _ _ _ _)
      | (with_reducible exact signalboxlaw02_alive.mono _)
      | (with_reducible exact signalboxref02_Code.mono _ _)
      | (with_reducible exact signalboxref02_Fit.mono _ _)
      | (with_reducible exact LeO.refl _)
      | (with_reducible exact LeO.none _)
      | (with_reducible refine LeO.ite ?_ ?_)
      | (with_reducible refine LeO.bind ?_ (fun _ => ?_))
      | exact ih0 _ _
      | exact ih1 _ _ _ _
      | exact ih2 _ _ _ _
      | exact signalboxlaw02_alive.mono _
      | exact signalboxref02_Code.mono _ _
      | exact signalboxref02_Fit.mono _ _
      | exact LeO.none _
      | refine LeO.ite ?_ ?_
      | refine LeO.bind ?_ (fun _ => ?_)
set_option maxHeartbeats 8000000 in
set_option maxRecDepth 100000 in
theorem signalboxlaw02_FrameSizes.calls (k : Nat) (a0 : Int) (r : Bool) (w : World) (h : signalboxlaw02_FrameSizes.f k a0 = some r) :
    Calls Try.prog 7 #[.int .i64 a0] w fun e w' => e = .returned (.bool r) ∧ Below w.heap.size w w' := by
  have HB := Aside0.mk (Below.refl w.heap.size w)
  have H : ((frame_Code.f a0).bind fun bt154 => ((signalboxref02_Code.f k a0).bind fun t156 => (if (bt154.2 != (decide (t156 ≥ 0))) = true then (signalboxlaw02_FrameSizes.j0 k a0 true) else (if bt154.2 = true then ((signalboxref02_Code.f k a0).bind fun t157 => (if bt154.1 = t157 then (signalboxlaw02_FrameSizes.j0 k a0 false) else (signalboxlaw02_FrameSizes.j0 k a0 true))) else (signalboxlaw02_FrameSizes.j0 k a0 (bt154.1 != 0)))))) = some r := h
  clear h
  replace H := Option.bind_eq_some_iff.mp H
  obtain ⟨⟨t154, t155⟩, A20, H⟩ := H
  replace H : ((signalboxref02_Code.f k a0).bind fun t156 => (if (t155 != (decide (t156 ≥ 0))) = true then (signalboxlaw02_FrameSizes.j0 k a0 true) else (if t155 = true then ((signalboxref02_Code.f k a0).bind fun t157 => (if t154 = t157 then (signalboxlaw02_FrameSizes.j0 k a0 false) else (signalboxlaw02_FrameSizes.j0 k a0 true))) else (signalboxlaw02_FrameSizes.j0 k a0 (t154 != 0))))) = some r := H
  have A2 := Aside0.mk A20
  clear A20
  have HC3 := Aside0.mk H
  clear H
  go_enter Try.func7, Try.ntmps7
  go_upto_region 2 with (first | ((with_reducible refine gate_callee (f := 18) rfl ?_); refine goesL_ (some 13) rfl rfl Try.func18 (by kernel_rfl) rfl #[.int .i64 a0] rfl (by (try simp only [List.map_toArray, List.map_cons, List.map_nil]); first | done | rfl | (simp only [List.length_drop, List.length_take]; rfl)) ?_; (with_reducible refine (frame_Code.calls a0 t154 t155 _ A2.out).mono ?_); rintro e w4 ⟨rfl, hb⟩; refine ⟨_, rfl, ?_⟩; have n0_ := Aside0.mk (below_step (by repeat (first | (with_reducible first | exact HB.out | apply below_alloc | apply pw_below_drewN | apply below_drew1) | exact HB.out)) hb); clear HB; have HB := n0_; clear n0_; (try clear hb); (try clear hb2); (try clear hk); (try clear hi)))
  (try simp only [Act.put, List.setIfInBounds_toArray, List.set_cons_zero, List.set_cons_succ])
  go_cut [37] (fun v37 wc => ∃ (kq : Nat) (x37_2 : Bool), v37 = .bool x37_2 ∧ Aside0 (signalboxlaw02_FrameSizes.j0 kq a0 x37_2 = some r) ∧ Aside0 (kq ≤ k) ∧ Aside0 (Below w.heap.size w wc))
  case first =>
    have H := HC3.out
    clear HC3
    replace H := Option.bind_eq_some_iff.mp H
    obtain ⟨t156, A50, H⟩ := H
    replace H : (if (t155 != (decide (t156 ≥ 0))) = true then (signalboxlaw02_FrameSizes.j0 k a0 true) else (if t155 = true then ((signalboxref02_Code.f k a0).bind fun t157 => (if t154 = t157 then (signalboxlaw02_FrameSizes.j0 k a0 false) else (signalboxlaw02_FrameSizes.j0 k a0 true))) else (signalboxlaw02_FrameSizes.j0 k a0 (t154 != 0)))) = some r := H
    have A5 := Aside0.mk A50
    clear A50
    by_cases c6 : (t155 != (decide (t156 ≥ 0))) = true
    · rw [if_pos c6] at H
      have c6b0 : (t155 != (decide (t156 ≥ 0))) = true := c6
      (try (have c6b1 : decide (t155 = (decide (t156 ≥ 0))) = false := by simpa using c6))
      (try (have c6b2 : (t155 == (decide (t156 ≥ 0))) = false := by simpa using c6))
      (try (have c6b3 : ¬ (t155 = (decide (t156 ≥ 0))) := by simpa using c6))
      clear c6
      (first | rw [c6b0] | (simp only [i64_w, i32_w]; rw [c6b0]) | skip)
      have H' := Aside0.mk H
      clear H
      go_wp2_with (first | ((with_reducible refine gate_callee (f := 19) rfl ?_); refine goesL_ (some 18) rfl rfl Try.func19 (by kernel_rfl) rfl #[.int .i64 a0] rfl (by (try simp only [List.map_toArray, List.map_cons, List.map_nil]); first | done | rfl | (simp only [List.length_drop, List.length_take]; rfl)) ?_; (with_reducible refine (signalboxref02_Code.calls k a0 t156 _ A5.out).mono ?_); rintro e w7 ⟨rfl, hb⟩; refine ⟨_, rfl, ?_⟩; have n0_ := Aside0.mk (below_step (by repeat (first | (with_reducible first | exact HB.out | apply below_alloc | apply pw_below_drewN | apply below_drew1) | exact HB.out)) hb); clear HB; have HB := n0_; clear n0_; (try clear hb); (try clear hb2); (try clear hk); (try clear hi)))
      go_meet
      case rel => exact ⟨_, (true), (by first | rfl | (simp; done) | (simp [*]; done)), H', ⟨by first | omega | exact Nat.le_refl _⟩, ⟨by repeat (first | (with_reducible first | exact HB.out | apply below_alloc | apply pw_below_drewN | apply below_drew1) | exact HB.out)⟩⟩
    · rw [if_neg c6] at H
      have c6b0 : (t155 != (decide (t156 ≥ 0))) = false := by simpa using c6
      (try (have c6b1 : decide (t155 = (decide (t156 ≥ 0))) = true := by simpa using c6))
      (try (have c6b2 : (t155 == (decide (t156 ≥ 0))) = true := by simpa using c6))
      clear c6
      (first | rw [c6b0] | (simp only [i64_w, i32_w]; rw [c6b0]) | skip)
      by_cases c8 : t155 = true
      · subst c8
        have H1 : ((signalboxref02_Code.f k a0).bind fun t157 => (if t154 = t157 then (signalboxlaw02_FrameSizes.j0 k a0 false) else (signalboxlaw02_FrameSizes.j0 k a0 true))) = some r := by rw [if_pos rfl] at H; exact H
        clear H
        have H := H1
        clear H1
        replace H := Option.bind_eq_some_iff.mp H
        obtain ⟨t157, A90, H⟩ := H
        replace H : (if t154 = t157 then (signalboxlaw02_FrameSizes.j0 k a0 false) else (signalboxlaw02_FrameSizes.j0 k a0 true)) = some r := H
        have A9 := Aside0.mk A90
        clear A90
        by_cases c10 : t154 = t157
        · rw [if_pos c10] at H
          have c10b0 : (t154 == t157) = true := beq_iff_eq.mpr c10
          have c10b1 : (t154 != t157) = false := bne_eq_false_iff_eq.mpr c10
          clear c10
          have H' := Aside0.mk H
          clear H
          go_wp2_with (first | ((with_reducible refine gate_callee (f := 19) rfl ?_); refine goesL_ (some 18) rfl rfl Try.func19 (by kernel_rfl) rfl #[.int .i64 a0] rfl (by (try simp only [List.map_toArray, List.map_cons, List.map_nil]); first | done | rfl | (simp only [List.length_drop, List.length_take]; rfl)) ?_; (with_reducible refine (signalboxref02_Code.calls k a0 t156 _ A5.out).mono ?_); clear A5; rintro e w11 ⟨rfl, hb⟩; refine ⟨_, rfl, ?_⟩; have n0_ := Aside0.mk (below_step (by repeat (first | (with_reducible first | exact HB.out | apply below_alloc | apply pw_below_drewN | apply below_drew1) | exact HB.out)) hb); clear HB; have HB := n0_; clear n0_; (try clear hb); (try clear hb2); (try clear hk); (try clear hi)) | (go_at_call 19; (with_reducible refine (signalboxref02_Code.calls k a0 t157 _ A9.out).mono ?_); clear A9; rintro e w12 ⟨rfl, hb⟩; have n0_ := Aside0.mk (below_step (by repeat (first | (with_reducible first | exact HB.out | apply below_alloc | apply pw_below_drewN | apply below_drew1) | exact HB.out)) hb); clear HB; have HB := n0_; clear n0_; (try clear hb); (try clear hb2); (try clear hk); (try clear hi)))
          go_meet
          case rel => exact ⟨_, (false), (by first | rfl | (simp; done) | (simp [*]; done)), H', ⟨by first | omega | exact Nat.le_refl _⟩, ⟨by repeat (first | (with_reducible first | exact HB.out | apply below_alloc | apply pw_below_drewN | apply below_drew1) | exact HB.out)⟩⟩
        · rw [if_neg c10] at H
          have c10b0 : (t154 == t157) = false := beq_eq_false_iff_ne.mpr c10
          have c10b1 : (t154 != t157) = true := bne_iff_ne.mpr c10
          have H' := Aside0.mk H
          clear H
          go_wp2_with (first | ((with_reducible refine gate_callee (f := 19) rfl ?_); refine goesL_ (some 18) rfl rfl Try.func19 (by kernel_rfl) rfl #[.int .i64 a0] rfl (by (try simp only [List.map_toArray, List.map_cons, List.map_nil]); first | done | rfl | (simp only [List.length_drop, List.length_take]; rfl)) ?_; (with_reducible refine (signalboxref02_Code.calls k a0 t156 _ A5.out).mono ?_); clear A5; rintro e w13 ⟨rfl, hb⟩; refine ⟨_, rfl, ?_⟩; have n0_ := Aside0.mk (below_step (by repeat (first | (with_reducible first | exact HB.out | apply below_alloc | apply pw_below_drewN | apply below_drew1) | exact HB.out)) hb); clear HB; have HB := n0_; clear n0_; (try clear hb); (try clear hb2); (try clear hk); (try clear hi)) | (go_at_call 19; (with_reducible refine (signalboxref02_Code.calls k a0 t157 _ A9.out).mono ?_); clear A9; rintro e w14 ⟨rfl, hb⟩; have n0_ := Aside0.mk (below_step (by repeat (first | (with_reducible first | exact HB.out | apply below_alloc | apply pw_below_drewN | apply below_drew1) | exact HB.out)) hb); clear HB; have HB := n0_; clear n0_; (try clear hb); (try clear hb2); (try clear hk); (try clear hi)))
          go_meet
          case rel => exact ⟨_, (true), (by first | rfl | (simp; done) | (simp [*]; done)), H', ⟨by first | omega | exact Nat.le_refl _⟩, ⟨by repeat (first | (with_reducible first | exact HB.out | apply below_alloc | apply pw_below_drewN | apply below_drew1) | exact HB.out)⟩⟩
      · replace c8 := Bool.eq_false_iff.mpr c8
        subst c8
        have H1 : (signalboxlaw02_FrameSizes.j0 k a0 (t154 != 0)) = some r := by rw [if_neg (show ¬ (false = true) by decide)] at H; exact H
        clear H
        have H := H1
        clear H1
        have H' := Aside0.mk H
        clear H
        go_wp2_with (first | ((with_reducible refine gate_callee (f := 19) rfl ?_); refine goesL_ (some 18) rfl rfl Try.func19 (by kernel_rfl) rfl #[.int .i64 a0] rfl (by (try simp only [List.map_toArray, List.map_cons, List.map_nil]); first | done | rfl | (simp only [List.length_drop, List.length_take]; rfl)) ?_; (with_reducible refine (signalboxref02_Code.calls k a0 t156 _ A5.out).mono ?_); rintro e w15 ⟨rfl, hb⟩; refine ⟨_, rfl, ?_⟩; have n0_ := Aside0.mk (below_step (by repeat (first | (with_reducible first | exact HB.out | apply below_alloc | apply pw_below_drewN | apply below_drew1) | exact HB.out)) hb); clear HB; have HB := n0_; clear n0_; (try clear hb); (try clear hb2); (try clear hk); (try clear hi)))
        go_meet
        case rel => exact ⟨_, ((t154 != 0)), (by first | rfl | (simp; done) | (simp [*]; done)), H', ⟨by first | omega | exact Nat.le_refl _⟩, ⟨by repeat (first | (with_reducible first | exact HB.out | apply below_alloc | apply pw_below_drewN | apply below_drew1) | exact HB.out)⟩⟩
  case rest =>
    clear HC3
    try clear c1
    try clear p2
    try clear c6
    try clear c6b0
    try clear c6b1
    try clear c6b2
    try clear c7
    try clear c8
    try clear c10
    try clear c10b0
    try clear c10b1
    try clear HA
    try clear HJ2
    try clear HB
    obtain ⟨kq, x37_2, rfl, HA, HJ2, HB⟩ := hcut
    cases kq with
    | zero => exact absurd HA.out (by simp [signalboxlaw02_FrameSizes.j0])
    | succ kj2 =>
      have H := HA.out
      clear HA
      simp only [signalboxlaw02_FrameSizes.j0] at H
      by_cases c16 : x37_2 = true
      · subst c16
        have H1 : (some false) = some r := by rw [if_pos rfl] at H; exact H
        clear H
        have H := H1
        clear H1
        obtain rfl := Option.some.inj H
        go_wp2
        go_ret
        exact ⟨by first | rfl | (simp [errW_none, errW_some] <;> rfl) | (simp [*, errW_none, errW_some] <;> rfl), by repeat (first | (with_reducible first | exact HB.out | apply below_alloc | apply pw_below_drewN | apply below_drew1) | exact HB.out)⟩
      · replace c16 := Bool.eq_false_iff.mpr c16
        subst c16
        have H1 : ((frame_Size.f a0).bind fun bt158 => (if a0 ≥ 0 then (if (bt158.2 != (decide (a0 < 16))) = true then (signalboxlaw02_FrameSizes.j1 kj2 a0 bt158.1 bt158.2 true) else (if bt158.2 = true then ((signalboxref02_Sizes.f).bind fun t160 => (if 0 ≤ a0 then (if a0 < (t160.length : Int) then (if bt158.1 = (rd t160 a0) then (signalboxlaw02_FrameSizes.j1 kj2 a0 bt158.1 bt158.2 false) else (signalboxlaw02_FrameSizes.j1 kj2 a0 bt158.1 bt158.2 true)) else (none)) else (none))) else (signalboxlaw02_FrameSizes.j1 kj2 a0 bt158.1 bt158.2 (bt158.1 != 0)))) else (if (bt158.2 != false) = true then (signalboxlaw02_FrameSizes.j1 kj2 a0 bt158.1 bt158.2 true) else (if bt158.2 = true then ((signalboxref02_Sizes.f).bind fun t164 => (if 0 ≤ a0 then (if a0 < (t164.length : Int) then (if bt158.1 = (rd t164 a0) then (signalboxlaw02_FrameSizes.j1 kj2 a0 bt158.1 bt158.2 false) else (signalboxlaw02_FrameSizes.j1 kj2 a0 bt158.1 bt158.2 true)) else (none)) else (none))) else (signalboxlaw02_FrameSizes.j1 kj2 a0 bt158.1 bt158.2 (bt158.1 != 0)))))) = some r := by rw [if_neg (show ¬ (false = true) by decide)] at H; exact H
        clear H
        have H := H1
        clear H1
        replace H := Option.bind_eq_some_iff.mp H
        obtain ⟨⟨t158, t159⟩, A170, H⟩ := H
        replace H : (if a0 ≥ 0 then (if (t159 != (decide (a0 < 16))) = true then (signalboxlaw02_FrameSizes.j1 kj2 a0 t158 t159 true) else (if t159 = true then ((signalboxref02_Sizes.f).bind fun t160 => (if 0 ≤ a0 then (if a0 < (t160.length : Int) then (if t158 = (rd t160 a0) then (signalboxlaw02_FrameSizes.j1 kj2 a0 t158 t159 false) else (signalboxlaw02_FrameSizes.j1 kj2 a0 t158 t159 true)) else (none)) else (none))) else (signalboxlaw02_FrameSizes.j1 kj2 a0 t158 t159 (t158 != 0)))) else (if (t159 != false) = true then (signalboxlaw02_FrameSizes.j1 kj2 a0 t158 t159 true) else (if t159 = true then ((signalboxref02_Sizes.f).bind fun t164 => (if 0 ≤ a0 then (if a0 < (t164.length : Int) then (if t158 = (rd t164 a0) then (signalboxlaw02_FrameSizes.j1 kj2 a0 t158 t159 false) else (signalboxlaw02_FrameSizes.j1 kj2 a0 t158 t159 true)) else (none)) else (none))) else (signalboxlaw02_FrameSizes.j1 kj2 a0 t158 t159 (t158 != 0))))) = some r := H
        have A17 := Aside0.mk A170
        clear A170
        have HC18 := Aside0.mk H
        clear H
        go_upto_region 5 with (first | ((with_reducible refine gate_callee (f := 20) rfl ?_); refine goesL_ (some 40) rfl rfl Try.func20 (by kernel_rfl) rfl #[.int .i64 a0] rfl (by (try simp only [List.map_toArray, List.map_cons, List.map_nil]); first | done | rfl | (simp only [List.length_drop, List.length_take]; rfl)) ?_; (with_reducible refine (frame_Size.calls a0 t158 t159 _ A17.out).mono ?_); rintro e w19 ⟨rfl, hb⟩; refine ⟨_, rfl, ?_⟩; have n0_ := Aside0.mk (below_step (by repeat (first | (with_reducible first | exact HB.out | apply below_alloc | apply pw_below_drewN | apply below_drew1) | exact HB.out)) hb); clear HB; have HB := n0_; clear n0_; (try clear hb); (try clear hb2); (try clear hk); (try clear hi)))
        (try simp only [Act.put, List.setIfInBounds_toArray, List.set_cons_zero, List.set_cons_succ])
        go_cut [69] (fun v69 wc => ∃ (kq : Nat) (x69_17 : Bool), v69 = .bool x69_17 ∧ Aside0 (signalboxlaw02_FrameSizes.j1 kq a0 t158 t159 x69_17 = some r) ∧ Aside0 (kq ≤ kj2) ∧ Aside0 (Below w.heap.size w wc))
        case first =>
          have H := HC18.out
          clear HC18
          by_cases c20 : a0 ≥ 0
          · rw [if_pos c20] at H
            have c20b0 : decide (0 ≤ a0) = true := decide_eq_true c20
            clear c20
            (first | rw [c20b0] | (simp only [i64_w, i32_w]; rw [c20b0]) | skip)
            by_cases c21 : (t159 != (decide (a0 < 16))) = true
            · rw [if_pos c21] at H
              have c21b0 : (t159 != (decide (a0 < 16))) = true := c21
              (try (have c21b1 : decide (t159 = (decide (a0 < 16))) = false := by simpa using c21))
              (try (have c21b2 : (t159 == (decide (a0 < 16))) = false := by simpa using c21))
              (try (have c21b3 : ¬ (t159 = (decide (a0 < 16))) := by simpa using c21))
              clear c21
              have H' := Aside0.mk H
              clear H
              go_wp2
              go_meet
              case rel => exact ⟨_, (true), (by first | rfl | (simp; done) | (simp [*]; done)), H', ⟨by have := HJ2.out; first | omega | exact Nat.le_refl _⟩, ⟨by repeat (first | (with_reducible first | exact HB.out | apply below_alloc | apply pw_below_drewN | apply below_drew1) | exact HB.out)⟩⟩
            · rw [if_neg c21] at H
              have c21b0 : (t159 != (decide (a0 < 16))) = false := by simpa using c21
              (try (have c21b1 : decide (t159 = (decide (a0 < 16))) = true := by simpa using c21))
              (try (have c21b2 : (t159 == (decide (a0 < 16))) = true := by simpa using c21))
              clear c21
              by_cases c22 : t159 = true
              · subst c22
                have H1 : ((signalboxref02_Sizes.f).bind fun t160 => (if 0 ≤ a0 then (if a0 < (t160.length : Int) then (if t158 = (rd t160 a0) then (signalboxlaw02_FrameSizes.j1 kj2 a0 t158 true false) else (signalboxlaw02_FrameSizes.j1 kj2 a0 t158 true true)) else (none)) else (none))) = some r := by rw [if_pos rfl] at H; exact H
                clear H
                have H := H1
                clear H1
                replace H := Option.bind_eq_some_iff.mp H
                obtain ⟨t160, A230, H⟩ := H
                replace H : (if 0 ≤ a0 then (if a0 < (t160.length : Int) then (if t158 = (rd t160 a0) then (signalboxlaw02_FrameSizes.j1 kj2 a0 t158 true false) else (signalboxlaw02_FrameSizes.j1 kj2 a0 t158 true true)) else (none)) else (none)) = some r := H
                have A23 := Aside0.mk A230
                clear A230
                by_cases c24 : 0 ≤ a0
                · rw [if_pos c24] at H
                  have c24b0 : decide (0 ≤ a0) = true := decide_eq_true c24
                  clear c24
                  by_cases c25 : a0 < (t160.length : Int)
                  · rw [if_pos c25] at H
                    have c25b0 : decide (a0 < (t160.length : Int)) = true := decide_eq_true c25
                    clear c25
                    by_cases c26 : t158 = (rd t160 a0)
                    · rw [if_pos c26] at H
                      have c26b0 : (t158 == (rd t160 a0)) = true := beq_iff_eq.mpr c26
                      have c26b1 : (t158 != (rd t160 a0)) = false := bne_eq_false_iff_eq.mpr c26
                      clear c26
                      have H' := Aside0.mk H
                      clear H
                      go_wp2_with (first | (go_at_call 21; (with_reducible refine (signalboxref02_Sizes.calls  t160 _ A23.out).mono ?_); rintro e w27 ⟨v161, rfl, ho0, hb⟩; have n0_ := Aside0.mk (Kd.R_lower ho0 (below_size (by repeat (first | (with_reducible first | exact HB.out | apply below_alloc | apply pw_below_drewN | apply below_drew1) | exact HB.out)))); have n1_ := Aside0.mk (below_step (by repeat (first | (with_reducible first | exact HB.out | apply below_alloc | apply pw_below_drewN | apply below_drew1) | exact HB.out)) hb); clear HB; have HO162 := n0_; have HB := n1_; clear n0_ n1_; (try clear hb); (try clear hb2); (try clear hk); (try clear hi); (try clear ho0); obtain ⟨Ao28, co28, eo28⟩ := Kd.R_slice HO162.out; subst eo28; have p163 : 0 ≤ (a0 : Int) := of_decide_eq_true (by first | (with_reducible assumption) | assumption); have q163 : a0 < (t160.length : Int) := of_decide_eq_true (by first | (with_reducible assumption) | assumption); obtain ⟨ad163, e163, hx163_0⟩ := Kd.at_int (Kd.R_reads' HO162.out).2.2 a0 p163 q163; cases e163; replace p163 := eq_true p163; replace q163 := eq_true q163))
                      go_meet
                      case rel => exact ⟨_, (false), (by first | rfl | (simp; done) | (simp [*]; done)), H', ⟨by have := HJ2.out; first | omega | exact Nat.le_refl _⟩, ⟨by repeat (first | (with_reducible first | exact HB.out | apply below_alloc | apply pw_below_drewN | apply below_drew1) | exact HB.out)⟩⟩
                    · rw [if_neg c26] at H
                      have c26b0 : (t158 == (rd t160 a0)) = false := beq_eq_false_iff_ne.mpr c26
                      have c26b1 : (t158 != (rd t160 a0)) = true := bne_iff_ne.mpr c26
                      have H' := Aside0.mk H
                      clear H
                      go_wp2_with (first | (go_at_call 21; (with_reducible refine (signalboxref02_Sizes.calls  t160 _ A23.out).mono ?_); rintro e w29 ⟨v161, rfl, ho0, hb⟩; have n0_ := Aside0.mk (Kd.R_lower ho0 (below_size (by repeat (first | (with_reducible first | exact HB.out | apply below_alloc | apply pw_below_drewN | apply below_drew1) | exact HB.out)))); have n1_ := Aside0.mk (below_step (by repeat (first | (with_reducible first | exact HB.out | apply below_alloc | apply pw_below_drewN | apply below_drew1) | exact HB.out)) hb); clear HB; have HO162 := n0_; have HB := n1_; clear n0_ n1_; (try clear hb); (try clear hb2); (try clear hk); (try clear hi); (try clear ho0); obtain ⟨Ao30, co30, eo30⟩ := Kd.R_slice HO162.out; subst eo30; have p163 : 0 ≤ (a0 : Int) := of_decide_eq_true (by first | (with_reducible assumption) | assumption); have q163 : a0 < (t160.length : Int) := of_decide_eq_true (by first | (with_reducible assumption) | assumption); obtain ⟨ad163, e163, hx163_0⟩ := Kd.at_int (Kd.R_reads' HO162.out).2.2 a0 p163 q163; cases e163; replace p163 := eq_true p163; replace q163 := eq_true q163))
                      go_meet
                      case rel => exact ⟨_, (true), (by first | rfl | (simp; done) | (simp [*]; done)), H', ⟨by have := HJ2.out; first | omega | exact Nat.le_refl _⟩, ⟨by repeat (first | (with_reducible first | exact HB.out | apply below_alloc | apply pw_below_drewN | apply below_drew1) | exact HB.out)⟩⟩
                  · rw [if_neg c25] at H
                    exact absurd H (by simp)
                · rw [if_neg c24] at H
                  exact absurd H (by simp)
              · replace c22 := Bool.eq_false_iff.mpr c22
                subst c22
                have H1 : (signalboxlaw02_FrameSizes.j1 kj2 a0 t158 false (t158 != 0)) = some r := by rw [if_neg (show ¬ (false = true) by decide)] at H; exact H
                clear H
                have H := H1
                clear H1
                have H' := Aside0.mk H
                clear H
                go_wp2
                go_meet
                case rel => exact ⟨_, ((t158 != 0)), (by first | rfl | (simp; done) | (simp [*]; done)), H', ⟨by have := HJ2.out; first | omega | exact Nat.le_refl _⟩, ⟨by repeat (first | (with_reducible first | exact HB.out | apply below_alloc | apply pw_below_drewN | apply below_drew1) | exact HB.out)⟩⟩
          · rw [if_neg c20] at H
            have c20b0 : decide (0 ≤ a0) = false := decide_eq_false c20
            clear c20
            (first | rw [c20b0] | (simp only [i64_w, i32_w]; rw [c20b0]) | skip)
            by_cases c31 : (t159 != false) = true
            · rw [if_pos c31] at H
              have c31b0 : (t159 != false) = true := c31
              (try (have c31b1 : decide (t159 = false) = false := by simpa using c31))
              (try (have c31b2 : (t159 == false) = false := by simpa using c31))
              (try (have c31b3 : ¬ (t159 = false) := by simpa using c31))
              clear c31
              have H' := Aside0.mk H
              clear H
              go_wp2
              go_meet
              case rel => exact ⟨_, (true), (by first | rfl | (simp; done) | (simp [*]; done)), H', ⟨by have := HJ2.out; first | omega | exact Nat.le_refl _⟩, ⟨by repeat (first | (with_reducible first | exact HB.out | apply below_alloc | apply pw_below_drewN | apply below_drew1) | exact HB.out)⟩⟩
            · rw [if_neg c31] at H
              have c31b0 : (t159 != false) = false := by simpa using c31
              (try (have c31b1 : decide (t159 = false) = true := by simpa using c31))
              (try (have c31b2 : (t159 == false) = true := by simpa using c31))
              clear c31
              by_cases c32 : t159 = true
              · subst c32
                have H1 : ((signalboxref02_Sizes.f).bind fun t164 => (if 0 ≤ a0 then (if a0 < (t164.length : Int) then (if t158 = (rd t164 a0) then (signalboxlaw02_FrameSizes.j1 kj2 a0 t158 true false) else (signalboxlaw02_FrameSizes.j1 kj2 a0 t158 true true)) else (none)) else (none))) = some r := by rw [if_pos rfl] at H; exact H
                clear H
                have H := H1
                clear H1
                replace H := Option.bind_eq_some_iff.mp H
                obtain ⟨t164, A330, H⟩ := H
                replace H : (if 0 ≤ a0 then (if a0 < (t164.length : Int) then (if t158 = (rd t164 a0) then (signalboxlaw02_FrameSizes.j1 kj2 a0 t158 true false) else (signalboxlaw02_FrameSizes.j1 kj2 a0 t158 true true)) else (none)) else (none)) = some r := H
                have A33 := Aside0.mk A330
                clear A330
                by_cases c34 : 0 ≤ a0
                · rw [if_pos c34] at H
                  have c34b0 : decide (0 ≤ a0) = true := decide_eq_true c34
                  clear c34
                  by_cases c35 : a0 < (t164.length : Int)
                  · rw [if_pos c35] at H
                    have c35b0 : decide (a0 < (t164.length : Int)) = true := decide_eq_true c35
                    clear c35
                    by_cases c36 : t158 = (rd t164 a0)
                    · rw [if_pos c36] at H
                      have c36b0 : (t158 == (rd t164 a0)) = true := beq_iff_eq.mpr c36
                      have c36b1 : (t158 != (rd t164 a0)) = false := bne_eq_false_iff_eq.mpr c36
                      clear c36
                      have H' := Aside0.mk H
                      clear H
                      go_wp2_with (first | (go_at_call 21; (with_reducible refine (signalboxref02_Sizes.calls  t164 _ A33.out).mono ?_); rintro e w37 ⟨v165, rfl, ho0, hb⟩; have n0_ := Aside0.mk (Kd.R_lower ho0 (below_size (by repeat (first | (with_reducible first | exact HB.out | apply below_alloc | apply pw_below_drewN | apply below_drew1) | exact HB.out)))); have n1_ := Aside0.mk (below_step (by repeat (first | (with_reducible first | exact HB.out | apply below_alloc | apply pw_below_drewN | apply below_drew1) | exact HB.out)) hb); clear HB; have HO166 := n0_; have HB := n1_; clear n0_ n1_; (try clear hb); (try clear hb2); (try clear hk); (try clear hi); (try clear ho0); obtain ⟨Ao38, co38, eo38⟩ := Kd.R_slice HO166.out; subst eo38; have p167 : 0 ≤ (a0 : Int) := of_decide_eq_true (by first | (with_reducible assumption) | assumption); have q167 : a0 < (t164.length : Int) := of_decide_eq_true (by first | (with_reducible assumption) | assumption); obtain ⟨ad167, e167, hx167_0⟩ := Kd.at_int (Kd.R_reads' HO166.out).2.2 a0 p167 q167; cases e167; replace p167 := eq_true p167; replace q167 := eq_true q167))
                      go_meet
                      case rel => exact ⟨_, (false), (by first | rfl | (simp; done) | (simp [*]; done)), H', ⟨by have := HJ2.out; first | omega | exact Nat.le_refl _⟩, ⟨by repeat (first | (with_reducible first | exact HB.out | apply below_alloc | apply pw_below_drewN | apply below_drew1) | exact HB.out)⟩⟩
                    · rw [if_neg c36] at H
                      have c36b0 : (t158 == (rd t164 a0)) = false := beq_eq_false_iff_ne.mpr c36
                      have c36b1 : (t158 != (rd t164 a0)) = true := bne_iff_ne.mpr c36
                      have H' := Aside0.mk H
                      clear H
                      go_wp2_with (first | (go_at_call 21; (with_reducible refine (signalboxref02_Sizes.calls  t164 _ A33.out).mono ?_); rintro e w39 ⟨v165, rfl, ho0, hb⟩; have n0_ := Aside0.mk (Kd.R_lower ho0 (below_size (by repeat (first | (with_reducible first | exact HB.out | apply below_alloc | apply pw_below_drewN | apply below_drew1) | exact HB.out)))); have n1_ := Aside0.mk (below_step (by repeat (first | (with_reducible first | exact HB.out | apply below_alloc | apply pw_below_drewN | apply below_drew1) | exact HB.out)) hb); clear HB; have HO166 := n0_; have HB := n1_; clear n0_ n1_; (try clear hb); (try clear hb2); (try clear hk); (try clear hi); (try clear ho0); obtain ⟨Ao40, co40, eo40⟩ := Kd.R_slice HO166.out; subst eo40; have p167 : 0 ≤ (a0 : Int) := of_decide_eq_true (by first | (with_reducible assumption) | assumption); have q167 : a0 < (t164.length : Int) := of_decide_eq_true (by first | (with_reducible assumption) | assumption); obtain ⟨ad167, e167, hx167_0⟩ := Kd.at_int (Kd.R_reads' HO166.out).2.2 a0 p167 q167; cases e167; replace p167 := eq_true p167; replace q167 := eq_true q167))
                      go_meet
                      case rel => exact ⟨_, (true), (by first | rfl | (simp; done) | (simp [*]; done)), H', ⟨by have := HJ2.out; first | omega | exact Nat.le_refl _⟩, ⟨by repeat (first | (with_reducible first | exact HB.out | apply below_alloc | apply pw_below_drewN | apply below_drew1) | exact HB.out)⟩⟩
                  · rw [if_neg c35] at H
                    exact absurd H (by simp)
                · rw [if_neg c34] at H
                  exact absurd H (by simp)
              · replace c32 := Bool.eq_false_iff.mpr c32
                subst c32
                have H1 : (signalboxlaw02_FrameSizes.j1 kj2 a0 t158 false (t158 != 0)) = some r := by rw [if_neg (show ¬ (false = true) by decide)] at H; exact H
                clear H
                have H := H1
                clear H1
                have H' := Aside0.mk H
                clear H
                go_wp2
                go_meet
                case rel => exact ⟨_, ((t158 != 0)), (by first | rfl | (simp; done) | (simp [*]; done)), H', ⟨by have := HJ2.out; first | omega | exact Nat.le_refl _⟩, ⟨by repeat (first | (with_reducible first | exact HB.out | apply below_alloc | apply pw_below_drewN | apply below_drew1) | exact HB.out)⟩⟩
        case rest =>
          clear HC18
          try clear c1
          try clear p1
          try clear q1
          try clear hx1
          try clear c2
          try clear p2
          try clear c3
          try clear c6
          try clear c6b0
          try clear c6b1
          try clear c6b2
          try clear c7
          try clear c8
          try clear c10
          try clear c10b0
          try clear c10b1
          try clear c16
          try clear p16
          try clear q16
          try clear hx16
          try clear c18
          try clear c19
          try clear c20
          try clear c20b0
          try clear c21
          try clear c21b0
          try clear c21b1
          try clear c21b2
          try clear c22
          try clear c24
          try clear c24b0
          try clear c25
          try clear c25b0
          try clear c26
          try clear c26b0
          try clear c26b1
          try clear c31
          try clear c31b0
          try clear c31b1
          try clear c31b2
          try clear c32
          try clear c34
          try clear c34b0
          try clear c35
          try clear c35b0
          try clear c36
          try clear c36b0
          try clear c36b1
          try clear hx163_0
          try clear hx167_0
          try clear p163
          try clear p167
          try clear p2
          try clear q163
          try clear q167
          try clear HA
          try clear HJ17
          try clear HB
          obtain ⟨kq, x69_17, rfl, HA, HJ17, HB⟩ := hcut
          cases kq with
          | zero => exact absurd HA.out (by simp [signalboxlaw02_FrameSizes.j1])
          | succ kj17 =>
            have H := HA.out
            clear HA
            simp only [signalboxlaw02_FrameSizes.j1] at H
            by_cases c41 : x69_17 = true
            · subst c41
              have H1 : (some false) = some r := by rw [if_pos rfl] at H; exact H
              clear H
              have H := H1
              clear H1
              obtain rfl := Option.some.inj H
              go_wp2
              go_ret
              exact ⟨by first | rfl | (simp [errW_none, errW_some] <;> rfl) | (simp [*, errW_none, errW_some] <;> rfl), by repeat (first | (with_reducible first | exact HB.out | apply below_alloc | apply pw_below_drewN | apply below_drew1) | exact HB.out)⟩
            · replace c41 := Bool.eq_false_iff.mpr c41
              subst c41
              have H1 : ((frame_Fit.f a0).bind fun bt168 => ((signalboxref02_Fit.f kj17 a0).bind fun t170 => (if (bt168.2 != (decide (t170 ≥ 0))) = true then (signalboxlaw02_FrameSizes.j2 kj17 a0 t158 t159 true) else (if bt168.2 = true then ((signalboxref02_Fit.f kj17 a0).bind fun t171 => (if bt168.1 = t171 then (signalboxlaw02_FrameSizes.j2 kj17 a0 t158 t159 false) else (signalboxlaw02_FrameSizes.j2 kj17 a0 t158 t159 true))) else (signalboxlaw02_FrameSizes.j2 kj17 a0 t158 t159 (bt168.1 != 0)))))) = some r := by rw [if_neg (show ¬ (false = true) by decide)] at H; exact H
              clear H
              have H := H1
              clear H1
              replace H := Option.bind_eq_some_iff.mp H
              obtain ⟨⟨t168, t169⟩, A420, H⟩ := H
              replace H : ((signalboxref02_Fit.f kj17 a0).bind fun t170 => (if (t169 != (decide (t170 ≥ 0))) = true then (signalboxlaw02_FrameSizes.j2 kj17 a0 t158 t159 true) else (if t169 = true then ((signalboxref02_Fit.f kj17 a0).bind fun t171 => (if t168 = t171 then (signalboxlaw02_FrameSizes.j2 kj17 a0 t158 t159 false) else (signalboxlaw02_FrameSizes.j2 kj17 a0 t158 t159 true))) else (signalboxlaw02_FrameSizes.j2 kj17 a0 t158 t159 (t168 != 0))))) = some r := H
              have A42 := Aside0.mk A420
              clear A420
              have HC43 := Aside0.mk H
              clear H
              go_upto_region 8 with (first | ((with_reducible refine gate_callee (f := 22) rfl ?_); refine goesL_ (some 72) rfl rfl Try.func22 (by kernel_rfl) rfl #[.int .i64 a0] rfl (by (try simp only [List.map_toArray, List.map_cons, List.map_nil]); first | done | rfl | (simp only [List.length_drop, List.length_take]; rfl)) ?_; (with_reducible refine (frame_Fit.calls a0 t168 t169 _ A42.out).mono ?_); rintro e w44 ⟨rfl, hb⟩; refine ⟨_, rfl, ?_⟩; have n0_ := Aside0.mk (below_step (by repeat (first | (with_reducible first | exact HB.out | apply below_alloc | apply pw_below_drewN | apply below_drew1) | exact HB.out)) hb); clear HB; have HB := n0_; clear n0_; (try clear hb); (try clear hb2); (try clear hk); (try clear hi)))
              (try simp only [Act.put, List.setIfInBounds_toArray, List.set_cons_zero, List.set_cons_succ])
              go_cut [96] (fun v96 wc => ∃ (kq : Nat) (x96_42 : Bool), v96 = .bool x96_42 ∧ Aside0 (signalboxlaw02_FrameSizes.j2 kq a0 t158 t159 x96_42 = some r) ∧ Aside0 (kq ≤ kj17) ∧ Aside0 (Below w.heap.size w wc))
              case first =>
                have H := HC43.out
                clear HC43
                replace H := Option.bind_eq_some_iff.mp H
                obtain ⟨t170, A450, H⟩ := H
                replace H : (if (t169 != (decide (t170 ≥ 0))) = true then (signalboxlaw02_FrameSizes.j2 kj17 a0 t158 t159 true) else (if t169 = true then ((signalboxref02_Fit.f kj17 a0).bind fun t171 => (if t168 = t171 then (signalboxlaw02_FrameSizes.j2 kj17 a0 t158 t159 false) else (signalboxlaw02_FrameSizes.j2 kj17 a0 t158 t159 true))) else (signalboxlaw02_FrameSizes.j2 kj17 a0 t158 t159 (t168 != 0)))) = some r := H
                have A45 := Aside0.mk A450
                clear A450
                by_cases c46 : (t169 != (decide (t170 ≥ 0))) = true
                · rw [if_pos c46] at H
                  have c46b0 : (t169 != (decide (t170 ≥ 0))) = true := c46
                  (try (have c46b1 : decide (t169 = (decide (t170 ≥ 0))) = false := by simpa using c46))
                  (try (have c46b2 : (t169 == (decide (t170 ≥ 0))) = false := by simpa using c46))
                  (try (have c46b3 : ¬ (t169 = (decide (t170 ≥ 0))) := by simpa using c46))
                  clear c46
                  (first | rw [c46b0] | (simp only [i64_w, i32_w]; rw [c46b0]) | skip)
                  have H' := Aside0.mk H
                  clear H
                  go_wp2_with (first | ((with_reducible refine gate_callee (f := 23) rfl ?_); refine goesL_ (some 77) rfl rfl Try.func23 (by kernel_rfl) rfl #[.int .i64 a0] rfl (by (try simp only [List.map_toArray, List.map_cons, List.map_nil]); first | done | rfl | (simp only [List.length_drop, List.length_take]; rfl)) ?_; (with_reducible refine (signalboxref02_Fit.calls kj17 a0 t170 _ A45.out).mono ?_); rintro e w47 ⟨rfl, hb⟩; refine ⟨_, rfl, ?_⟩; have n0_ := Aside0.mk (below_step (by repeat (first | (with_reducible first | exact HB.out | apply below_alloc | apply pw_below_drewN | apply below_drew1) | exact HB.out)) hb); clear HB; have HB := n0_; clear n0_; (try clear hb); (try clear hb2); (try clear hk); (try clear hi)))
                  go_meet
                  case rel => exact ⟨_, (true), (by first | rfl | (simp; done) | (simp [*]; done)), H', ⟨by have := HJ2.out; have := HJ17.out; first | omega | exact Nat.le_refl _⟩, ⟨by repeat (first | (with_reducible first | exact HB.out | apply below_alloc | apply pw_below_drewN | apply below_drew1) | exact HB.out)⟩⟩
                · rw [if_neg c46] at H
                  have c46b0 : (t169 != (decide (t170 ≥ 0))) = false := by simpa using c46
                  (try (have c46b1 : decide (t169 = (decide (t170 ≥ 0))) = true := by simpa using c46))
                  (try (have c46b2 : (t169 == (decide (t170 ≥ 0))) = true := by simpa using c46))
                  clear c46
                  (first | rw [c46b0] | (simp only [i64_w, i32_w]; rw [c46b0]) | skip)
                  by_cases c48 : t169 = true
                  · subst c48
                    have H1 : ((signalboxref02_Fit.f kj17 a0).bind fun t171 => (if t168 = t171 then (signalboxlaw02_FrameSizes.j2 kj17 a0 t158 t159 false) else (signalboxlaw02_FrameSizes.j2 kj17 a0 t158 t159 true))) = some r := by rw [if_pos rfl] at H; exact H
                    clear H
                    have H := H1
                    clear H1
                    replace H := Option.bind_eq_some_iff.mp H
                    obtain ⟨t171, A490, H⟩ := H
                    replace H : (if t168 = t171 then (signalboxlaw02_FrameSizes.j2 kj17 a0 t158 t159 false) else (signalboxlaw02_FrameSizes.j2 kj17 a0 t158 t159 true)) = some r := H
                    have A49 := Aside0.mk A490
                    clear A490
                    by_cases c50 : t168 = t171
                    · rw [if_pos c50] at H
                      have c50b0 : (t168 == t171) = true := beq_iff_eq.mpr c50
                      have c50b1 : (t168 != t171) = false := bne_eq_false_iff_eq.mpr c50
                      clear c50
                      have H' := Aside0.mk H
                      clear H
                      go_wp2_with (first | ((with_reducible refine gate_callee (f := 23) rfl ?_); refine goesL_ (some 77) rfl rfl Try.func23 (by kernel_rfl) rfl #[.int .i64 a0] rfl (by (try simp only [List.map_toArray, List.map_cons, List.map_nil]); first | done | rfl | (simp only [List.length_drop, List.length_take]; rfl)) ?_; (with_reducible refine (signalboxref02_Fit.calls kj17 a0 t170 _ A45.out).mono ?_); clear A45; rintro e w51 ⟨rfl, hb⟩; refine ⟨_, rfl, ?_⟩; have n0_ := Aside0.mk (below_step (by repeat (first | (with_reducible first | exact HB.out | apply below_alloc | apply pw_below_drewN | apply below_drew1) | exact HB.out)) hb); clear HB; have HB := n0_; clear n0_; (try clear hb); (try clear hb2); (try clear hk); (try clear hi)) | (go_at_call 23; (with_reducible refine (signalboxref02_Fit.calls kj17 a0 t171 _ A49.out).mono ?_); clear A49; rintro e w52 ⟨rfl, hb⟩; have n0_ := Aside0.mk (below_step (by repeat (first | (with_reducible first | exact HB.out | apply below_alloc | apply pw_below_drewN | apply below_drew1) | exact HB.out)) hb); clear HB; have HB := n0_; clear n0_; (try clear hb); (try clear hb2); (try clear hk); (try clear hi)))
                      go_meet
                      case rel => exact ⟨_, (false), (by first | rfl | (simp; done) | (simp [*]; done)), H', ⟨by have := HJ2.out; have := HJ17.out; first | omega | exact Nat.le_refl _⟩, ⟨by repeat (first | (with_reducible first | exact HB.out | apply below_alloc | apply pw_below_drewN | apply below_drew1) | exact HB.out)⟩⟩
                    · rw [if_neg c50] at H
                      have c50b0 : (t168 == t171) = false := beq_eq_false_iff_ne.mpr c50
                      have c50b1 : (t168 != t171) = true := bne_iff_ne.mpr c50
                      have H' := Aside0.mk H
                      clear H
                      go_wp2_with (first | ((with_reducible refine gate_callee (f := 23) rfl ?_); refine goesL_ (some 77) rfl rfl Try.func23 (by kernel_rfl) rfl #[.int .i64 a0] rfl (by (try simp only [List.map_toArray, List.map_cons, List.map_nil]); first | done | rfl | (simp only [List.length_drop, List.length_take]; rfl)) ?_; (with_reducible refine (signalboxref02_Fit.calls kj17 a0 t170 _ A45.out).mono ?_); clear A45; rintro e w53 ⟨rfl, hb⟩; refine ⟨_, rfl, ?_⟩; have n0_ := Aside0.mk (below_step (by repeat (first | (with_reducible first | exact HB.out | apply below_alloc | apply pw_below_drewN | apply below_drew1) | exact HB.out)) hb); clear HB; have HB := n0_; clear n0_; (try clear hb); (try clear hb2); (try clear hk); (try clear hi)) | (go_at_call 23; (with_reducible refine (signalboxref02_Fit.calls kj17 a0 t171 _ A49.out).mono ?_); clear A49; rintro e w54 ⟨rfl, hb⟩; have n0_ := Aside0.mk (below_step (by repeat (first | (with_reducible first | exact HB.out | apply below_alloc | apply pw_below_drewN | apply below_drew1) | exact HB.out)) hb); clear HB; have HB := n0_; clear n0_; (try clear hb); (try clear hb2); (try clear hk); (try clear hi)))
                      go_meet
                      case rel => exact ⟨_, (true), (by first | rfl | (simp; done) | (simp [*]; done)), H', ⟨by have := HJ2.out; have := HJ17.out; first | omega | exact Nat.le_refl _⟩, ⟨by repeat (first | (with_reducible first | exact HB.out | apply below_alloc | apply pw_below_drewN | apply below_drew1) | exact HB.out)⟩⟩
                  · replace c48 := Bool.eq_false_iff.mpr c48
                    subst c48
                    have H1 : (signalboxlaw02_FrameSizes.j2 kj17 a0 t158 t159 (t168 != 0)) = some r := by rw [if_neg (show ¬ (false = true) by decide)] at H; exact H
                    clear H
                    have H := H1
                    clear H1
                    have H' := Aside0.mk H
                    clear H
                    go_wp2_with (first | ((with_reducible refine gate_callee (f := 23) rfl ?_); refine goesL_ (some 77) rfl rfl Try.func23 (by kernel_rfl) rfl #[.int .i64 a0] rfl (by (try simp only [List.map_toArray, List.map_cons, List.map_nil]); first | done | rfl | (simp only [List.length_drop, List.length_take]; rfl)) ?_; (with_reducible refine (signalboxref02_Fit.calls kj17 a0 t170 _ A45.out).mono ?_); rintro e w55 ⟨rfl, hb⟩; refine ⟨_, rfl, ?_⟩; have n0_ := Aside0.mk (below_step (by repeat (first | (with_reducible first | exact HB.out | apply below_alloc | apply pw_below_drewN | apply below_drew1) | exact HB.out)) hb); clear HB; have HB := n0_; clear n0_; (try clear hb); (try clear hb2); (try clear hk); (try clear hi)))
                    go_meet
                    case rel => exact ⟨_, ((t168 != 0)), (by first | rfl | (simp; done) | (simp [*]; done)), H', ⟨by have := HJ2.out; have := HJ17.out; first | omega | exact Nat.le_refl _⟩, ⟨by repeat (first | (with_reducible first | exact HB.out | apply below_alloc | apply pw_below_drewN | apply below_drew1) | exact HB.out)⟩⟩
              case rest =>
                clear HC43
                try clear c1
                try clear p1
                try clear q1
                try clear hx1
                try clear c2
                try clear p2
                try clear c3
                try clear c4
                try clear c5
                try clear c6
                try clear c6b0
                try clear c6b1
                try clear c6b2
                try clear c7
                try clear c8
                try clear c10
                try clear c10b0
                try clear c10b1
                try clear c16
                try clear p16
                try clear q16
                try clear hx16
                try clear c18
                try clear c19
                try clear c20
                try clear c20b0
                try clear c21
                try clear c21b0
                try clear c21b1
                try clear c21b2
                try clear c22
                try clear c23
                try clear c24
                try clear c24b0
                try clear c25
                try clear c25b0
                try clear c26
                try clear c26b0
                try clear c26b1
                try clear c31
                try clear c31b0
                try clear c31b1
                try clear c31b2
                try clear c32
                try clear c34
                try clear c34b0
                try clear c35
                try clear c35b0
                try clear c36
                try clear c36b0
                try clear c36b1
                try clear c41
                try clear c46
                try clear c46b0
                try clear c46b1
                try clear c46b2
                try clear c48
                try clear c50
                try clear c50b0
                try clear c50b1
                try clear hx163_0
                try clear hx167_0
                try clear p1
                try clear p16
                try clear p163
                try clear p167
                try clear p2
                try clear q1
                try clear q16
                try clear q163
                try clear q167
                try clear HA
                try clear HJ42
                try clear HB
                obtain ⟨kq, x96_42, rfl, HA, HJ42, HB⟩ := hcut
                cases kq with
                | zero => exact absurd HA.out (by simp [signalboxlaw02_FrameSizes.j2])
                | succ kj42 =>
                  have H := HA.out
                  clear HA
                  simp only [signalboxlaw02_FrameSizes.j2] at H
                  by_cases c56 : x96_42 = true
                  · subst c56
                    have H1 : (some false) = some r := by rw [if_pos rfl] at H; exact H
                    clear H
                    have H := H1
                    clear H1
                    obtain rfl := Option.some.inj H
                    go_wp2
                    go_ret
                    exact ⟨by first | rfl | (simp [errW_none, errW_some] <;> rfl) | (simp [*, errW_none, errW_some] <;> rfl), by repeat (first | (with_reducible first | exact HB.out | apply below_alloc | apply pw_below_drewN | apply below_drew1) | exact HB.out)⟩
                  · replace c56 := Bool.eq_false_iff.mpr c56
                    subst c56
                    have H1 : (if t159 = true then ((frame_Code.f t158).bind fun bt172 => (if bt172.1 = a0 then (if bt172.2 = true then ((signalboxlaw02_alive.f kj42).bind fun t174 => (some t174)) else (some false)) else (some false))) else ((signalboxlaw02_alive.f kj42).bind fun t175 => (some t175))) = some r := by rw [if_neg (show ¬ (false = true) by decide)] at H; exact H
                    clear H
                    have H := H1
                    clear H1
                    by_cases c57 : t159 = true
                    · subst c57
                      have H1 : ((frame_Code.f t158).bind fun bt172 => (if bt172.1 = a0 then (if bt172.2 = true then ((signalboxlaw02_alive.f kj42).bind fun t174 => (some t174)) else (some false)) else (some false))) = some r := by rw [if_pos rfl] at H; exact H
                      clear H
                      have H := H1
                      clear H1
                      replace H := Option.bind_eq_some_iff.mp H
                      obtain ⟨⟨t172, t173⟩, A580, H⟩ := H
                      replace H : (if t172 = a0 then (if t173 = true then ((signalboxlaw02_alive.f kj42).bind fun t174 => (some t174)) else (some false)) else (some false)) = some r := H
                      have A58 := Aside0.mk A580
                      clear A580
                      by_cases c59 : t172 = a0
                      · rw [if_pos c59] at H
                        have c59b0 : (t172 == a0) = true := beq_iff_eq.mpr c59
                        have c59b1 : (t172 != a0) = false := bne_eq_false_iff_eq.mpr c59
                        clear c59
                        by_cases c60 : t173 = true
                        · subst c60
                          have H1 : ((signalboxlaw02_alive.f kj42).bind fun t174 => (some t174)) = some r := by rw [if_pos rfl] at H; exact H
                          clear H
                          have H := H1
                          clear H1
                          replace H := Option.bind_eq_some_iff.mp H
                          obtain ⟨t174, A610, H⟩ := H
                          replace H : (some t174) = some r := H
                          have A61 := Aside0.mk A610
                          clear A610
                          obtain rfl := Option.some.inj H
                          go_wp2_with (first | ((with_reducible refine gate_callee (f := 18) rfl ?_); refine goesL_ (some 100) rfl rfl Try.func18 (by kernel_rfl) rfl #[.int .i64 t158] rfl (by (try simp only [List.map_toArray, List.map_cons, List.map_nil]); first | done | rfl | (simp only [List.length_drop, List.length_take]; rfl)) ?_; (with_reducible refine (frame_Code.calls t158 t172 true _ A58.out).mono ?_); rintro e w62 ⟨rfl, hb⟩; refine ⟨_, rfl, ?_⟩; have n0_ := Aside0.mk (below_step (by repeat (first | (with_reducible first | exact HB.out | apply below_alloc | apply pw_below_drewN | apply below_drew1) | exact HB.out)) hb); clear HB; have HB := n0_; clear n0_; (try clear hb); (try clear hb2); (try clear hk); (try clear hi)) | (go_at_call 14; (with_reducible refine (signalboxlaw02_alive.calls kj42  t174 _ A61.out).mono ?_); rintro e w63 ⟨rfl, hb⟩; have n0_ := Aside0.mk (below_step (by repeat (first | (with_reducible first | exact HB.out | apply below_alloc | apply pw_below_drewN | apply below_drew1) | exact HB.out)) hb); clear HB; have HB := n0_; clear n0_; (try clear hb); (try clear hb2); (try clear hk); (try clear hi)))
                          go_ret
                          exact ⟨by first | rfl | (simp [errW_none, errW_some] <;> rfl) | (simp [*, errW_none, errW_some] <;> rfl), by repeat (first | (with_reducible first | exact HB.out | apply below_alloc | apply pw_below_drewN | apply below_drew1) | exact HB.out)⟩
                        · replace c60 := Bool.eq_false_iff.mpr c60
                          subst c60
                          have H1 : (some false) = some r := by rw [if_neg (show ¬ (false = true) by decide)] at H; exact H
                          clear H
                          have H := H1
                          clear H1
                          obtain rfl := Option.some.inj H
                          go_wp2_with (first | ((with_reducible refine gate_callee (f := 18) rfl ?_); refine goesL_ (some 100) rfl rfl Try.func18 (by kernel_rfl) rfl #[.int .i64 t158] rfl (by (try simp only [List.map_toArray, List.map_cons, List.map_nil]); first | done | rfl | (simp only [List.length_drop, List.length_take]; rfl)) ?_; (with_reducible refine (frame_Code.calls t158 t172 false _ A58.out).mono ?_); rintro e w64 ⟨rfl, hb⟩; refine ⟨_, rfl, ?_⟩; have n0_ := Aside0.mk (below_step (by repeat (first | (with_reducible first | exact HB.out | apply below_alloc | apply pw_below_drewN | apply below_drew1) | exact HB.out)) hb); clear HB; have HB := n0_; clear n0_; (try clear hb); (try clear hb2); (try clear hk); (try clear hi)))
                          go_ret
                          exact ⟨by first | rfl | (simp [errW_none, errW_some] <;> rfl) | (simp [*, errW_none, errW_some] <;> rfl), by repeat (first | (with_reducible first | exact HB.out | apply below_alloc | apply pw_below_drewN | apply below_drew1) | exact HB.out)⟩
                      · rw [if_neg c59] at H
                        have c59b0 : (t172 == a0) = false := beq_eq_false_iff_ne.mpr c59
                        have c59b1 : (t172 != a0) = true := bne_iff_ne.mpr c59
                        obtain rfl := Option.some.inj H
                        go_wp2_with (first | ((with_reducible refine gate_callee (f := 18) rfl ?_); refine goesL_ (some 100) rfl rfl Try.func18 (by kernel_rfl) rfl #[.int .i64 t158] rfl (by (try simp only [List.map_toArray, List.map_cons, List.map_nil]); first | done | rfl | (simp only [List.length_drop, List.length_take]; rfl)) ?_; (with_reducible refine (frame_Code.calls t158 t172 t173 _ A58.out).mono ?_); rintro e w65 ⟨rfl, hb⟩; refine ⟨_, rfl, ?_⟩; have n0_ := Aside0.mk (below_step (by repeat (first | (with_reducible first | exact HB.out | apply below_alloc | apply pw_below_drewN | apply below_drew1) | exact HB.out)) hb); clear HB; have HB := n0_; clear n0_; (try clear hb); (try clear hb2); (try clear hk); (try clear hi)))
                        go_ret
                        exact ⟨by first | rfl | (simp [errW_none, errW_some] <;> rfl) | (simp [*, errW_none, errW_some] <;> rfl), by repeat (first | (with_reducible first | exact HB.out | apply below_alloc | apply pw_below_drewN | apply below_drew1) | exact HB.out)⟩
                    · replace c57 := Bool.eq_false_iff.mpr c57
                      subst c57
                      have H1 : ((signalboxlaw02_alive.f kj42).bind fun t175 => (some t175)) = some r := by rw [if_neg (show ¬ (false = true) by decide)] at H; exact H
                      clear H
                      have H := H1
                      clear H1
                      replace H := Option.bind_eq_some_iff.mp H
                      obtain ⟨t175, A660, H⟩ := H
                      replace H : (some t175) = some r := H
                      have A66 := Aside0.mk A660
                      clear A660
                      obtain rfl := Option.some.inj H
                      go_wp2_with (first | ((with_reducible refine gate_callee (f := 14) rfl ?_); refine goesL_ (some 112) rfl rfl Try.func14 (by kernel_rfl) rfl #[] rfl (by (try simp only [List.map_toArray, List.map_cons, List.map_nil]); first | done | rfl | (simp only [List.length_drop, List.length_take]; rfl)) ?_; (with_reducible refine (signalboxlaw02_alive.calls kj42  t175 _ A66.out).mono ?_); rintro e w67 ⟨rfl, hb⟩; refine ⟨_, rfl, ?_⟩; have n0_ := Aside0.mk (below_step (by repeat (first | (with_reducible first | exact HB.out | apply below_alloc | apply pw_below_drewN | apply below_drew1) | exact HB.out)) hb); clear HB; have HB := n0_; clear n0_; (try clear hb); (try clear hb2); (try clear hk); (try clear hi)))
                      go_ret
                      exact ⟨by first | rfl | (simp [errW_none, errW_some] <;> rfl) | (simp [*, errW_none, errW_some] <;> rfl), by repeat (first | (with_reducible first | exact HB.out | apply below_alloc | apply pw_below_drewN | apply below_drew1) | exact HB.out)⟩

/-- THE ONE PURE STATEMENT of signalboxlaw02_FrameSizes: yours. -/
def signalboxlaw02_FrameSizes.Pure : Prop := ∀ (a0 : Int), (Lit.int .i64 a0).wf = true → ∃ k, signalboxlaw02_FrameSizes.f k a0 = some true
theorem signalboxlaw02_FrameSizes.walk (P : signalboxlaw02_FrameSizes.Pure) (a0 : Int) (w : World) (w0 : (Lit.int .i64 a0).wf = true) :
    Calls Try.prog 7 #[.int .i64 a0] w fun e w' => e = .returned (.bool true) ∧ Below w.heap.size w w' := by
  obtain ⟨k, h⟩ := P a0 w0
  refine (signalboxlaw02_FrameSizes.calls k a0 true w h).mono ?_
  rintro e w' ⟨rfl, hd⟩
  exact ⟨rfl, hd⟩

end Go.Proofs.Ytipaiggajialpaa.PFrameSizes
