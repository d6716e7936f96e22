-- Laid by a program of the session over the kit's print. Not trusted: Lean checks it.
import Derived.Test.YtelplkdbjfkfmaaPWatchPlaysx0
import Derived.Test.YtelplkdbjfkfmaaPWatchPlaysx11
namespace Go.Proofs.Ytelplkdbjfkfmaa.PWatchPlays
open Go.RowKit Go.Proofs.YtelplkdbjfkfmaaW.PrintWords Go.Proofs.YtelplkdbjfkfmaaW.PrintLast Go.Proofs.YtelplkdbjfkfmaaW.PrintMore
attribute [local go_sem] max2_int min2_int max_two min_two max_three min_three max_four min_four   -- for this text's walks alone
set_option linter.unusedVariables false
set_option linter.unusedSimpArgs false

/-! ### signalboxref02_Right: function 46 -/
mutual
def signalboxref02_Right.j0 : Nat → Bool → Int → Int → Int → ByteArray → Option (Bool)
  | 0, _, _, _, _, _ => none
  | k + 1, x24, x215000, x215001, x215002, x215003 => if x24 = true then (some false) else ((signalboxref02_Has.f x215000 x215001 x215002 x215003 4).bind fun t215 => ((signalboxref02_Has.f x215000 x215001 x215002 x215003 8).bind fun t216 => ((signalboxref02_Has.f x215000 x215001 x215002 x215003 2).bind fun t217 => ((signalboxref02_Has.f x215000 x215001 x215002 x215003 1).bind fun t218 => (if t215 = true then (if t218 = true then (signalboxref02_Right.j1 k t215 t216 t217 t218 true x215000 x215001 x215002 x215003) else (if t217 = true then (signalboxref02_Right.j1 k t215 t216 t217 t218 true x215000 x215001 x215002 x215003) else (if t216 = true then (signalboxref02_Right.j1 k t215 t216 t217 t218 true x215000 x215001 x215002 x215003) else ((signalboxref02_Has.f x215000 x215001 x215002 x215003 16).bind fun t219 => (if t219 = true then (signalboxref02_Right.j1 k t215 t216 t217 t218 (!t216) x215000 x215001 x215002 x215003) else ((signalboxref02_Has.f x215000 x215001 x215002 x215003 32).bind fun t220 => (if t220 = true then (signalboxref02_Right.j1 k t215 t216 t217 t218 (!t216) x215000 x215001 x215002 x215003) else (signalboxref02_Right.j1 k t215 t216 t217 t218 false x215000 x215001 x215002 x215003)))))))) else (if t216 = true then (if t217 = true then (signalboxref02_Right.j1 k t215 t216 t217 t218 true x215000 x215001 x215002 x215003) else ((signalboxref02_Has.f x215000 x215001 x215002 x215003 16).bind fun t221 => (if t221 = true then (signalboxref02_Right.j1 k t215 t216 t217 t218 (!t216) x215000 x215001 x215002 x215003) else ((signalboxref02_Has.f x215000 x215001 x215002 x215003 32).bind fun t222 => (if t222 = true then (signalboxref02_Right.j1 k t215 t216 t217 t218 (!t216) x215000 x215001 x215002 x215003) else (signalboxref02_Right.j1 k t215 t216 t217 t218 false x215000 x215001 x215002 x215003)))))) else ((signalboxref02_Has.f x215000 x215001 x215002 x215003 16).bind fun t223 => (if t223 = true then (signalboxref02_Right.j1 k t215 t216 t217 t218 (!t216) x215000 x215001 x215002 x215003) else ((signalboxref02_Has.f x215000 x215001 x215002 x215003 32).bind fun t224 => (if t224 = true then (signalboxref02_Right.j1 k t215 t216 t217 t218 (!t216) x215000 x215001 x215002 x215003) else (signalboxref02_Right.j1 k t215 t216 t217 t218 false x215000 x215001 x215002 x215003)))))))))))
def signalboxref02_Right.j1 : Nat → Bool → Bool → Bool → Bool → Bool → Int → Int → Int → ByteArray → Option (Bool)
  | 0, _, _, _, _, _, _, _, _, _ => none
  | k + 1, x3, x4, x5, x6, x60, x215000, x215001, x215002, x215003 => if x60 = true then (some false) else (if x215000 > 2047 then (if x6 = true then (signalboxref02_Right.j2 k x3 x4 x5 false x215000 x215001 x215002 x215003) else (signalboxref02_Right.j2 k x3 x4 x5 (!x3) x215000 x215001 x215002 x215003)) else (signalboxref02_Right.j2 k x3 x4 x5 false x215000 x215001 x215002 x215003))
def signalboxref02_Right.j2 : Nat → Bool → Bool → Bool → Bool → Int → Int → Int → ByteArray → Option (Bool)
  | 0, _, _, _, _, _, _, _, _ => none
  | k + 1, x3, x4, x5, x71, x215000, x215001, x215002, x215003 => if x71 = true then (some false) else (if x215002 < 0 then (signalboxref02_Right.j3 k x5 true x215000 x215001 x215002 x215003) else (if x215002 > 64 then (signalboxref02_Right.j3 k x5 true x215000 x215001 x215002 x215003) else (if x4 = true then ((signalboxref02_Code.f k x215002).bind fun t225 => (if t225 < 0 then (signalboxref02_Right.j3 k x5 true x215000 x215001 x215002 x215003) else (if x3 = true then (signalboxref02_Right.j3 k x5 (x215002 != 8) x215000 x215001 x215002 x215003) else (signalboxref02_Right.j3 k x5 false x215000 x215001 x215002 x215003)))) else (if x215002 > 8 then (signalboxref02_Right.j3 k x5 true x215000 x215001 x215002 x215003) else (if x3 = true then (signalboxref02_Right.j3 k x5 (x215002 != 8) x215000 x215001 x215002 x215003) else (signalboxref02_Right.j3 k x5 false x215000 x215001 x215002 x215003))))))
def signalboxref02_Right.j3 : Nat → Bool → Bool → Int → Int → Int → ByteArray → Option (Bool)
  | 0, _, _, _, _, _, _ => none
  | k + 1, x5, x105, x215000, x215001, x215002, x215003 => if x105 = true then (some false) else (if x5 = true then (some (x215003.toList == ([] : List UInt8))) else (some ((x215003.size : Int) == x215002)))
end
def signalboxref02_Right.f (k : Nat) (a0_0 : Int) (a0_1 : Int) (a0_2 : Int) (a0_3 : ByteArray) : Option (Bool) := if a0_1 < 0 then (signalboxref02_Right.j0 k true a0_0 a0_1 a0_2 a0_3) else (if a0_1 > 63 then (signalboxref02_Right.j0 k true a0_0 a0_1 a0_2 a0_3) else (if a0_0 < 0 then (signalboxref02_Right.j0 k true a0_0 a0_1 a0_2 a0_3) else (signalboxref02_Right.j0 k (decide (a0_0 > 536870911)) a0_0 a0_1 a0_2 a0_3)))
theorem signalboxref02_Right.mono_l : ∀ k, (∀ y0 y1 y2 y3 y4, LeO (signalboxref02_Right.j0 k y0 y1 y2 y3 y4) (signalboxref02_Right.j0 (k + 1) y0 y1 y2 y3 y4)) ∧ (∀ y0 y1 y2 y3 y4 y5 y6 y7 y8, LeO (signalboxref02_Right.j1 k y0 y1 y2 y3 y4 y5 y6 y7 y8) (signalboxref02_Right.j1 (k + 1) y0 y1 y2 y3 y4 y5 y6 y7 y8)) ∧ (∀ y0 y1 y2 y3 y4 y5 y6 y7, LeO (signalboxref02_Right.j2 k y0 y1 y2 y3 y4 y5 y6 y7) (signalboxref02_Right.j2 (k + 1) y0 y1 y2 y3 y4 y5 y6 y7)) ∧ (∀ y0 y1 y2 y3 y4 y5, LeO (signalboxref02_Right.j3 k y0 y1 y2 y3 y4 y5) (signalboxref02_Right.j3 (k + 1) y0 y1 y2 y3 y4 y5))
  | 0 => ⟨fun _ _ _ _ _ r h => by simp [signalboxref02_Right.j0] at h, fun _ _ _ _ _ _ _ _ _ r h => by simp [signalboxref02_Right.j1] at h, fun _ _ _ _ _ _ _ _ r h => by simp [signalboxref02_Right.j2] at h, fun _ _ _ _ _ _ r h => by simp [signalboxref02_Right.j3] at h⟩
  | k + 1 => by
    obtain ⟨ih0, ih1, ih2, ih3⟩ := signalboxref02_Right.mono_l k
    refine ⟨?_, ?_, ?_, ?_⟩
    · intro y0 y1 y2 y3 y4
      unfold signalboxref02_Right.j0
      repeat' first
      | (with_reducible exact ih0 _ _ _ _ _)
      | (with_reducible exact ih1 _ _ _ _ _ _ _ _ _)
      | (with_reducible exact ih2 _ _ _ _ _ _ _ _)
      | (with_reducible exact ih3 _ _ _ _ _ _)
      | (with_reducible exact signalboxref02_Code.mono _ _)
      | (with_reducible exact LeO.refl _)
      | (with_reducible exact LeO.none _)
      | (with_reducible refine LeO.ite ?_ ?_)
      | (with_reducible refine LeO.bind ?_ (fun _ => ?_))
      | exact ih0 _ _ _ _ _
      | exact ih1 _ _ _ _ _ _ _ _ _
      | exact ih2 _ _ _ _ _ _ _ _
      | exact ih3 _ _ _ _ _ _
      | exact signalboxref02_Code.mono _ _
      | exact LeO.none _
      | refine LeO.ite ?_ ?_
      | refine LeO.bind ?_ (fun _ => ?_)
    · intro y0 y1 y2 y3 y4 y5 y6 y7 y8
      unfold signalboxref02_Right.j1
      repeat' first
      | (with_reducible exact ih0 _ _ _ _ _)
      | (with_reducible exact ih1 _ _ _ _ _ _ _ _ _)
      | (with_reducible exact ih2 _ _ _ _ _ _ _ _)
      | (with_reducible exact ih3 _ _ _ _ _ _)
      | (with_reducible exact signalboxref02_Code.mono _ _)
      | (with_reducible exact LeO.refl _)
      | (with_reducible exact LeO.none _)
      | (with_reducible refine LeO.ite ?_ ?_)
      | (with_reducible refine LeO.bind ?_ (fun _ => ?_))
      | exact ih0 _ _ _ _ _
      | exact ih1 _ _ _ _ _ _ _ _ _
      | exact ih2 _ _ _ _ _ _ _ _
      | exact ih3 _ _ _ _ _ _
      | exact signalboxref02_Code.mono _ _
      | exact LeO.none _
      | refine LeO.ite ?_ ?_
      | refine LeO.bind ?_ (fun _ => ?_)
    · intro y0 y1 y2 y3 y4 y5 y6 y7
      unfold signalboxref02_Right.j2
      repeat' first
      | (with_reducible exact ih0 _ _ _ _ _)
      | (with_reducible exact ih1 _ _ _ _ _ _ _ _ _)
      | (with_reducible exact ih2 _ _ _ _ _ _ _ _)
      | (with_reducible exact ih3 _ _ _ _ _ _)
      | (with_reducible exact signalboxref02_Code.mono _ _)
      | (with_reducible exact LeO.refl _)
      | (with_reducible exact LeO.none _)
      | (with_reducible refine LeO.ite ?_ ?_)
      | (with_reducible refine LeO.bind ?_ (fun _ => ?_))
      | exact ih0 _ _ _ _ _
      | exact ih1 _ _ _ _ _ _ _ _ _
      | exact ih2 _ _ _ _ _ _ _ _
      | exact ih3 _ _ _ _ _ _
      | exact signalboxref02_Code.mono _ _
      | exact LeO.none _
      | refine LeO.ite ?_ ?_
      | refine LeO.bind ?_ (fun _ => ?_)
    · intro y0 y1 y2 y3 y4 y5
      unfold signalboxref02_Right.j3
      repeat' first
      | (with_reducible exact ih0 _ _ _ _ _)
      | (with_reducible exact ih1 _ _ _ _ _ _ _ _ _)
      | (with_reducible exact ih2 _ _ _ _ _ _ _ _)
      | (with_reducible exact ih3 _ _ _ _ _ _)
      | (with_reducible exact signalboxref02_Code.mono _ _)
      | (with_reducible exact LeO.refl _)
      | (with_reducible exact LeO.none _)
      | (with_reducible refine LeO.ite ?_ ?_)
      | (with_reducible refine LeO.bind ?_ (fun _ => ?_))
      | exact ih0 _ _ _ _ _
      | exact ih1 _ _ _ _ _ _ _ _ _
      | exact ih2 _ _ _ _ _ _ _ _
      | exact ih3 _ _ _ _ _ _
      | exact signalboxref02_Code.mono _ _
      | exact LeO.none _
      | refine LeO.ite ?_ ?_
      | refine LeO.bind ?_ (fun _ => ?_)
theorem signalboxref02_Right.mono : ∀ a0 a1 a2 a3 k, LeO (signalboxref02_Right.f k a0 a1 a2 a3) (signalboxref02_Right.f (k + 1) a0 a1 a2 a3) := by
  intro a0 a1 a2 a3 k
  obtain ⟨ih0, ih1, ih2, ih3⟩ := signalboxref02_Right.mono_l k
  unfold signalboxref02_Right.f
  repeat' first
      | (with_reducible exact ih0 _ _ _ _ _)
      | (with_reducible exact ih1 _ _ _ _ _ _ _ _ _)
      | (with_reducible exact ih2 _ _ _ _ _ _ _ _)
      | (with_reducible exact ih3 _ _ _ _ _ _)
      | (with_reducible exact signalboxref02_Code.mono _ _)
      | (with_reducible exact LeO.refl _)
      | (with_reducible exact LeO.none _)
      | (with_reducible refine LeO.ite ?_ ?_)
      | (with_reducible refine LeO.bind ?_ (fun _ => ?_))
      | exact ih0 _ _ _ _ _
      | exact ih1 _ _ _ _ _ _ _ _ _
      | exact ih2 _ _ _ _ _ _ _ _
      | exact ih3 _ _ _ _ _ _
      | exact signalboxref02_Code.mono _ _
      | exact LeO.none _
      | refine LeO.ite ?_ ?_
      | refine LeO.bind ?_ (fun _ => ?_)
def signalboxref02_Right.T3 : Bool × List (List Nat × List Nat) := (true, [([], []), ([0], [0]), ([], []), ([2, 1], [2]), ([], []), ([4, 3], [4]), ([], []), ([6, 5], [6]), ([1, 7, 0, 1], [1]), ([3, 8, 0, 1, 2, 3, 8], [3]), ([5, 9, 0, 1, 2, 3, 4, 5, 8, 9], [5]), ([7, 10, 0, 1, 2, 3, 4, 5, 6, 7, 8, 9, 10], [7])])
def signalboxref02_Right.B3 : List Nat := [0, 1, 0, 7, 0, 31, 0, 127, 255, 511, 1023, 2047]
theorem signalboxref02_Right.tab3 : rtab .any (opsOf Try.f46 3) = signalboxref02_Right.T3 := by kernel_rfl
theorem signalboxref02_Right.bits3 : waitsOk signalboxref02_Right.T3.2 signalboxref02_Right.B3 = true := by kernel_rfl
set_option maxHeartbeats 8000000 in
set_option maxRecDepth 100000 in
theorem signalboxref02_Right.calls (k : Nat) (a0_0 : Int) (a0_1 : Int) (a0_2 : Int) (a0_3 : ByteArray) (r : Bool) (w : World) (h : signalboxref02_Right.f k a0_0 a0_1 a0_2 a0_3 = some r) :
    Calls Try.prog 46 #[.agg #[.int .i64 a0_0, .int .i64 a0_1, .int .i64 a0_2, .string a0_3]] w fun e w' => e = .returned (.bool r) ∧ Below w.heap.size w w' := by
  have hu33 := Try.underlying33
  have HB := Aside0.mk (Below.refl w.heap.size w)
  have H : (if a0_1 < 0 then (signalboxref02_Right.j0 k true a0_0 a0_1 a0_2 a0_3) else (if a0_1 > 63 then (signalboxref02_Right.j0 k true a0_0 a0_1 a0_2 a0_3) else (if a0_0 < 0 then (signalboxref02_Right.j0 k true a0_0 a0_1 a0_2 a0_3) else (signalboxref02_Right.j0 k (decide (a0_0 > 536870911)) a0_0 a0_1 a0_2 a0_3)))) = some r := h
  clear h; have HC2 := Aside0.mk H; clear H; go_enter Try.func46, Try.ntmps46
  go_upto_region 1 with (first | ((with_reducible refine gate_dst (N := 1) rfl ?_); refine box_event ?hg (N := 1) ?hd (cs := #[.int .i64 a0_0, .int .i64 a0_1, .int .i64 a0_2, .string a0_3]) (t := 33) ?hr ?_; (case hd => rfl); (case hg => rfl); (case hr => first | (go_simp; done) | (go_simp; rfl)); intro gb214 hg w3 hbox hb; have n0_ := Aside0.mk (below_step (pe HB) hb); have n1_ := Aside0.mk (hbox); have n2_ := Aside0.mk ((by rw [hg]; exact (below_size (pe HB)) : w.heap.size ≤ gb214)); have n3_ := Aside0.mk ((by rw [hg]; exact (below_size (pe HB)) : w.heap.size ≤ gb214)); clear HB; have HB := n0_; have BK214 := n1_; have GW214 := n2_; have GE214 := n3_; clear n0_ n1_ n2_ n3_; clear hb hbox hg))
  (try simp only [Act.put, sa_, sb_, sc_])
  go_cut [24] (fun v24 wc => ∃ (kq : Nat) (x24_1 : Bool), v24 = .bool x24_1 ∧ Aside0 (signalboxref02_Right.j0 kq x24_1 a0_0 a0_1 a0_2 a0_3 = some r) ∧ Aside0 (kq ≤ k) ∧ Aside0 (wc.heap[gb214]? = some (.cells #[.int .i64 a0_0, .int .i64 a0_1, .int .i64 a0_2, .string a0_3] 33 (0, 0))) ∧ Aside0 (Below w.heap.size w wc))
  case first =>
    have H := HC2.out
    clear HC2; by_cases c4 : a0_1 < 0
    · rw [if_pos c4] at H
      have c4b0 : decide (a0_1 < 0) = true := decide_eq_true c4
      clear c4; (first | rw [c4b0] | (simp only [i64_w, i32_w]; rw [c4b0]) | skip)
      have H' := Aside0.mk H; clear H; have hcz5_0 : w3.cell? ⟨gb214, 0, none⟩ = some (.int .i64 a0_0) := (blk_cell BK214.out 0).trans rfl
      have hcz5_1 : w3.cell? ⟨gb214, 1, none⟩ = some (.int .i64 a0_1) := (blk_cell BK214.out 1).trans rfl
      have hcz5_2 : w3.cell? ⟨gb214, 2, none⟩ = some (.int .i64 a0_2) := (blk_cell BK214.out 2).trans rfl
      have hcz5_3 : w3.cell? ⟨gb214, 3, none⟩ = some (.string a0_3) := (blk_cell BK214.out 3).trans rfl
      have hfz5_0 := blk_frozen BK214.out 0
      have hfz5_1 := blk_frozen BK214.out 1
      have hfz5_2 := blk_frozen BK214.out 2
      have hfz5_3 := blk_frozen BK214.out 3
      go_wp2; go_meet
      case rel => exact ⟨_, (true), (by first | rfl | (simp; done) | (simp [*]; done)), H', ⟨by first | omega | exact Nat.le_refl _⟩, ⟨by (with_reducible repeat (first | refine kd_ ?_ _ | refine ke_ ?_ | refine ka_ ?_ _)); exact BK214.out⟩, ⟨by repeat (first | (with_reducible first | exact HB.out | apply ba_ | apply bd_ | apply be_ | refine below_set ?_ GE214.out) | exact HB.out)⟩⟩
    · rw [if_neg c4] at H
      have c4b0 : decide (a0_1 < 0) = false := decide_eq_false c4
      clear c4; (first | rw [c4b0] | (simp only [i64_w, i32_w]; rw [c4b0]) | skip)
      by_cases c6 : a0_1 > 63
      · rw [if_pos c6] at H
        have c6b0 : decide (63 < a0_1) = true := decide_eq_true c6
        clear c6; have H' := Aside0.mk H; clear H; have hcz7_0 : w3.cell? ⟨gb214, 0, none⟩ = some (.int .i64 a0_0) := (blk_cell BK214.out 0).trans rfl
        have hcz7_1 : w3.cell? ⟨gb214, 1, none⟩ = some (.int .i64 a0_1) := (blk_cell BK214.out 1).trans rfl
        have hcz7_2 : w3.cell? ⟨gb214, 2, none⟩ = some (.int .i64 a0_2) := (blk_cell BK214.out 2).trans rfl
        have hcz7_3 : w3.cell? ⟨gb214, 3, none⟩ = some (.string a0_3) := (blk_cell BK214.out 3).trans rfl
        have hfz7_0 := blk_frozen BK214.out 0
        have hfz7_1 := blk_frozen BK214.out 1
        have hfz7_2 := blk_frozen BK214.out 2
        have hfz7_3 := blk_frozen BK214.out 3
        go_wp2; go_meet
        case rel => exact ⟨_, (true), (by first | rfl | (simp; done) | (simp [*]; done)), H', ⟨by first | omega | exact Nat.le_refl _⟩, ⟨by (with_reducible repeat (first | refine kd_ ?_ _ | refine ke_ ?_ | refine ka_ ?_ _)); exact BK214.out⟩, ⟨by repeat (first | (with_reducible first | exact HB.out | apply ba_ | apply bd_ | apply be_ | refine below_set ?_ GE214.out) | exact HB.out)⟩⟩
      · rw [if_neg c6] at H
        have c6b0 : decide (63 < a0_1) = false := decide_eq_false c6
        clear c6; by_cases c8 : a0_0 < 0
        · rw [if_pos c8] at H
          have c8b0 : decide (a0_0 < 0) = true := decide_eq_true c8
          clear c8; have H' := Aside0.mk H; clear H; have hcz9_0 : w3.cell? ⟨gb214, 0, none⟩ = some (.int .i64 a0_0) := (blk_cell BK214.out 0).trans rfl
          have hcz9_1 : w3.cell? ⟨gb214, 1, none⟩ = some (.int .i64 a0_1) := (blk_cell BK214.out 1).trans rfl
          have hcz9_2 : w3.cell? ⟨gb214, 2, none⟩ = some (.int .i64 a0_2) := (blk_cell BK214.out 2).trans rfl
          have hcz9_3 : w3.cell? ⟨gb214, 3, none⟩ = some (.string a0_3) := (blk_cell BK214.out 3).trans rfl
          have hfz9_0 := blk_frozen BK214.out 0
          have hfz9_1 := blk_frozen BK214.out 1
          have hfz9_2 := blk_frozen BK214.out 2
          have hfz9_3 := blk_frozen BK214.out 3
          go_wp2; go_meet
          case rel => exact ⟨_, (true), (by first | rfl | (simp; done) | (simp [*]; done)), H', ⟨by first | omega | exact Nat.le_refl _⟩, ⟨by (with_reducible repeat (first | refine kd_ ?_ _ | refine ke_ ?_ | refine ka_ ?_ _)); exact BK214.out⟩, ⟨by repeat (first | (with_reducible first | exact HB.out | apply ba_ | apply bd_ | apply be_ | refine below_set ?_ GE214.out) | exact HB.out)⟩⟩
        · rw [if_neg c8] at H
          have c8b0 : decide (a0_0 < 0) = false := decide_eq_false c8
          clear c8; have H' := Aside0.mk H; clear H; have hcz10_0 : w3.cell? ⟨gb214, 0, none⟩ = some (.int .i64 a0_0) := (blk_cell BK214.out 0).trans rfl
          have hcz10_1 : w3.cell? ⟨gb214, 1, none⟩ = some (.int .i64 a0_1) := (blk_cell BK214.out 1).trans rfl
          have hcz10_2 : w3.cell? ⟨gb214, 2, none⟩ = some (.int .i64 a0_2) := (blk_cell BK214.out 2).trans rfl
          have hcz10_3 : w3.cell? ⟨gb214, 3, none⟩ = some (.string a0_3) := (blk_cell BK214.out 3).trans rfl
          have hfz10_0 := blk_frozen BK214.out 0
          have hfz10_1 := blk_frozen BK214.out 1
          have hfz10_2 := blk_frozen BK214.out 2
          have hfz10_3 := blk_frozen BK214.out 3
          go_wp2; go_meet
          case rel => exact ⟨_, (decide (a0_0 > 536870911)), (by first | rfl | (simp; done) | (simp [*]; done)), H', ⟨by first | omega | exact Nat.le_refl _⟩, ⟨by (with_reducible repeat (first | refine kd_ ?_ _ | refine ke_ ?_ | refine ka_ ?_ _)); exact BK214.out⟩, ⟨by repeat (first | (with_reducible first | exact HB.out | apply ba_ | apply bd_ | apply be_ | refine below_set ?_ GE214.out) | exact HB.out)⟩⟩
  case rest =>
    clear HC2; (try clear p2); (try clear c4); (try clear c4b0); (try clear c6); (try clear c6b0); (try clear c8); (try clear c8b0); (try clear hcz10_0); (try clear hcz10_1); (try clear hcz10_2); (try clear hcz10_3); (try clear hcz5_0); (try clear hcz5_1); (try clear hcz5_2); (try clear hcz5_3); (try clear hcz7_0); (try clear hcz7_1); (try clear hcz7_2); (try clear hcz7_3); (try clear hcz9_0); (try clear hcz9_1); (try clear hcz9_2); (try clear hcz9_3); (try clear hfz10_0); (try clear hfz10_1); (try clear hfz10_2); (try clear hfz10_3); (try clear hfz5_0); (try clear hfz5_1); (try clear hfz5_2); (try clear hfz5_3); (try clear hfz7_0); (try clear hfz7_1); (try clear hfz7_2); (try clear hfz7_3); (try clear hfz9_0); (try clear hfz9_1); (try clear hfz9_2); (try clear hfz9_3); (try clear HA); (try clear HJ1); (try clear BK214); (try clear HB); obtain ⟨kq, x24_1, rfl, HA, HJ1, BK214, HB⟩ := hcut
    cases kq with
    | zero => exact absurd HA.out (by simp [signalboxref02_Right.j0])
    | succ kj1 =>
      have H := HA.out
      clear HA; simp only [signalboxref02_Right.j0] at H
      by_cases c11 : x24_1 = true
      · subst c11
        have H1 : (some false) = some r := by rw [if_pos rfl] at H; exact H
        clear H; have H := H1
        clear H1; obtain rfl := Option.some.inj H
        go_wp2; go_ret
        exact ⟨by first | rfl | (simp [errW_none, errW_some] <;> rfl) | (simp [*, errW_none, errW_some] <;> rfl), by repeat (first | (with_reducible first | exact HB.out | apply ba_ | apply bd_ | apply be_ | refine below_set ?_ GE214.out) | exact HB.out)⟩
      · replace c11 := Bool.eq_false_iff.mpr c11
        subst c11; have H1 : ((signalboxref02_Has.f a0_0 a0_1 a0_2 a0_3 4).bind fun t215 => ((signalboxref02_Has.f a0_0 a0_1 a0_2 a0_3 8).bind fun t216 => ((signalboxref02_Has.f a0_0 a0_1 a0_2 a0_3 2).bind fun t217 => ((signalboxref02_Has.f a0_0 a0_1 a0_2 a0_3 1).bind fun t218 => (if t215 = true then (if t218 = true then (signalboxref02_Right.j1 kj1 t215 t216 t217 t218 true a0_0 a0_1 a0_2 a0_3) else (if t217 = true then (signalboxref02_Right.j1 kj1 t215 t216 t217 t218 true a0_0 a0_1 a0_2 a0_3) else (if t216 = true then (signalboxref02_Right.j1 kj1 t215 t216 t217 t218 true a0_0 a0_1 a0_2 a0_3) else ((signalboxref02_Has.f a0_0 a0_1 a0_2 a0_3 16).bind fun t219 => (if t219 = true then (signalboxref02_Right.j1 kj1 t215 t216 t217 t218 (!t216) a0_0 a0_1 a0_2 a0_3) else ((signalboxref02_Has.f a0_0 a0_1 a0_2 a0_3 32).bind fun t220 => (if t220 = true then (signalboxref02_Right.j1 kj1 t215 t216 t217 t218 (!t216) a0_0 a0_1 a0_2 a0_3) else (signalboxref02_Right.j1 kj1 t215 t216 t217 t218 false a0_0 a0_1 a0_2 a0_3)))))))) else (if t216 = true then (if t217 = true then (signalboxref02_Right.j1 kj1 t215 t216 t217 t218 true a0_0 a0_1 a0_2 a0_3) else ((signalboxref02_Has.f a0_0 a0_1 a0_2 a0_3 16).bind fun t221 => (if t221 = true then (signalboxref02_Right.j1 kj1 t215 t216 t217 t218 (!t216) a0_0 a0_1 a0_2 a0_3) else ((signalboxref02_Has.f a0_0 a0_1 a0_2 a0_3 32).bind fun t222 => (if t222 = true then (signalboxref02_Right.j1 kj1 t215 t216 t217 t218 (!t216) a0_0 a0_1 a0_2 a0_3) else (signalboxref02_Right.j1 kj1 t215 t216 t217 t218 false a0_0 a0_1 a0_2 a0_3)))))) else ((signalboxref02_Has.f a0_0 a0_1 a0_2 a0_3 16).bind fun t223 => (if t223 = true then (signalboxref02_Right.j1 kj1 t215 t216 t217 t218 (!t216) a0_0 a0_1 a0_2 a0_3) else ((signalboxref02_Has.f a0_0 a0_1 a0_2 a0_3 32).bind fun t224 => (if t224 = true then (signalboxref02_Right.j1 kj1 t215 t216 t217 t218 (!t216) a0_0 a0_1 a0_2 a0_3) else (signalboxref02_Right.j1 kj1 t215 t216 t217 t218 false a0_0 a0_1 a0_2 a0_3))))))))))) = some r := by rw [if_neg (show ¬ (false = true) by decide)] at H; exact H
        clear H; have H := H1
        clear H1; replace H := Option.bind_eq_some_iff.mp H
        obtain ⟨t215, A120, H⟩ := H
        replace H : ((signalboxref02_Has.f a0_0 a0_1 a0_2 a0_3 8).bind fun t216 => ((signalboxref02_Has.f a0_0 a0_1 a0_2 a0_3 2).bind fun t217 => ((signalboxref02_Has.f a0_0 a0_1 a0_2 a0_3 1).bind fun t218 => (if t215 = true then (if t218 = true then (signalboxref02_Right.j1 kj1 t215 t216 t217 t218 true a0_0 a0_1 a0_2 a0_3) else (if t217 = true then (signalboxref02_Right.j1 kj1 t215 t216 t217 t218 true a0_0 a0_1 a0_2 a0_3) else (if t216 = true then (signalboxref02_Right.j1 kj1 t215 t216 t217 t218 true a0_0 a0_1 a0_2 a0_3) else ((signalboxref02_Has.f a0_0 a0_1 a0_2 a0_3 16).bind fun t219 => (if t219 = true then (signalboxref02_Right.j1 kj1 t215 t216 t217 t218 (!t216) a0_0 a0_1 a0_2 a0_3) else ((signalboxref02_Has.f a0_0 a0_1 a0_2 a0_3 32).bind fun t220 => (if t220 = true then (signalboxref02_Right.j1 kj1 t215 t216 t217 t218 (!t216) a0_0 a0_1 a0_2 a0_3) else (signalboxref02_Right.j1 kj1 t215 t216 t217 t218 false a0_0 a0_1 a0_2 a0_3)))))))) else (if t216 = true then (if t217 = true then (signalboxref02_Right.j1 kj1 t215 t216 t217 t218 true a0_0 a0_1 a0_2 a0_3) else ((signalboxref02_Has.f a0_0 a0_1 a0_2 a0_3 16).bind fun t221 => (if t221 = true then (signalboxref02_Right.j1 kj1 t215 t216 t217 t218 (!t216) a0_0 a0_1 a0_2 a0_3) else ((signalboxref02_Has.f a0_0 a0_1 a0_2 a0_3 32).bind fun t222 => (if t222 = true then (signalboxref02_Right.j1 kj1 t215 t216 t217 t218 (!t216) a0_0 a0_1 a0_2 a0_3) else (signalboxref02_Right.j1 kj1 t215 t216 t217 t218 false a0_0 a0_1 a0_2 a0_3)))))) else ((signalboxref02_Has.f a0_0 a0_1 a0_2 a0_3 16).bind fun t223 => (if t223 = true then (signalboxref02_Right.j1 kj1 t215 t216 t217 t218 (!t216) a0_0 a0_1 a0_2 a0_3) else ((signalboxref02_Has.f a0_0 a0_1 a0_2 a0_3 32).bind fun t224 => (if t224 = true then (signalboxref02_Right.j1 kj1 t215 t216 t217 t218 (!t216) a0_0 a0_1 a0_2 a0_3) else (signalboxref02_Right.j1 kj1 t215 t216 t217 t218 false a0_0 a0_1 a0_2 a0_3)))))))))) = some r := H
        have A12 := Aside0.mk A120; clear A120; replace H := Option.bind_eq_some_iff.mp H
        obtain ⟨t216, A130, H⟩ := H
        replace H : ((signalboxref02_Has.f a0_0 a0_1 a0_2 a0_3 2).bind fun t217 => ((signalboxref02_Has.f a0_0 a0_1 a0_2 a0_3 1).bind fun t218 => (if t215 = true then (if t218 = true then (signalboxref02_Right.j1 kj1 t215 t216 t217 t218 true a0_0 a0_1 a0_2 a0_3) else (if t217 = true then (signalboxref02_Right.j1 kj1 t215 t216 t217 t218 true a0_0 a0_1 a0_2 a0_3) else (if t216 = true then (signalboxref02_Right.j1 kj1 t215 t216 t217 t218 true a0_0 a0_1 a0_2 a0_3) else ((signalboxref02_Has.f a0_0 a0_1 a0_2 a0_3 16).bind fun t219 => (if t219 = true then (signalboxref02_Right.j1 kj1 t215 t216 t217 t218 (!t216) a0_0 a0_1 a0_2 a0_3) else ((signalboxref02_Has.f a0_0 a0_1 a0_2 a0_3 32).bind fun t220 => (if t220 = true then (signalboxref02_Right.j1 kj1 t215 t216 t217 t218 (!t216) a0_0 a0_1 a0_2 a0_3) else (signalboxref02_Right.j1 kj1 t215 t216 t217 t218 false a0_0 a0_1 a0_2 a0_3)))))))) else (if t216 = true then (if t217 = true then (signalboxref02_Right.j1 kj1 t215 t216 t217 t218 true a0_0 a0_1 a0_2 a0_3) else ((signalboxref02_Has.f a0_0 a0_1 a0_2 a0_3 16).bind fun t221 => (if t221 = true then (signalboxref02_Right.j1 kj1 t215 t216 t217 t218 (!t216) a0_0 a0_1 a0_2 a0_3) else ((signalboxref02_Has.f a0_0 a0_1 a0_2 a0_3 32).bind fun t222 => (if t222 = true then (signalboxref02_Right.j1 kj1 t215 t216 t217 t218 (!t216) a0_0 a0_1 a0_2 a0_3) else (signalboxref02_Right.j1 kj1 t215 t216 t217 t218 false a0_0 a0_1 a0_2 a0_3)))))) else ((signalboxref02_Has.f a0_0 a0_1 a0_2 a0_3 16).bind fun t223 => (if t223 = true then (signalboxref02_Right.j1 kj1 t215 t216 t217 t218 (!t216) a0_0 a0_1 a0_2 a0_3) else ((signalboxref02_Has.f a0_0 a0_1 a0_2 a0_3 32).bind fun t224 => (if t224 = true then (signalboxref02_Right.j1 kj1 t215 t216 t217 t218 (!t216) a0_0 a0_1 a0_2 a0_3) else (signalboxref02_Right.j1 kj1 t215 t216 t217 t218 false a0_0 a0_1 a0_2 a0_3))))))))) = some r := H
        have A13 := Aside0.mk A130; clear A130; replace H := Option.bind_eq_some_iff.mp H
        obtain ⟨t217, A140, H⟩ := H
        replace H : ((signalboxref02_Has.f a0_0 a0_1 a0_2 a0_3 1).bind fun t218 => (if t215 = true then (if t218 = true then (signalboxref02_Right.j1 kj1 t215 t216 t217 t218 true a0_0 a0_1 a0_2 a0_3) else (if t217 = true then (signalboxref02_Right.j1 kj1 t215 t216 t217 t218 true a0_0 a0_1 a0_2 a0_3) else (if t216 = true then (signalboxref02_Right.j1 kj1 t215 t216 t217 t218 true a0_0 a0_1 a0_2 a0_3) else ((signalboxref02_Has.f a0_0 a0_1 a0_2 a0_3 16).bind fun t219 => (if t219 = true then (signalboxref02_Right.j1 kj1 t215 t216 t217 t218 (!t216) a0_0 a0_1 a0_2 a0_3) else ((signalboxref02_Has.f a0_0 a0_1 a0_2 a0_3 32).bind fun t220 => (if t220 = true then (signalboxref02_Right.j1 kj1 t215 t216 t217 t218 (!t216) a0_0 a0_1 a0_2 a0_3) else (signalboxref02_Right.j1 kj1 t215 t216 t217 t218 false a0_0 a0_1 a0_2 a0_3)))))))) else (if t216 = true then (if t217 = true then (signalboxref02_Right.j1 kj1 t215 t216 t217 t218 true a0_0 a0_1 a0_2 a0_3) else ((signalboxref02_Has.f a0_0 a0_1 a0_2 a0_3 16).bind fun t221 => (if t221 = true then (signalboxref02_Right.j1 kj1 t215 t216 t217 t218 (!t216) a0_0 a0_1 a0_2 a0_3) else ((signalboxref02_Has.f a0_0 a0_1 a0_2 a0_3 32).bind fun t222 => (if t222 = true then (signalboxref02_Right.j1 kj1 t215 t216 t217 t218 (!t216) a0_0 a0_1 a0_2 a0_3) else (signalboxref02_Right.j1 kj1 t215 t216 t217 t218 false a0_0 a0_1 a0_2 a0_3)))))) else ((signalboxref02_Has.f a0_0 a0_1 a0_2 a0_3 16).bind fun t223 => (if t223 = true then (signalboxref02_Right.j1 kj1 t215 t216 t217 t218 (!t216) a0_0 a0_1 a0_2 a0_3) else ((signalboxref02_Has.f a0_0 a0_1 a0_2 a0_3 32).bind fun t224 => (if t224 = true then (signalboxref02_Right.j1 kj1 t215 t216 t217 t218 (!t216) a0_0 a0_1 a0_2 a0_3) else (signalboxref02_Right.j1 kj1 t215 t216 t217 t218 false a0_0 a0_1 a0_2 a0_3)))))))) = some r := H
        have A14 := Aside0.mk A140; clear A140; replace H := Option.bind_eq_some_iff.mp H
        obtain ⟨t218, A150, H⟩ := H
        replace H : (if t215 = true then (if t218 = true then (signalboxref02_Right.j1 kj1 t215 t216 t217 t218 true a0_0 a0_1 a0_2 a0_3) else (if t217 = true then (signalboxref02_Right.j1 kj1 t215 t216 t217 t218 true a0_0 a0_1 a0_2 a0_3) else (if t216 = true then (signalboxref02_Right.j1 kj1 t215 t216 t217 t218 true a0_0 a0_1 a0_2 a0_3) else ((signalboxref02_Has.f a0_0 a0_1 a0_2 a0_3 16).bind fun t219 => (if t219 = true then (signalboxref02_Right.j1 kj1 t215 t216 t217 t218 (!t216) a0_0 a0_1 a0_2 a0_3) else ((signalboxref02_Has.f a0_0 a0_1 a0_2 a0_3 32).bind fun t220 => (if t220 = true then (signalboxref02_Right.j1 kj1 t215 t216 t217 t218 (!t216) a0_0 a0_1 a0_2 a0_3) else (signalboxref02_Right.j1 kj1 t215 t216 t217 t218 false a0_0 a0_1 a0_2 a0_3)))))))) else (if t216 = true then (if t217 = true then (signalboxref02_Right.j1 kj1 t215 t216 t217 t218 true a0_0 a0_1 a0_2 a0_3) else ((signalboxref02_Has.f a0_0 a0_1 a0_2 a0_3 16).bind fun t221 => (if t221 = true then (signalboxref02_Right.j1 kj1 t215 t216 t217 t218 (!t216) a0_0 a0_1 a0_2 a0_3) else ((signalboxref02_Has.f a0_0 a0_1 a0_2 a0_3 32).bind fun t222 => (if t222 = true then (signalboxref02_Right.j1 kj1 t215 t216 t217 t218 (!t216) a0_0 a0_1 a0_2 a0_3) else (signalboxref02_Right.j1 kj1 t215 t216 t217 t218 false a0_0 a0_1 a0_2 a0_3)))))) else ((signalboxref02_Has.f a0_0 a0_1 a0_2 a0_3 16).bind fun t223 => (if t223 = true then (signalboxref02_Right.j1 kj1 t215 t216 t217 t218 (!t216) a0_0 a0_1 a0_2 a0_3) else ((signalboxref02_Has.f a0_0 a0_1 a0_2 a0_3 32).bind fun t224 => (if t224 = true then (signalboxref02_Right.j1 kj1 t215 t216 t217 t218 (!t216) a0_0 a0_1 a0_2 a0_3) else (signalboxref02_Right.j1 kj1 t215 t216 t217 t218 false a0_0 a0_1 a0_2 a0_3))))))) = some r := H
        have A15 := Aside0.mk A150; clear A150; have HC16 := Aside0.mk H; clear H; try go_wp2
        have n0_ := Aside0.mk (blk_drew BK214.out)
        have n1_ := Aside0.mk (below_drew1 HB.out)
        clear BK214; clear HB; have BK214 := n0_
        have HB := n1_
        clear n0_ n1_; refine start_ (n := 12) (S := fun w' => w'.cell? ⟨gb214, 0, none⟩ = some (.int .i64 a0_0) ∧ w'.cell? ⟨gb214, 1, none⟩ = some (.int .i64 a0_1) ∧ w'.cell? ⟨gb214, 2, none⟩ = some (.int .i64 a0_2) ∧ w'.cell? ⟨gb214, 3, none⟩ = some (.string a0_3)) (ds := []) #[false, false, false, false, false, false, false, false, false, false, false, false] (by kernel_rfl) rfl rfl ⟨(blk_cell BK214.out 0).trans rfl, (blk_cell BK214.out 1).trans rfl, (blk_cell BK214.out 2).trans rfl, (blk_cell BK214.out 3).trans rfl⟩ (fun hHeld => ?_); refine with_tabW signalboxref02_Right.tab3 signalboxref02_Right.bits3 (fun HT_ HW_ => ?_)
        generalize wc.drew = w17 at BK214 HB hHeld ⊢
        refine take_ (i := 0) (N := some 25) (v := ?_) (a' := ?_) #[true, false, false, false, false, false, false, false, false, false, false, false] rfl rfl (take_ofW HT_.out HW_.out (by kernel_rfl)) (fun _ _ _ h => h) (Or.inl ⟨by rfl, ?_⟩) hHeld ?_ ?_
        rotate_left
        · rintro w' ⟨s0, s1, s2, s3⟩
          go_simp
          with_reducible rfl
        rotate_left
        · simp only [Act.put, sa_, sb_, sc_, i64_w, i32_w]; rfl
        refine take_ (i := 2) (N := some 27) (v := ?_) (a' := ?_) #[true, false, true, false, false, false, false, false, false, false, false, false] rfl rfl (take_ofW HT_.out HW_.out (by kernel_rfl)) (fun _ _ _ h => h) (Or.inl ⟨by rfl, ?_⟩) hHeld ?_ ?_
        rotate_left
        · rintro w' ⟨s0, s1, s2, s3⟩
          go_simp
          with_reducible rfl
        rotate_left
        · simp only [Act.put, sa_, sb_, sc_, i64_w, i32_w]; rfl
        refine take_ (i := 4) (N := some 29) (v := ?_) (a' := ?_) #[true, false, true, false, true, false, false, false, false, false, false, false] rfl rfl (take_ofW HT_.out HW_.out (by kernel_rfl)) (fun _ _ _ h => h) (Or.inl ⟨by rfl, ?_⟩) hHeld ?_ ?_
        rotate_left
        · rintro w' ⟨s0, s1, s2, s3⟩
          go_simp
          with_reducible rfl
        rotate_left
        · simp only [Act.put, sa_, sb_, sc_, i64_w, i32_w]; rfl
        refine take_ (i := 6) (N := some 31) (v := ?_) (a' := ?_) #[true, false, true, false, true, false, true, false, false, false, false, false] rfl rfl (take_ofW HT_.out HW_.out (by kernel_rfl)) (fun _ _ _ h => h) (Or.inl ⟨by rfl, ?_⟩) hHeld ?_ ?_
        rotate_left
        · rintro w' ⟨s0, s1, s2, s3⟩
          go_simp
          with_reducible rfl
        rotate_left
        · simp only [Act.put, sa_, sb_, sc_, i64_w, i32_w]; rfl
        refine one_ (i := 1) (N := some 26) #[true, true, true, false, true, false, true, false, false, false, false, false] rfl rfl (one_of HT_.out (by kernel_rfl)) (by decide) (fun K hK => ?_)
        refine goes_ Try.func47 (by kernel_rfl) rfl #[.agg #[.int .i64 a0_0, .int .i64 a0_1, .int .i64 a0_2, .string a0_3], .int .i64 4] (by rfl) rfl rfl (by (try simp only [List.map_toArray, List.map_cons, List.map_nil]); first | done | rfl | (simp only [List.length_drop, List.length_take]; rfl)) ?_
        with_reducible refine (signalboxref02_Has.calls a0_0 a0_1 a0_2 a0_3 4 t215 _ A12.out).mono ?_
        rintro e w18 ⟨rfl, hb⟩
        refine ⟨_, rfl, ?_⟩
        have n0_ := Aside0.mk (blk_below (pb BK214) hb)
        have n1_ := Aside0.mk (below_step (by repeat (first | (with_reducible first | exact HB.out | apply ba_ | apply bd_ | apply be_ | refine below_set ?_ GE214.out) | exact HB.out)) hb)
        clear BK214; clear HB; have BK214 := n0_
        have HB := n1_
        clear n0_ n1_; (try clear hb); (try clear hb2); (try clear hk); (try clear hi); refine hK.out _ _ ⟨(blk_cell BK214.out 0).trans rfl, (blk_cell BK214.out 1).trans rfl, (blk_cell BK214.out 2).trans rfl, (blk_cell BK214.out 3).trans rfl⟩ (fun hHeld => ?_)
        clear hK K; refine norm_ (a' := ?_) ?_ ?_
        rotate_left
        · show Act.put _ (some 26) _ = _
          simp only [Act.put, sa_, sb_, sc_, i64_w, i32_w]
          rfl
        refine one_ (i := 3) (N := some 28) #[true, true, true, true, true, false, true, false, false, false, false, false] rfl rfl (one_of HT_.out (by kernel_rfl)) (by decide) (fun K hK => ?_)
        refine goes_ Try.func47 (by kernel_rfl) rfl #[.agg #[.int .i64 a0_0, .int .i64 a0_1, .int .i64 a0_2, .string a0_3], .int .i64 8] (by rfl) rfl rfl (by (try simp only [List.map_toArray, List.map_cons, List.map_nil]); first | done | rfl | (simp only [List.length_drop, List.length_take]; rfl)) ?_
        with_reducible refine (signalboxref02_Has.calls a0_0 a0_1 a0_2 a0_3 8 t216 _ A13.out).mono ?_
        rintro e w19 ⟨rfl, hb⟩
        refine ⟨_, rfl, ?_⟩
        have n0_ := Aside0.mk (blk_below (pb BK214) hb)
        have n1_ := Aside0.mk (below_step (by repeat (first | (with_reducible first | exact HB.out | apply ba_ | apply bd_ | apply be_ | refine below_set ?_ GE214.out) | exact HB.out)) hb)
        clear BK214; clear HB; have BK214 := n0_
        have HB := n1_
        clear n0_ n1_; (try clear hb); (try clear hb2); (try clear hk); (try clear hi); refine hK.out _ _ ⟨(blk_cell BK214.out 0).trans rfl, (blk_cell BK214.out 1).trans rfl, (blk_cell BK214.out 2).trans rfl, (blk_cell BK214.out 3).trans rfl⟩ (fun hHeld => ?_)
        clear hK K; refine norm_ (a' := ?_) ?_ ?_
        rotate_left
        · show Act.put _ (some 28) _ = _
          simp only [Act.put, sa_, sb_, sc_, i64_w, i32_w]
          rfl
        refine one_ (i := 5) (N := some 30) #[true, true, true, true, true, true, true, false, false, false, false, false] rfl rfl (one_of HT_.out (by kernel_rfl)) (by decide) (fun K hK => ?_)
        refine goes_ Try.func47 (by kernel_rfl) rfl #[.agg #[.int .i64 a0_0, .int .i64 a0_1, .int .i64 a0_2, .string a0_3], .int .i64 2] (by rfl) rfl rfl (by (try simp only [List.map_toArray, List.map_cons, List.map_nil]); first | done | rfl | (simp only [List.length_drop, List.length_take]; rfl)) ?_
        with_reducible refine (signalboxref02_Has.calls a0_0 a0_1 a0_2 a0_3 2 t217 _ A14.out).mono ?_
        rintro e w20 ⟨rfl, hb⟩
        refine ⟨_, rfl, ?_⟩
        have n0_ := Aside0.mk (blk_below (pb BK214) hb)
        have n1_ := Aside0.mk (below_step (by repeat (first | (with_reducible first | exact HB.out | apply ba_ | apply bd_ | apply be_ | refine below_set ?_ GE214.out) | exact HB.out)) hb)
        clear BK214; clear HB; have BK214 := n0_
        have HB := n1_
        clear n0_ n1_; (try clear hb); (try clear hb2); (try clear hk); (try clear hi); refine hK.out _ _ ⟨(blk_cell BK214.out 0).trans rfl, (blk_cell BK214.out 1).trans rfl, (blk_cell BK214.out 2).trans rfl, (blk_cell BK214.out 3).trans rfl⟩ (fun hHeld => ?_)
        clear hK K; refine norm_ (a' := ?_) ?_ ?_
        rotate_left
        · show Act.put _ (some 30) _ = _
          simp only [Act.put, sa_, sb_, sc_, i64_w, i32_w]
          rfl
        refine one_ (i := 7) (N := some 32) #[true, true, true, true, true, true, true, true, false, false, false, false] rfl rfl (one_of HT_.out (by kernel_rfl)) (by decide) (fun K hK => ?_)
        refine goes_ Try.func47 (by kernel_rfl) rfl #[.agg #[.int .i64 a0_0, .int .i64 a0_1, .int .i64 a0_2, .string a0_3], .int .i64 1] (by rfl) rfl rfl (by (try simp only [List.map_toArray, List.map_cons, List.map_nil]); first | done | rfl | (simp only [List.length_drop, List.length_take]; rfl)) ?_
        with_reducible refine (signalboxref02_Has.calls a0_0 a0_1 a0_2 a0_3 1 t218 _ A15.out).mono ?_
        rintro e w21 ⟨rfl, hb⟩
        refine ⟨_, rfl, ?_⟩
        have n0_ := Aside0.mk (blk_below (pb BK214) hb)
        have n1_ := Aside0.mk (below_step (by repeat (first | (with_reducible first | exact HB.out | apply ba_ | apply bd_ | apply be_ | refine below_set ?_ GE214.out) | exact HB.out)) hb)
        clear BK214; clear HB; have BK214 := n0_
        have HB := n1_
        clear n0_ n1_; (try clear hb); (try clear hb2); (try clear hk); (try clear hi); refine hK.out _ _ ⟨(blk_cell BK214.out 0).trans rfl, (blk_cell BK214.out 1).trans rfl, (blk_cell BK214.out 2).trans rfl, (blk_cell BK214.out 3).trans rfl⟩ (fun hHeld => ?_)
        clear hK K; refine norm_ (a' := ?_) ?_ ?_
        rotate_left
        · show Act.put _ (some 32) _ = _
          simp only [Act.put, sa_, sb_, sc_, i64_w, i32_w]
          rfl
        refine pure_ (i := 8) (N := some 3) (v := ?_) (a' := ?_) #[true, true, true, true, true, true, true, true, true, false, false, false] rfl rfl (any_of HT_.out (by kernel_rfl)) (fun _ _ _ h => h) (Or.inl ⟨by rfl, ?_⟩) ?_ ?_
        rotate_left
        · intro w'
          go_simp
          with_reducible rfl
        rotate_left
        · simp only [Act.put, sa_, sb_, sc_, i64_w, i32_w]; rfl
        refine pure_ (i := 9) (N := some 4) (v := ?_) (a' := ?_) #[true, true, true, true, true, true, true, true, true, true, false, false] rfl rfl (any_of HT_.out (by kernel_rfl)) (fun _ _ _ h => h) (Or.inl ⟨by rfl, ?_⟩) ?_ ?_
        rotate_left
        · intro w'
          go_simp
          with_reducible rfl
        rotate_left
        · simp only [Act.put, sa_, sb_, sc_, i64_w, i32_w]; rfl
        refine pure_ (i := 10) (N := some 5) (v := ?_) (a' := ?_) #[true, true, true, true, true, true, true, true, true, true, true, false] rfl rfl (any_of HT_.out (by kernel_rfl)) (fun _ _ _ h => h) (Or.inl ⟨by rfl, ?_⟩) ?_ ?_
        rotate_left
        · intro w'
          go_simp
          with_reducible rfl
        rotate_left
        · simp only [Act.put, sa_, sb_, sc_, i64_w, i32_w]; rfl
        refine pure_ (i := 11) (N := some 6) (v := ?_) (a' := ?_) #[true, true, true, true, true, true, true, true, true, true, true, true] rfl rfl (any_of HT_.out (by kernel_rfl)) (fun _ _ _ h => h) (Or.inl ⟨by rfl, ?_⟩) ?_ ?_
        rotate_left
        · intro w'
          go_simp
          with_reducible rfl
        rotate_left
        · simp only [Act.put, sa_, sb_, sc_, i64_w, i32_w]; rfl
        refine done_ (done_of HT_.out (by kernel_rfl)) ?_
        go_upto_region 4 with (fail)
        go_cut [60] (fun v60 wc => ∃ (kq : Nat) (x60_15 : Bool), v60 = .bool x60_15 ∧ Aside0 (signalboxref02_Right.j1 kq t215 t216 t217 t218 x60_15 a0_0 a0_1 a0_2 a0_3 = some r) ∧ Aside0 (kq ≤ kj1) ∧ Aside0 (wc.heap[gb214]? = some (.cells #[.int .i64 a0_0, .int .i64 a0_1, .int .i64 a0_2, .string a0_3] 33 (0, 0))) ∧ Aside0 (Below w.heap.size w wc))
        case first =>
          have H := HC16.out
          clear HC16; by_cases c22 : t215 = true
          · subst c22
            have H1 : (if t218 = true then (signalboxref02_Right.j1 kj1 true t216 t217 t218 true a0_0 a0_1 a0_2 a0_3) else (if t217 = true then (signalboxref02_Right.j1 kj1 true t216 t217 t218 true a0_0 a0_1 a0_2 a0_3) else (if t216 = true then (signalboxref02_Right.j1 kj1 true t216 t217 t218 true a0_0 a0_1 a0_2 a0_3) else ((signalboxref02_Has.f a0_0 a0_1 a0_2 a0_3 16).bind fun t219 => (if t219 = true then (signalboxref02_Right.j1 kj1 true t216 t217 t218 (!t216) a0_0 a0_1 a0_2 a0_3) else ((signalboxref02_Has.f a0_0 a0_1 a0_2 a0_3 32).bind fun t220 => (if t220 = true then (signalboxref02_Right.j1 kj1 true t216 t217 t218 (!t216) a0_0 a0_1 a0_2 a0_3) else (signalboxref02_Right.j1 kj1 true t216 t217 t218 false a0_0 a0_1 a0_2 a0_3)))))))) = some r := by rw [if_pos rfl] at H; exact H
            clear H; have H := H1
            clear H1; by_cases c23 : t218 = true
            · subst c23
              have H1 : (signalboxref02_Right.j1 kj1 true t216 t217 true true a0_0 a0_1 a0_2 a0_3) = some r := by rw [if_pos rfl] at H; exact H
              clear H; have H := H1
              clear H1; have H' := Aside0.mk H; clear H; go_wp2; go_meet
              case rel => exact ⟨_, (true), (by first | rfl | (simp; done) | (simp [*]; done)), H', ⟨by have := HJ1.out; first | omega | exact Nat.le_refl _⟩, ⟨by (with_reducible repeat (first | refine kd_ ?_ _ | refine ke_ ?_ | refine ka_ ?_ _)); exact BK214.out⟩, ⟨by repeat (first | (with_reducible first | exact HB.out | apply ba_ | apply bd_ | apply be_ | refine below_set ?_ GE214.out) | exact HB.out)⟩⟩
            · replace c23 := Bool.eq_false_iff.mpr c23
              subst c23; have H1 : (if t217 = true then (signalboxref02_Right.j1 kj1 true t216 t217 false true a0_0 a0_1 a0_2 a0_3) else (if t216 = true then (signalboxref02_Right.j1 kj1 true t216 t217 false true a0_0 a0_1 a0_2 a0_3) else ((signalboxref02_Has.f a0_0 a0_1 a0_2 a0_3 16).bind fun t219 => (if t219 = true then (signalboxref02_Right.j1 kj1 true t216 t217 false (!t216) a0_0 a0_1 a0_2 a0_3) else ((signalboxref02_Has.f a0_0 a0_1 a0_2 a0_3 32).bind fun t220 => (if t220 = true then (signalboxref02_Right.j1 kj1 true t216 t217 false (!t216) a0_0 a0_1 a0_2 a0_3) else (signalboxref02_Right.j1 kj1 true t216 t217 false false a0_0 a0_1 a0_2 a0_3))))))) = some r := by rw [if_neg (show ¬ (false = true) by decide)] at H; exact H
              clear H; have H := H1
              clear H1; by_cases c24 : t217 = true
              · subst c24
                have H1 : (signalboxref02_Right.j1 kj1 true t216 true false true a0_0 a0_1 a0_2 a0_3) = some r := by rw [if_pos rfl] at H; exact H
                clear H; have H := H1
                clear H1; have H' := Aside0.mk H; clear H; go_wp2; go_meet
                case rel => exact ⟨_, (true), (by first | rfl | (simp; done) | (simp [*]; done)), H', ⟨by have := HJ1.out; first | omega | exact Nat.le_refl _⟩, ⟨by (with_reducible repeat (first | refine kd_ ?_ _ | refine ke_ ?_ | refine ka_ ?_ _)); exact BK214.out⟩, ⟨by repeat (first | (with_reducible first | exact HB.out | apply ba_ | apply bd_ | apply be_ | refine below_set ?_ GE214.out) | exact HB.out)⟩⟩
              · replace c24 := Bool.eq_false_iff.mpr c24
                subst c24; have H1 : (if t216 = true then (signalboxref02_Right.j1 kj1 true t216 false false true a0_0 a0_1 a0_2 a0_3) else ((signalboxref02_Has.f a0_0 a0_1 a0_2 a0_3 16).bind fun t219 => (if t219 = true then (signalboxref02_Right.j1 kj1 true t216 false false (!t216) a0_0 a0_1 a0_2 a0_3) else ((signalboxref02_Has.f a0_0 a0_1 a0_2 a0_3 32).bind fun t220 => (if t220 = true then (signalboxref02_Right.j1 kj1 true t216 false false (!t216) a0_0 a0_1 a0_2 a0_3) else (signalboxref02_Right.j1 kj1 true t216 false false false a0_0 a0_1 a0_2 a0_3)))))) = some r := by rw [if_neg (show ¬ (false = true) by decide)] at H; exact H
                clear H; have H := H1
                clear H1; by_cases c25 : t216 = true
                · subst c25
                  have H1 : (signalboxref02_Right.j1 kj1 true true false false true a0_0 a0_1 a0_2 a0_3) = some r := by rw [if_pos rfl] at H; exact H
                  clear H; have H := H1
                  clear H1; have H' := Aside0.mk H; clear H; go_wp2; go_meet
                  case rel => exact ⟨_, (true), (by first | rfl | (simp; done) | (simp [*]; done)), H', ⟨by have := HJ1.out; first | omega | exact Nat.le_refl _⟩, ⟨by (with_reducible repeat (first | refine kd_ ?_ _ | refine ke_ ?_ | refine ka_ ?_ _)); exact BK214.out⟩, ⟨by repeat (first | (with_reducible first | exact HB.out | apply ba_ | apply bd_ | apply be_ | refine below_set ?_ GE214.out) | exact HB.out)⟩⟩
                · replace c25 := Bool.eq_false_iff.mpr c25
                  subst c25; have H1 : ((signalboxref02_Has.f a0_0 a0_1 a0_2 a0_3 16).bind fun t219 => (if t219 = true then (signalboxref02_Right.j1 kj1 true false false false (!false) a0_0 a0_1 a0_2 a0_3) else ((signalboxref02_Has.f a0_0 a0_1 a0_2 a0_3 32).bind fun t220 => (if t220 = true then (signalboxref02_Right.j1 kj1 true false false false (!false) a0_0 a0_1 a0_2 a0_3) else (signalboxref02_Right.j1 kj1 true false false false false a0_0 a0_1 a0_2 a0_3))))) = some r := by rw [if_neg (show ¬ (false = true) by decide)] at H; exact H
                  clear H; have H := H1
                  clear H1; replace H := Option.bind_eq_some_iff.mp H
                  obtain ⟨t219, A260, H⟩ := H
                  replace H : (if t219 = true then (signalboxref02_Right.j1 kj1 true false false false (!false) a0_0 a0_1 a0_2 a0_3) else ((signalboxref02_Has.f a0_0 a0_1 a0_2 a0_3 32).bind fun t220 => (if t220 = true then (signalboxref02_Right.j1 kj1 true false false false (!false) a0_0 a0_1 a0_2 a0_3) else (signalboxref02_Right.j1 kj1 true false false false false a0_0 a0_1 a0_2 a0_3)))) = some r := H
                  have A26 := Aside0.mk A260; clear A260; by_cases c27 : t219 = true
                  · subst c27
                    have H1 : (signalboxref02_Right.j1 kj1 true false false false (!false) a0_0 a0_1 a0_2 a0_3) = some r := by rw [if_pos rfl] at H; exact H
                    clear H; have H := H1
                    clear H1; have H' := Aside0.mk H; clear H; have hcz28_0 : w21.cell? ⟨gb214, 0, none⟩ = some (.int .i64 a0_0) := (blk_cell BK214.out 0).trans rfl
                    have hcz28_1 : w21.cell? ⟨gb214, 1, none⟩ = some (.int .i64 a0_1) := (blk_cell BK214.out 1).trans rfl
                    have hcz28_2 : w21.cell? ⟨gb214, 2, none⟩ = some (.int .i64 a0_2) := (blk_cell BK214.out 2).trans rfl
                    have hcz28_3 : w21.cell? ⟨gb214, 3, none⟩ = some (.string a0_3) := (blk_cell BK214.out 3).trans rfl
                    have hfz28_0 := blk_frozen BK214.out 0
                    have hfz28_1 := blk_frozen BK214.out 1
                    have hfz28_2 := blk_frozen BK214.out 2
                    have hfz28_3 := blk_frozen BK214.out 3
                    go_wp2_with (first | (go_at_call 47; (with_reducible refine (signalboxref02_Has.calls a0_0 a0_1 a0_2 a0_3 16 true _ A26.out).mono ?_); rintro e w29 ⟨rfl, hb⟩; have n0_ := Aside0.mk (blk_below (pb BK214) hb); have n1_ := Aside0.mk (below_step (by repeat (first | (with_reducible first | exact HB.out | apply ba_ | apply bd_ | apply be_ | refine below_set ?_ GE214.out) | exact HB.out)) hb); clear BK214; clear HB; have BK214 := n0_; have HB := n1_; clear n0_ n1_; (try clear hb); (try clear hb2); (try clear hk); (try clear hi)))
                    go_meet
                    case rel => exact ⟨_, (!false), (by first | rfl | (simp; done) | (simp [*]; done)), H', ⟨by have := HJ1.out; first | omega | exact Nat.le_refl _⟩, ⟨by (with_reducible repeat (first | refine kd_ ?_ _ | refine ke_ ?_ | refine ka_ ?_ _)); exact BK214.out⟩, ⟨by repeat (first | (with_reducible first | exact HB.out | apply ba_ | apply bd_ | apply be_ | refine below_set ?_ GE214.out) | exact HB.out)⟩⟩
                  · replace c27 := Bool.eq_false_iff.mpr c27
                    subst c27; have H1 : ((signalboxref02_Has.f a0_0 a0_1 a0_2 a0_3 32).bind fun t220 => (if t220 = true then (signalboxref02_Right.j1 kj1 true false false false (!false) a0_0 a0_1 a0_2 a0_3) else (signalboxref02_Right.j1 kj1 true false false false false a0_0 a0_1 a0_2 a0_3))) = some r := by rw [if_neg (show ¬ (false = true) by decide)] at H; exact H
                    clear H; have H := H1
                    clear H1; replace H := Option.bind_eq_some_iff.mp H
                    obtain ⟨t220, A300, H⟩ := H
                    replace H : (if t220 = true then (signalboxref02_Right.j1 kj1 true false false false (!false) a0_0 a0_1 a0_2 a0_3) else (signalboxref02_Right.j1 kj1 true false false false false a0_0 a0_1 a0_2 a0_3)) = some r := H
                    have A30 := Aside0.mk A300; clear A300; by_cases c31 : t220 = true
                    · subst c31
                      have H1 : (signalboxref02_Right.j1 kj1 true false false false (!false) a0_0 a0_1 a0_2 a0_3) = some r := by rw [if_pos rfl] at H; exact H
                      clear H; have H := H1
                      clear H1; have H' := Aside0.mk H; clear H; have hcz32_0 : w21.cell? ⟨gb214, 0, none⟩ = some (.int .i64 a0_0) := (blk_cell BK214.out 0).trans rfl
                      have hcz32_1 : w21.cell? ⟨gb214, 1, none⟩ = some (.int .i64 a0_1) := (blk_cell BK214.out 1).trans rfl
                      have hcz32_2 : w21.cell? ⟨gb214, 2, none⟩ = some (.int .i64 a0_2) := (blk_cell BK214.out 2).trans rfl
                      have hcz32_3 : w21.cell? ⟨gb214, 3, none⟩ = some (.string a0_3) := (blk_cell BK214.out 3).trans rfl
                      have hfz32_0 := blk_frozen BK214.out 0
                      have hfz32_1 := blk_frozen BK214.out 1
                      have hfz32_2 := blk_frozen BK214.out 2
                      have hfz32_3 := blk_frozen BK214.out 3
                      go_wp2_with (first | (go_at_call 47; (with_reducible refine (signalboxref02_Has.calls a0_0 a0_1 a0_2 a0_3 16 false _ A26.out).mono ?_); rintro e w33 ⟨rfl, hb⟩; have n0_ := Aside0.mk (blk_below (pb BK214) hb); have n1_ := Aside0.mk (below_step (by repeat (first | (with_reducible first | exact HB.out | apply ba_ | apply bd_ | apply be_ | refine below_set ?_ GE214.out) | exact HB.out)) hb); clear BK214; clear HB; have BK214 := n0_; have HB := n1_; clear n0_ n1_; (try clear hb); (try clear hb2); (try clear hk); (try clear hi); have hcz34_0 : w33.cell? ⟨gb214, 0, none⟩ = some (.int .i64 a0_0) := (blk_cell BK214.out 0).trans rfl; have hcz34_1 : w33.cell? ⟨gb214, 1, none⟩ = some (.int .i64 a0_1) := (blk_cell BK214.out 1).trans rfl; have hcz34_2 : w33.cell? ⟨gb214, 2, none⟩ = some (.int .i64 a0_2) := (blk_cell BK214.out 2).trans rfl; have hcz34_3 : w33.cell? ⟨gb214, 3, none⟩ = some (.string a0_3) := (blk_cell BK214.out 3).trans rfl; have hfz34_0 := blk_frozen BK214.out 0; have hfz34_1 := blk_frozen BK214.out 1; have hfz34_2 := blk_frozen BK214.out 2; have hfz34_3 := blk_frozen BK214.out 3) | (go_at_call 47; (with_reducible refine (signalboxref02_Has.calls a0_0 a0_1 a0_2 a0_3 32 true _ A30.out).mono ?_); rintro e w35 ⟨rfl, hb⟩; have n0_ := Aside0.mk (blk_below (pb BK214) hb); have n1_ := Aside0.mk (below_step (by repeat (first | (with_reducible first | exact HB.out | apply ba_ | apply bd_ | apply be_ | refine below_set ?_ GE214.out) | exact HB.out)) hb); clear BK214; clear HB; have BK214 := n0_; have HB := n1_; clear n0_ n1_; (try clear hb); (try clear hb2); (try clear hk); (try clear hi)))
                      go_meet
                      case rel => exact ⟨_, (!false), (by first | rfl | (simp; done) | (simp [*]; done)), H', ⟨by have := HJ1.out; first | omega | exact Nat.le_refl _⟩, ⟨by (with_reducible repeat (first | refine kd_ ?_ _ | refine ke_ ?_ | refine ka_ ?_ _)); exact BK214.out⟩, ⟨by repeat (first | (with_reducible first | exact HB.out | apply ba_ | apply bd_ | apply be_ | refine below_set ?_ GE214.out) | exact HB.out)⟩⟩
                    · replace c31 := Bool.eq_false_iff.mpr c31
                      subst c31; have H1 : (signalboxref02_Right.j1 kj1 true false false false false a0_0 a0_1 a0_2 a0_3) = some r := by rw [if_neg (show ¬ (false = true) by decide)] at H; exact H
                      clear H; have H := H1
                      clear H1; have H' := Aside0.mk H; clear H; have hcz36_0 : w21.cell? ⟨gb214, 0, none⟩ = some (.int .i64 a0_0) := (blk_cell BK214.out 0).trans rfl
                      have hcz36_1 : w21.cell? ⟨gb214, 1, none⟩ = some (.int .i64 a0_1) := (blk_cell BK214.out 1).trans rfl
                      have hcz36_2 : w21.cell? ⟨gb214, 2, none⟩ = some (.int .i64 a0_2) := (blk_cell BK214.out 2).trans rfl
                      have hcz36_3 : w21.cell? ⟨gb214, 3, none⟩ = some (.string a0_3) := (blk_cell BK214.out 3).trans rfl
                      have hfz36_0 := blk_frozen BK214.out 0
                      have hfz36_1 := blk_frozen BK214.out 1
                      have hfz36_2 := blk_frozen BK214.out 2
                      have hfz36_3 := blk_frozen BK214.out 3
                      go_wp2_with (first | (go_at_call 47; (with_reducible refine (signalboxref02_Has.calls a0_0 a0_1 a0_2 a0_3 16 false _ A26.out).mono ?_); rintro e w37 ⟨rfl, hb⟩; have n0_ := Aside0.mk (blk_below (pb BK214) hb); have n1_ := Aside0.mk (below_step (by repeat (first | (with_reducible first | exact HB.out | apply ba_ | apply bd_ | apply be_ | refine below_set ?_ GE214.out) | exact HB.out)) hb); clear BK214; clear HB; have BK214 := n0_; have HB := n1_; clear n0_ n1_; (try clear hb); (try clear hb2); (try clear hk); (try clear hi); have hcz38_0 : w37.cell? ⟨gb214, 0, none⟩ = some (.int .i64 a0_0) := (blk_cell BK214.out 0).trans rfl; have hcz38_1 : w37.cell? ⟨gb214, 1, none⟩ = some (.int .i64 a0_1) := (blk_cell BK214.out 1).trans rfl; have hcz38_2 : w37.cell? ⟨gb214, 2, none⟩ = some (.int .i64 a0_2) := (blk_cell BK214.out 2).trans rfl; have hcz38_3 : w37.cell? ⟨gb214, 3, none⟩ = some (.string a0_3) := (blk_cell BK214.out 3).trans rfl; have hfz38_0 := blk_frozen BK214.out 0; have hfz38_1 := blk_frozen BK214.out 1; have hfz38_2 := blk_frozen BK214.out 2; have hfz38_3 := blk_frozen BK214.out 3) | (go_at_call 47; (with_reducible refine (signalboxref02_Has.calls a0_0 a0_1 a0_2 a0_3 32 false _ A30.out).mono ?_); rintro e w39 ⟨rfl, hb⟩; have n0_ := Aside0.mk (blk_below (pb BK214) hb); have n1_ := Aside0.mk (below_step (by repeat (first | (with_reducible first | exact HB.out | apply ba_ | apply bd_ | apply be_ | refine below_set ?_ GE214.out) | exact HB.out)) hb); clear BK214; clear HB; have BK214 := n0_; have HB := n1_; clear n0_ n1_; (try clear hb); (try clear hb2); (try clear hk); (try clear hi)))
                      go_meet
                      case rel => exact ⟨_, (false), (by first | rfl | (simp; done) | (simp [*]; done)), H', ⟨by have := HJ1.out; first | omega | exact Nat.le_refl _⟩, ⟨by (with_reducible repeat (first | refine kd_ ?_ _ | refine ke_ ?_ | refine ka_ ?_ _)); exact BK214.out⟩, ⟨by repeat (first | (with_reducible first | exact HB.out | apply ba_ | apply bd_ | apply be_ | refine below_set ?_ GE214.out) | exact HB.out)⟩⟩
          · replace c22 := Bool.eq_false_iff.mpr c22
            subst c22; have H1 : (if t216 = true then (if t217 = true then (signalboxref02_Right.j1 kj1 false t216 t217 t218 true a0_0 a0_1 a0_2 a0_3) else ((signalboxref02_Has.f a0_0 a0_1 a0_2 a0_3 16).bind fun t221 => (if t221 = true then (signalboxref02_Right.j1 kj1 false t216 t217 t218 (!t216) a0_0 a0_1 a0_2 a0_3) else ((signalboxref02_Has.f a0_0 a0_1 a0_2 a0_3 32).bind fun t222 => (if t222 = true then (signalboxref02_Right.j1 kj1 false t216 t217 t218 (!t216) a0_0 a0_1 a0_2 a0_3) else (signalboxref02_Right.j1 kj1 false t216 t217 t218 false a0_0 a0_1 a0_2 a0_3)))))) else ((signalboxref02_Has.f a0_0 a0_1 a0_2 a0_3 16).bind fun t223 => (if t223 = true then (signalboxref02_Right.j1 kj1 false t216 t217 t218 (!t216) a0_0 a0_1 a0_2 a0_3) else ((signalboxref02_Has.f a0_0 a0_1 a0_2 a0_3 32).bind fun t224 => (if t224 = true then (signalboxref02_Right.j1 kj1 false t216 t217 t218 (!t216) a0_0 a0_1 a0_2 a0_3) else (signalboxref02_Right.j1 kj1 false t216 t217 t218 false a0_0 a0_1 a0_2 a0_3)))))) = some r := by rw [if_neg (show ¬ (false = true) by decide)] at H; exact H
            clear H; have H := H1
            clear H1; by_cases c40 : t216 = true
            · subst c40
              have H1 : (if t217 = true then (signalboxref02_Right.j1 kj1 false true t217 t218 true a0_0 a0_1 a0_2 a0_3) else ((signalboxref02_Has.f a0_0 a0_1 a0_2 a0_3 16).bind fun t221 => (if t221 = true then (signalboxref02_Right.j1 kj1 false true t217 t218 (!true) a0_0 a0_1 a0_2 a0_3) else ((signalboxref02_Has.f a0_0 a0_1 a0_2 a0_3 32).bind fun t222 => (if t222 = true then (signalboxref02_Right.j1 kj1 false true t217 t218 (!true) a0_0 a0_1 a0_2 a0_3) else (signalboxref02_Right.j1 kj1 false true t217 t218 false a0_0 a0_1 a0_2 a0_3)))))) = some r := by rw [if_pos rfl] at H; exact H
              clear H; have H := H1
              clear H1; by_cases c41 : t217 = true
              · subst c41
                have H1 : (signalboxref02_Right.j1 kj1 false true true t218 true a0_0 a0_1 a0_2 a0_3) = some r := by rw [if_pos rfl] at H; exact H
                clear H; have H := H1
                clear H1; have H' := Aside0.mk H; clear H; go_wp2; go_meet
                case rel => exact ⟨_, (true), (by first | rfl | (simp; done) | (simp [*]; done)), H', ⟨by have := HJ1.out; first | omega | exact Nat.le_refl _⟩, ⟨by (with_reducible repeat (first | refine kd_ ?_ _ | refine ke_ ?_ | refine ka_ ?_ _)); exact BK214.out⟩, ⟨by repeat (first | (with_reducible first | exact HB.out | apply ba_ | apply bd_ | apply be_ | refine below_set ?_ GE214.out) | exact HB.out)⟩⟩
              · replace c41 := Bool.eq_false_iff.mpr c41
                subst c41; have H1 : ((signalboxref02_Has.f a0_0 a0_1 a0_2 a0_3 16).bind fun t221 => (if t221 = true then (signalboxref02_Right.j1 kj1 false true false t218 (!true) a0_0 a0_1 a0_2 a0_3) else ((signalboxref02_Has.f a0_0 a0_1 a0_2 a0_3 32).bind fun t222 => (if t222 = true then (signalboxref02_Right.j1 kj1 false true false t218 (!true) a0_0 a0_1 a0_2 a0_3) else (signalboxref02_Right.j1 kj1 false true false t218 false a0_0 a0_1 a0_2 a0_3))))) = some r := by rw [if_neg (show ¬ (false = true) by decide)] at H; exact H
                clear H; have H := H1
                clear H1; replace H := Option.bind_eq_some_iff.mp H
                obtain ⟨t221, A420, H⟩ := H
                replace H : (if t221 = true then (signalboxref02_Right.j1 kj1 false true false t218 (!true) a0_0 a0_1 a0_2 a0_3) else ((signalboxref02_Has.f a0_0 a0_1 a0_2 a0_3 32).bind fun t222 => (if t222 = true then (signalboxref02_Right.j1 kj1 false true false t218 (!true) a0_0 a0_1 a0_2 a0_3) else (signalboxref02_Right.j1 kj1 false true false t218 false a0_0 a0_1 a0_2 a0_3)))) = some r := H
                have A42 := Aside0.mk A420; clear A420; by_cases c43 : t221 = true
                · subst c43
                  have H1 : (signalboxref02_Right.j1 kj1 false true false t218 (!true) a0_0 a0_1 a0_2 a0_3) = some r := by rw [if_pos rfl] at H; exact H
                  clear H; have H := H1
                  clear H1; have H' := Aside0.mk H; clear H; have hcz44_0 : w21.cell? ⟨gb214, 0, none⟩ = some (.int .i64 a0_0) := (blk_cell BK214.out 0).trans rfl
                  have hcz44_1 : w21.cell? ⟨gb214, 1, none⟩ = some (.int .i64 a0_1) := (blk_cell BK214.out 1).trans rfl
                  have hcz44_2 : w21.cell? ⟨gb214, 2, none⟩ = some (.int .i64 a0_2) := (blk_cell BK214.out 2).trans rfl
                  have hcz44_3 : w21.cell? ⟨gb214, 3, none⟩ = some (.string a0_3) := (blk_cell BK214.out 3).trans rfl
                  have hfz44_0 := blk_frozen BK214.out 0
                  have hfz44_1 := blk_frozen BK214.out 1
                  have hfz44_2 := blk_frozen BK214.out 2
                  have hfz44_3 := blk_frozen BK214.out 3
                  go_wp2_with (first | (go_at_call 47; (with_reducible refine (signalboxref02_Has.calls a0_0 a0_1 a0_2 a0_3 16 true _ A42.out).mono ?_); rintro e w45 ⟨rfl, hb⟩; have n0_ := Aside0.mk (blk_below (pb BK214) hb); have n1_ := Aside0.mk (below_step (by repeat (first | (with_reducible first | exact HB.out | apply ba_ | apply bd_ | apply be_ | refine below_set ?_ GE214.out) | exact HB.out)) hb); clear BK214; clear HB; have BK214 := n0_; have HB := n1_; clear n0_ n1_; (try clear hb); (try clear hb2); (try clear hk); (try clear hi)))
                  go_meet
                  case rel => exact ⟨_, (!true), (by first | rfl | (simp; done) | (simp [*]; done)), H', ⟨by have := HJ1.out; first | omega | exact Nat.le_refl _⟩, ⟨by (with_reducible repeat (first | refine kd_ ?_ _ | refine ke_ ?_ | refine ka_ ?_ _)); exact BK214.out⟩, ⟨by repeat (first | (with_reducible first | exact HB.out | apply ba_ | apply bd_ | apply be_ | refine below_set ?_ GE214.out) | exact HB.out)⟩⟩
                · replace c43 := Bool.eq_false_iff.mpr c43
                  subst c43; have H1 : ((signalboxref02_Has.f a0_0 a0_1 a0_2 a0_3 32).bind fun t222 => (if t222 = true then (signalboxref02_Right.j1 kj1 false true false t218 (!true) a0_0 a0_1 a0_2 a0_3) else (signalboxref02_Right.j1 kj1 false true false t218 false a0_0 a0_1 a0_2 a0_3))) = some r := by rw [if_neg (show ¬ (false = true) by decide)] at H; exact H
                  clear H; have H := H1
                  clear H1; replace H := Option.bind_eq_some_iff.mp H
                  obtain ⟨t222, A460, H⟩ := H
                  replace H : (if t222 = true then (signalboxref02_Right.j1 kj1 false true false t218 (!true) a0_0 a0_1 a0_2 a0_3) else (signalboxref02_Right.j1 kj1 false true false t218 false a0_0 a0_1 a0_2 a0_3)) = some r := H
                  have A46 := Aside0.mk A460; clear A460; by_cases c47 : t222 = true
                  · subst c47
                    have H1 : (signalboxref02_Right.j1 kj1 false true false t218 (!true) a0_0 a0_1 a0_2 a0_3) = some r := by rw [if_pos rfl] at H; exact H
                    clear H; have H := H1
                    clear H1; have H' := Aside0.mk H; clear H; have hcz48_0 : w21.cell? ⟨gb214, 0, none⟩ = some (.int .i64 a0_0) := (blk_cell BK214.out 0).trans rfl
                    have hcz48_1 : w21.cell? ⟨gb214, 1, none⟩ = some (.int .i64 a0_1) := (blk_cell BK214.out 1).trans rfl
                    have hcz48_2 : w21.cell? ⟨gb214, 2, none⟩ = some (.int .i64 a0_2) := (blk_cell BK214.out 2).trans rfl
                    have hcz48_3 : w21.cell? ⟨gb214, 3, none⟩ = some (.string a0_3) := (blk_cell BK214.out 3).trans rfl
                    have hfz48_0 := blk_frozen BK214.out 0
                    have hfz48_1 := blk_frozen BK214.out 1
                    have hfz48_2 := blk_frozen BK214.out 2
                    have hfz48_3 := blk_frozen BK214.out 3
                    go_wp2_with (first | (go_at_call 47; (with_reducible refine (signalboxref02_Has.calls a0_0 a0_1 a0_2 a0_3 16 false _ A42.out).mono ?_); rintro e w49 ⟨rfl, hb⟩; have n0_ := Aside0.mk (blk_below (pb BK214) hb); have n1_ := Aside0.mk (below_step (by repeat (first | (with_reducible first | exact HB.out | apply ba_ | apply bd_ | apply be_ | refine below_set ?_ GE214.out) | exact HB.out)) hb); clear BK214; clear HB; have BK214 := n0_; have HB := n1_; clear n0_ n1_; (try clear hb); (try clear hb2); (try clear hk); (try clear hi); have hcz50_0 : w49.cell? ⟨gb214, 0, none⟩ = some (.int .i64 a0_0) := (blk_cell BK214.out 0).trans rfl; have hcz50_1 : w49.cell? ⟨gb214, 1, none⟩ = some (.int .i64 a0_1) := (blk_cell BK214.out 1).trans rfl; have hcz50_2 : w49.cell? ⟨gb214, 2, none⟩ = some (.int .i64 a0_2) := (blk_cell BK214.out 2).trans rfl; have hcz50_3 : w49.cell? ⟨gb214, 3, none⟩ = some (.string a0_3) := (blk_cell BK214.out 3).trans rfl; have hfz50_0 := blk_frozen BK214.out 0; have hfz50_1 := blk_frozen BK214.out 1; have hfz50_2 := blk_frozen BK214.out 2; have hfz50_3 := blk_frozen BK214.out 3) | (go_at_call 47; (with_reducible refine (signalboxref02_Has.calls a0_0 a0_1 a0_2 a0_3 32 true _ A46.out).mono ?_); rintro e w51 ⟨rfl, hb⟩; have n0_ := Aside0.mk (blk_below (pb BK214) hb); have n1_ := Aside0.mk (below_step (by repeat (first | (with_reducible first | exact HB.out | apply ba_ | apply bd_ | apply be_ | refine below_set ?_ GE214.out) | exact HB.out)) hb); clear BK214; clear HB; have BK214 := n0_; have HB := n1_; clear n0_ n1_; (try clear hb); (try clear hb2); (try clear hk); (try clear hi)))
                    go_meet
                    case rel => exact ⟨_, (!true), (by first | rfl | (simp; done) | (simp [*]; done)), H', ⟨by have := HJ1.out; first | omega | exact Nat.le_refl _⟩, ⟨by (with_reducible repeat (first | refine kd_ ?_ _ | refine ke_ ?_ | refine ka_ ?_ _)); exact BK214.out⟩, ⟨by repeat (first | (with_reducible first | exact HB.out | apply ba_ | apply bd_ | apply be_ | refine below_set ?_ GE214.out) | exact HB.out)⟩⟩
                  · replace c47 := Bool.eq_false_iff.mpr c47
                    subst c47; have H1 : (signalboxref02_Right.j1 kj1 false true false t218 false a0_0 a0_1 a0_2 a0_3) = some r := by rw [if_neg (show ¬ (false = true) by decide)] at H; exact H
                    clear H; have H := H1
                    clear H1; have H' := Aside0.mk H; clear H; have hcz52_0 : w21.cell? ⟨gb214, 0, none⟩ = some (.int .i64 a0_0) := (blk_cell BK214.out 0).trans rfl
                    have hcz52_1 : w21.cell? ⟨gb214, 1, none⟩ = some (.int .i64 a0_1) := (blk_cell BK214.out 1).trans rfl
                    have hcz52_2 : w21.cell? ⟨gb214, 2, none⟩ = some (.int .i64 a0_2) := (blk_cell BK214.out 2).trans rfl
                    have hcz52_3 : w21.cell? ⟨gb214, 3, none⟩ = some (.string a0_3) := (blk_cell BK214.out 3).trans rfl
                    have hfz52_0 := blk_frozen BK214.out 0
                    have hfz52_1 := blk_frozen BK214.out 1
                    have hfz52_2 := blk_frozen BK214.out 2
                    have hfz52_3 := blk_frozen BK214.out 3
                    go_wp2_with (first | (go_at_call 47; (with_reducible refine (signalboxref02_Has.calls a0_0 a0_1 a0_2 a0_3 16 false _ A42.out).mono ?_); rintro e w53 ⟨rfl, hb⟩; have n0_ := Aside0.mk (blk_below (pb BK214) hb); have n1_ := Aside0.mk (below_step (by repeat (first | (with_reducible first | exact HB.out | apply ba_ | apply bd_ | apply be_ | refine below_set ?_ GE214.out) | exact HB.out)) hb); clear BK214; clear HB; have BK214 := n0_; have HB := n1_; clear n0_ n1_; (try clear hb); (try clear hb2); (try clear hk); (try clear hi); have hcz54_0 : w53.cell? ⟨gb214, 0, none⟩ = some (.int .i64 a0_0) := (blk_cell BK214.out 0).trans rfl; have hcz54_1 : w53.cell? ⟨gb214, 1, none⟩ = some (.int .i64 a0_1) := (blk_cell BK214.out 1).trans rfl; have hcz54_2 : w53.cell? ⟨gb214, 2, none⟩ = some (.int .i64 a0_2) := (blk_cell BK214.out 2).trans rfl; have hcz54_3 : w53.cell? ⟨gb214, 3, none⟩ = some (.string a0_3) := (blk_cell BK214.out 3).trans rfl; have hfz54_0 := blk_frozen BK214.out 0; have hfz54_1 := blk_frozen BK214.out 1; have hfz54_2 := blk_frozen BK214.out 2; have hfz54_3 := blk_frozen BK214.out 3) | (go_at_call 47; (with_reducible refine (signalboxref02_Has.calls a0_0 a0_1 a0_2 a0_3 32 false _ A46.out).mono ?_); rintro e w55 ⟨rfl, hb⟩; have n0_ := Aside0.mk (blk_below (pb BK214) hb); have n1_ := Aside0.mk (below_step (by repeat (first | (with_reducible first | exact HB.out | apply ba_ | apply bd_ | apply be_ | refine below_set ?_ GE214.out) | exact HB.out)) hb); clear BK214; clear HB; have BK214 := n0_; have HB := n1_; clear n0_ n1_; (try clear hb); (try clear hb2); (try clear hk); (try clear hi)))
                    go_meet
                    case rel => exact ⟨_, (false), (by first | rfl | (simp; done) | (simp [*]; done)), H', ⟨by have := HJ1.out; first | omega | exact Nat.le_refl _⟩, ⟨by (with_reducible repeat (first | refine kd_ ?_ _ | refine ke_ ?_ | refine ka_ ?_ _)); exact BK214.out⟩, ⟨by repeat (first | (with_reducible first | exact HB.out | apply ba_ | apply bd_ | apply be_ | refine below_set ?_ GE214.out) | exact HB.out)⟩⟩
            · replace c40 := Bool.eq_false_iff.mpr c40
              subst c40; have H1 : ((signalboxref02_Has.f a0_0 a0_1 a0_2 a0_3 16).bind fun t223 => (if t223 = true then (signalboxref02_Right.j1 kj1 false false t217 t218 (!false) a0_0 a0_1 a0_2 a0_3) else ((signalboxref02_Has.f a0_0 a0_1 a0_2 a0_3 32).bind fun t224 => (if t224 = true then (signalboxref02_Right.j1 kj1 false false t217 t218 (!false) a0_0 a0_1 a0_2 a0_3) else (signalboxref02_Right.j1 kj1 false false t217 t218 false a0_0 a0_1 a0_2 a0_3))))) = some r := by rw [if_neg (show ¬ (false = true) by decide)] at H; exact H
              clear H; have H := H1
              clear H1; replace H := Option.bind_eq_some_iff.mp H
              obtain ⟨t223, A560, H⟩ := H
              replace H : (if t223 = true then (signalboxref02_Right.j1 kj1 false false t217 t218 (!false) a0_0 a0_1 a0_2 a0_3) else ((signalboxref02_Has.f a0_0 a0_1 a0_2 a0_3 32).bind fun t224 => (if t224 = true then (signalboxref02_Right.j1 kj1 false false t217 t218 (!false) a0_0 a0_1 a0_2 a0_3) else (signalboxref02_Right.j1 kj1 false false t217 t218 false a0_0 a0_1 a0_2 a0_3)))) = some r := H
              have A56 := Aside0.mk A560; clear A560; by_cases c57 : t223 = true
              · subst c57
                have H1 : (signalboxref02_Right.j1 kj1 false false t217 t218 (!false) a0_0 a0_1 a0_2 a0_3) = some r := by rw [if_pos rfl] at H; exact H
                clear H; have H := H1
                clear H1; have H' := Aside0.mk H; clear H; have hcz58_0 : w21.cell? ⟨gb214, 0, none⟩ = some (.int .i64 a0_0) := (blk_cell BK214.out 0).trans rfl
                have hcz58_1 : w21.cell? ⟨gb214, 1, none⟩ = some (.int .i64 a0_1) := (blk_cell BK214.out 1).trans rfl
                have hcz58_2 : w21.cell? ⟨gb214, 2, none⟩ = some (.int .i64 a0_2) := (blk_cell BK214.out 2).trans rfl
                have hcz58_3 : w21.cell? ⟨gb214, 3, none⟩ = some (.string a0_3) := (blk_cell BK214.out 3).trans rfl
                have hfz58_0 := blk_frozen BK214.out 0
                have hfz58_1 := blk_frozen BK214.out 1
                have hfz58_2 := blk_frozen BK214.out 2
                have hfz58_3 := blk_frozen BK214.out 3
                go_wp2_with (first | (go_at_call 47; (with_reducible refine (signalboxref02_Has.calls a0_0 a0_1 a0_2 a0_3 16 true _ A56.out).mono ?_); rintro e w59 ⟨rfl, hb⟩; have n0_ := Aside0.mk (blk_below (pb BK214) hb); have n1_ := Aside0.mk (below_step (by repeat (first | (with_reducible first | exact HB.out | apply ba_ | apply bd_ | apply be_ | refine below_set ?_ GE214.out) | exact HB.out)) hb); clear BK214; clear HB; have BK214 := n0_; have HB := n1_; clear n0_ n1_; (try clear hb); (try clear hb2); (try clear hk); (try clear hi)))
                go_meet
                case rel => exact ⟨_, (!false), (by first | rfl | (simp; done) | (simp [*]; done)), H', ⟨by have := HJ1.out; first | omega | exact Nat.le_refl _⟩, ⟨by (with_reducible repeat (first | refine kd_ ?_ _ | refine ke_ ?_ | refine ka_ ?_ _)); exact BK214.out⟩, ⟨by repeat (first | (with_reducible first | exact HB.out | apply ba_ | apply bd_ | apply be_ | refine below_set ?_ GE214.out) | exact HB.out)⟩⟩
              · replace c57 := Bool.eq_false_iff.mpr c57
                subst c57; have H1 : ((signalboxref02_Has.f a0_0 a0_1 a0_2 a0_3 32).bind fun t224 => (if t224 = true then (signalboxref02_Right.j1 kj1 false false t217 t218 (!false) a0_0 a0_1 a0_2 a0_3) else (signalboxref02_Right.j1 kj1 false false t217 t218 false a0_0 a0_1 a0_2 a0_3))) = some r := by rw [if_neg (show ¬ (false = true) by decide)] at H; exact H
                clear H; have H := H1
                clear H1; replace H := Option.bind_eq_some_iff.mp H
                obtain ⟨t224, A600, H⟩ := H
                replace H : (if t224 = true then (signalboxref02_Right.j1 kj1 false false t217 t218 (!false) a0_0 a0_1 a0_2 a0_3) else (signalboxref02_Right.j1 kj1 false false t217 t218 false a0_0 a0_1 a0_2 a0_3)) = some r := H
                have A60 := Aside0.mk A600; clear A600; by_cases c61 : t224 = true
                · subst c61
                  have H1 : (signalboxref02_Right.j1 kj1 false false t217 t218 (!false) a0_0 a0_1 a0_2 a0_3) = some r := by rw [if_pos rfl] at H; exact H
                  clear H; have H := H1
                  clear H1; have H' := Aside0.mk H; clear H; have hcz62_0 : w21.cell? ⟨gb214, 0, none⟩ = some (.int .i64 a0_0) := (blk_cell BK214.out 0).trans rfl
                  have hcz62_1 : w21.cell? ⟨gb214, 1, none⟩ = some (.int .i64 a0_1) := (blk_cell BK214.out 1).trans rfl
                  have hcz62_2 : w21.cell? ⟨gb214, 2, none⟩ = some (.int .i64 a0_2) := (blk_cell BK214.out 2).trans rfl
                  have hcz62_3 : w21.cell? ⟨gb214, 3, none⟩ = some (.string a0_3) := (blk_cell BK214.out 3).trans rfl
                  have hfz62_0 := blk_frozen BK214.out 0
                  have hfz62_1 := blk_frozen BK214.out 1
                  have hfz62_2 := blk_frozen BK214.out 2
                  have hfz62_3 := blk_frozen BK214.out 3
                  go_wp2_with (first | (go_at_call 47; (with_reducible refine (signalboxref02_Has.calls a0_0 a0_1 a0_2 a0_3 16 false _ A56.out).mono ?_); rintro e w63 ⟨rfl, hb⟩; have n0_ := Aside0.mk (blk_below (pb BK214) hb); have n1_ := Aside0.mk (below_step (by repeat (first | (with_reducible first | exact HB.out | apply ba_ | apply bd_ | apply be_ | refine below_set ?_ GE214.out) | exact HB.out)) hb); clear BK214; clear HB; have BK214 := n0_; have HB := n1_; clear n0_ n1_; (try clear hb); (try clear hb2); (try clear hk); (try clear hi); have hcz64_0 : w63.cell? ⟨gb214, 0, none⟩ = some (.int .i64 a0_0) := (blk_cell BK214.out 0).trans rfl; have hcz64_1 : w63.cell? ⟨gb214, 1, none⟩ = some (.int .i64 a0_1) := (blk_cell BK214.out 1).trans rfl; have hcz64_2 : w63.cell? ⟨gb214, 2, none⟩ = some (.int .i64 a0_2) := (blk_cell BK214.out 2).trans rfl; have hcz64_3 : w63.cell? ⟨gb214, 3, none⟩ = some (.string a0_3) := (blk_cell BK214.out 3).trans rfl; have hfz64_0 := blk_frozen BK214.out 0; have hfz64_1 := blk_frozen BK214.out 1; have hfz64_2 := blk_frozen BK214.out 2; have hfz64_3 := blk_frozen BK214.out 3) | (go_at_call 47; (with_reducible refine (signalboxref02_Has.calls a0_0 a0_1 a0_2 a0_3 32 true _ A60.out).mono ?_); rintro e w65 ⟨rfl, hb⟩; have n0_ := Aside0.mk (blk_below (pb BK214) hb); have n1_ := Aside0.mk (below_step (by repeat (first | (with_reducible first | exact HB.out | apply ba_ | apply bd_ | apply be_ | refine below_set ?_ GE214.out) | exact HB.out)) hb); clear BK214; clear HB; have BK214 := n0_; have HB := n1_; clear n0_ n1_; (try clear hb); (try clear hb2); (try clear hk); (try clear hi)))
                  go_meet
                  case rel => exact ⟨_, (!false), (by first | rfl | (simp; done) | (simp [*]; done)), H', ⟨by have := HJ1.out; first | omega | exact Nat.le_refl _⟩, ⟨by (with_reducible repeat (first | refine kd_ ?_ _ | refine ke_ ?_ | refine ka_ ?_ _)); exact BK214.out⟩, ⟨by repeat (first | (with_reducible first | exact HB.out | apply ba_ | apply bd_ | apply be_ | refine below_set ?_ GE214.out) | exact HB.out)⟩⟩
                · replace c61 := Bool.eq_false_iff.mpr c61
                  subst c61; have H1 : (signalboxref02_Right.j1 kj1 false false t217 t218 false a0_0 a0_1 a0_2 a0_3) = some r := by rw [if_neg (show ¬ (false = true) by decide)] at H; exact H
                  clear H; have H := H1
                  clear H1; have H' := Aside0.mk H; clear H; have hcz66_0 : w21.cell? ⟨gb214, 0, none⟩ = some (.int .i64 a0_0) := (blk_cell BK214.out 0).trans rfl
                  have hcz66_1 : w21.cell? ⟨gb214, 1, none⟩ = some (.int .i64 a0_1) := (blk_cell BK214.out 1).trans rfl
                  have hcz66_2 : w21.cell? ⟨gb214, 2, none⟩ = some (.int .i64 a0_2) := (blk_cell BK214.out 2).trans rfl
                  have hcz66_3 : w21.cell? ⟨gb214, 3, none⟩ = some (.string a0_3) := (blk_cell BK214.out 3).trans rfl
                  have hfz66_0 := blk_frozen BK214.out 0
                  have hfz66_1 := blk_frozen BK214.out 1
                  have hfz66_2 := blk_frozen BK214.out 2
                  have hfz66_3 := blk_frozen BK214.out 3
                  go_wp2_with (first | (go_at_call 47; (with_reducible refine (signalboxref02_Has.calls a0_0 a0_1 a0_2 a0_3 16 false _ A56.out).mono ?_); rintro e w67 ⟨rfl, hb⟩; have n0_ := Aside0.mk (blk_below (pb BK214) hb); have n1_ := Aside0.mk (below_step (by repeat (first | (with_reducible first | exact HB.out | apply ba_ | apply bd_ | apply be_ | refine below_set ?_ GE214.out) | exact HB.out)) hb); clear BK214; clear HB; have BK214 := n0_; have HB := n1_; clear n0_ n1_; (try clear hb); (try clear hb2); (try clear hk); (try clear hi); have hcz68_0 : w67.cell? ⟨gb214, 0, none⟩ = some (.int .i64 a0_0) := (blk_cell BK214.out 0).trans rfl; have hcz68_1 : w67.cell? ⟨gb214, 1, none⟩ = some (.int .i64 a0_1) := (blk_cell BK214.out 1).trans rfl; have hcz68_2 : w67.cell? ⟨gb214, 2, none⟩ = some (.int .i64 a0_2) := (blk_cell BK214.out 2).trans rfl; have hcz68_3 : w67.cell? ⟨gb214, 3, none⟩ = some (.string a0_3) := (blk_cell BK214.out 3).trans rfl; have hfz68_0 := blk_frozen BK214.out 0; have hfz68_1 := blk_frozen BK214.out 1; have hfz68_2 := blk_frozen BK214.out 2; have hfz68_3 := blk_frozen BK214.out 3) | (go_at_call 47; (with_reducible refine (signalboxref02_Has.calls a0_0 a0_1 a0_2 a0_3 32 false _ A60.out).mono ?_); rintro e w69 ⟨rfl, hb⟩; have n0_ := Aside0.mk (blk_below (pb BK214) hb); have n1_ := Aside0.mk (below_step (by repeat (first | (with_reducible first | exact HB.out | apply ba_ | apply bd_ | apply be_ | refine below_set ?_ GE214.out) | exact HB.out)) hb); clear BK214; clear HB; have BK214 := n0_; have HB := n1_; clear n0_ n1_; (try clear hb); (try clear hb2); (try clear hk); (try clear hi)))
                  go_meet
                  case rel => exact ⟨_, (false), (by first | rfl | (simp; done) | (simp [*]; done)), H', ⟨by have := HJ1.out; first | omega | exact Nat.le_refl _⟩, ⟨by (with_reducible repeat (first | refine kd_ ?_ _ | refine ke_ ?_ | refine ka_ ?_ _)); exact BK214.out⟩, ⟨by repeat (first | (with_reducible first | exact HB.out | apply ba_ | apply bd_ | apply be_ | refine below_set ?_ GE214.out) | exact HB.out)⟩⟩
        case rest =>
          clear HC16; (try clear c1); (try clear c2); (try clear p2); (try clear c3); (try clear c4); (try clear c4b0); (try clear c5); (try clear c6); (try clear c6b0); (try clear c8); (try clear c8b0); (try clear c11); (try clear c22); (try clear c23); (try clear c24); (try clear c25); (try clear c27); (try clear c31); (try clear c40); (try clear c41); (try clear c43); (try clear c47); (try clear c57); (try clear c61); (try clear hcz10_0); (try clear hcz10_1); (try clear hcz10_2); (try clear hcz10_3); (try clear hcz28_0); (try clear hcz28_1); (try clear hcz28_2); (try clear hcz28_3); (try clear hcz32_0); (try clear hcz32_1); (try clear hcz32_2); (try clear hcz32_3); (try clear hcz34_0); (try clear hcz34_1); (try clear hcz34_2); (try clear hcz34_3); (try clear hcz36_0); (try clear hcz36_1); (try clear hcz36_2); (try clear hcz36_3); (try clear hcz38_0); (try clear hcz38_1); (try clear hcz38_2); (try clear hcz38_3); (try clear hcz44_0); (try clear hcz44_1); (try clear hcz44_2); (try clear hcz44_3); (try clear hcz48_0); (try clear hcz48_1); (try clear hcz48_2); (try clear hcz48_3); (try clear hcz50_0); (try clear hcz50_1); (try clear hcz50_2); (try clear hcz50_3); (try clear hcz52_0); (try clear hcz52_1); (try clear hcz52_2); (try clear hcz52_3); (try clear hcz54_0); (try clear hcz54_1); (try clear hcz54_2); (try clear hcz54_3); (try clear hcz58_0); (try clear hcz58_1); (try clear hcz58_2); (try clear hcz58_3); (try clear hcz5_0); (try clear hcz5_1); (try clear hcz5_2); (try clear hcz5_3); (try clear hcz62_0); (try clear hcz62_1); (try clear hcz62_2); (try clear hcz62_3); (try clear hcz64_0); (try clear hcz64_1); (try clear hcz64_2); (try clear hcz64_3); (try clear hcz66_0); (try clear hcz66_1); (try clear hcz66_2); (try clear hcz66_3); (try clear hcz68_0); (try clear hcz68_1); (try clear hcz68_2); (try clear hcz68_3); (try clear hcz7_0); (try clear hcz7_1); (try clear hcz7_2); (try clear hcz7_3); (try clear hcz9_0); (try clear hcz9_1); (try clear hcz9_2); (try clear hcz9_3); (try clear hfz10_0); (try clear hfz10_1); (try clear hfz10_2); (try clear hfz10_3); (try clear hfz28_0); (try clear hfz28_1); (try clear hfz28_2); (try clear hfz28_3); (try clear hfz32_0); (try clear hfz32_1); (try clear hfz32_2); (try clear hfz32_3); (try clear hfz34_0); (try clear hfz34_1); (try clear hfz34_2); (try clear hfz34_3); (try clear hfz36_0); (try clear hfz36_1); (try clear hfz36_2); (try clear hfz36_3); (try clear hfz38_0); (try clear hfz38_1); (try clear hfz38_2); (try clear hfz38_3); (try clear hfz44_0); (try clear hfz44_1); (try clear hfz44_2); (try clear hfz44_3); (try clear hfz48_0); (try clear hfz48_1); (try clear hfz48_2); (try clear hfz48_3); (try clear hfz50_0); (try clear hfz50_1); (try clear hfz50_2); (try clear hfz50_3); (try clear hfz52_0); (try clear hfz52_1); (try clear hfz52_2); (try clear hfz52_3); (try clear hfz54_0); (try clear hfz54_1); (try clear hfz54_2); (try clear hfz54_3); (try clear hfz58_0); (try clear hfz58_1); (try clear hfz58_2); (try clear hfz58_3); (try clear hfz5_0); (try clear hfz5_1); (try clear hfz5_2); (try clear hfz5_3); (try clear hfz62_0); (try clear hfz62_1); (try clear hfz62_2); (try clear hfz62_3); (try clear hfz64_0); (try clear hfz64_1); (try clear hfz64_2); (try clear hfz64_3); (try clear hfz66_0); (try clear hfz66_1); (try clear hfz66_2); (try clear hfz66_3); (try clear hfz68_0); (try clear hfz68_1); (try clear hfz68_2); (try clear hfz68_3); (try clear hfz7_0); (try clear hfz7_1); (try clear hfz7_2); (try clear hfz7_3); (try clear hfz9_0); (try clear hfz9_1); (try clear hfz9_2); (try clear hfz9_3); (try clear p2); (try clear HA); (try clear HJ15); (try clear BK214); (try clear HB)
          obtain ⟨kq, x60_15, rfl, HA, HJ15, BK214, HB⟩ := hcut
          cases kq with
          | zero => exact absurd HA.out (by simp [signalboxref02_Right.j1])
          | succ kj15 =>
            have H := HA.out
            clear HA; simp only [signalboxref02_Right.j1] at H
            by_cases c70 : x60_15 = true
            · subst c70
              have H1 : (some false) = some r := by rw [if_pos rfl] at H; exact H
              clear H; have H := H1
              clear H1; obtain rfl := Option.some.inj H
              go_wp2; go_ret
              exact ⟨by first | rfl | (simp [errW_none, errW_some] <;> rfl) | (simp [*, errW_none, errW_some] <;> rfl), by repeat (first | (with_reducible first | exact HB.out | apply ba_ | apply bd_ | apply be_ | refine below_set ?_ GE214.out) | exact HB.out)⟩
            · replace c70 := Bool.eq_false_iff.mpr c70
              subst c70; have H1 : (if a0_0 > 2047 then (if t218 = true then (signalboxref02_Right.j2 kj15 t215 t216 t217 false a0_0 a0_1 a0_2 a0_3) else (signalboxref02_Right.j2 kj15 t215 t216 t217 (!t215) a0_0 a0_1 a0_2 a0_3)) else (signalboxref02_Right.j2 kj15 t215 t216 t217 false a0_0 a0_1 a0_2 a0_3)) = some r := by rw [if_neg (show ¬ (false = true) by decide)] at H; exact H
              clear H; have H := H1
              clear H1; have HC71 := Aside0.mk H; clear H; go_upto_region 6 with (fail)
              go_cut [71] (fun v71 wc => ∃ (kq : Nat) (x71_70 : Bool), v71 = .bool x71_70 ∧ Aside0 (signalboxref02_Right.j2 kq t215 t216 t217 x71_70 a0_0 a0_1 a0_2 a0_3 = some r) ∧ Aside0 (kq ≤ kj15) ∧ Aside0 (wc.heap[gb214]? = some (.cells #[.int .i64 a0_0, .int .i64 a0_1, .int .i64 a0_2, .string a0_3] 33 (0, 0))) ∧ Aside0 (Below w.heap.size w wc))
              case first =>
                have H := HC71.out
                clear HC71; by_cases c72 : a0_0 > 2047
                · rw [if_pos c72] at H
                  have c72b0 : decide (2047 < a0_0) = true := decide_eq_true c72
                  clear c72; (first | rw [c72b0] | (simp only [i64_w, i32_w]; rw [c72b0]) | skip)
                  by_cases c73 : t218 = true
                  · subst c73
                    have H1 : (signalboxref02_Right.j2 kj15 t215 t216 t217 false a0_0 a0_1 a0_2 a0_3) = some r := by rw [if_pos rfl] at H; exact H
                    clear H; have H := H1
                    clear H1; have H' := Aside0.mk H; clear H; have hcz74_0 : wc.cell? ⟨gb214, 0, none⟩ = some (.int .i64 a0_0) := (blk_cell BK214.out 0).trans rfl
                    have hcz74_1 : wc.cell? ⟨gb214, 1, none⟩ = some (.int .i64 a0_1) := (blk_cell BK214.out 1).trans rfl
                    have hcz74_2 : wc.cell? ⟨gb214, 2, none⟩ = some (.int .i64 a0_2) := (blk_cell BK214.out 2).trans rfl
                    have hcz74_3 : wc.cell? ⟨gb214, 3, none⟩ = some (.string a0_3) := (blk_cell BK214.out 3).trans rfl
                    have hfz74_0 := blk_frozen BK214.out 0
                    have hfz74_1 := blk_frozen BK214.out 1
                    have hfz74_2 := blk_frozen BK214.out 2
                    have hfz74_3 := blk_frozen BK214.out 3
                    go_wp2; go_meet
                    case rel => exact ⟨_, (false), (by first | rfl | (simp; done) | (simp [*]; done)), H', ⟨by have := HJ1.out; have := HJ15.out; first | omega | exact Nat.le_refl _⟩, ⟨by (with_reducible repeat (first | refine kd_ ?_ _ | refine ke_ ?_ | refine ka_ ?_ _)); exact BK214.out⟩, ⟨by repeat (first | (with_reducible first | exact HB.out | apply ba_ | apply bd_ | apply be_ | refine below_set ?_ GE214.out) | exact HB.out)⟩⟩
                  · replace c73 := Bool.eq_false_iff.mpr c73
                    subst c73; have H1 : (signalboxref02_Right.j2 kj15 t215 t216 t217 (!t215) a0_0 a0_1 a0_2 a0_3) = some r := by rw [if_neg (show ¬ (false = true) by decide)] at H; exact H
                    clear H; have H := H1
                    clear H1; have H' := Aside0.mk H; clear H; have hcz75_0 : wc.cell? ⟨gb214, 0, none⟩ = some (.int .i64 a0_0) := (blk_cell BK214.out 0).trans rfl
                    have hcz75_1 : wc.cell? ⟨gb214, 1, none⟩ = some (.int .i64 a0_1) := (blk_cell BK214.out 1).trans rfl
                    have hcz75_2 : wc.cell? ⟨gb214, 2, none⟩ = some (.int .i64 a0_2) := (blk_cell BK214.out 2).trans rfl
                    have hcz75_3 : wc.cell? ⟨gb214, 3, none⟩ = some (.string a0_3) := (blk_cell BK214.out 3).trans rfl
                    have hfz75_0 := blk_frozen BK214.out 0
                    have hfz75_1 := blk_frozen BK214.out 1
                    have hfz75_2 := blk_frozen BK214.out 2
                    have hfz75_3 := blk_frozen BK214.out 3
                    go_wp2; go_meet
                    case rel => exact ⟨_, (!t215), (by first | rfl | (simp; done) | (simp [*]; done)), H', ⟨by have := HJ1.out; have := HJ15.out; first | omega | exact Nat.le_refl _⟩, ⟨by (with_reducible repeat (first | refine kd_ ?_ _ | refine ke_ ?_ | refine ka_ ?_ _)); exact BK214.out⟩, ⟨by repeat (first | (with_reducible first | exact HB.out | apply ba_ | apply bd_ | apply be_ | refine below_set ?_ GE214.out) | exact HB.out)⟩⟩
                · rw [if_neg c72] at H
                  have c72b0 : decide (2047 < a0_0) = false := decide_eq_false c72
                  clear c72; (first | rw [c72b0] | (simp only [i64_w, i32_w]; rw [c72b0]) | skip)
                  have H' := Aside0.mk H; clear H; have hcz76_0 : wc.cell? ⟨gb214, 0, none⟩ = some (.int .i64 a0_0) := (blk_cell BK214.out 0).trans rfl
                  have hcz76_1 : wc.cell? ⟨gb214, 1, none⟩ = some (.int .i64 a0_1) := (blk_cell BK214.out 1).trans rfl
                  have hcz76_2 : wc.cell? ⟨gb214, 2, none⟩ = some (.int .i64 a0_2) := (blk_cell BK214.out 2).trans rfl
                  have hcz76_3 : wc.cell? ⟨gb214, 3, none⟩ = some (.string a0_3) := (blk_cell BK214.out 3).trans rfl
                  have hfz76_0 := blk_frozen BK214.out 0
                  have hfz76_1 := blk_frozen BK214.out 1
                  have hfz76_2 := blk_frozen BK214.out 2
                  have hfz76_3 := blk_frozen BK214.out 3
                  go_wp2; go_meet
                  case rel => exact ⟨_, (false), (by first | rfl | (simp; done) | (simp [*]; done)), H', ⟨by have := HJ1.out; have := HJ15.out; first | omega | exact Nat.le_refl _⟩, ⟨by (with_reducible repeat (first | refine kd_ ?_ _ | refine ke_ ?_ | refine ka_ ?_ _)); exact BK214.out⟩, ⟨by repeat (first | (with_reducible first | exact HB.out | apply ba_ | apply bd_ | apply be_ | refine below_set ?_ GE214.out) | exact HB.out)⟩⟩
              case rest =>
                clear HC71; (try clear c1); (try clear c2); (try clear p2); (try clear c3); (try clear c4); (try clear c4b0); (try clear c5); (try clear c6); (try clear c6b0); (try clear c7); (try clear c8); (try clear c8b0); (try clear c11); (try clear c22); (try clear c23); (try clear c24); (try clear c25); (try clear c27); (try clear c31); (try clear c40); (try clear c41); (try clear c43); (try clear c47); (try clear c57); (try clear c61); (try clear c70); (try clear c72); (try clear c72b0); (try clear c73); (try clear hcz10_0); (try clear hcz10_1); (try clear hcz10_2); (try clear hcz10_3); (try clear hcz28_0); (try clear hcz28_1); (try clear hcz28_2); (try clear hcz28_3); (try clear hcz32_0); (try clear hcz32_1); (try clear hcz32_2); (try clear hcz32_3); (try clear hcz34_0); (try clear hcz34_1); (try clear hcz34_2); (try clear hcz34_3); (try clear hcz36_0); (try clear hcz36_1); (try clear hcz36_2); (try clear hcz36_3); (try clear hcz38_0); (try clear hcz38_1); (try clear hcz38_2); (try clear hcz38_3); (try clear hcz44_0); (try clear hcz44_1); (try clear hcz44_2); (try clear hcz44_3); (try clear hcz48_0); (try clear hcz48_1); (try clear hcz48_2); (try clear hcz48_3); (try clear hcz50_0); (try clear hcz50_1); (try clear hcz50_2); (try clear hcz50_3); (try clear hcz52_0); (try clear hcz52_1); (try clear hcz52_2); (try clear hcz52_3); (try clear hcz54_0); (try clear hcz54_1); (try clear hcz54_2); (try clear hcz54_3); (try clear hcz58_0); (try clear hcz58_1); (try clear hcz58_2); (try clear hcz58_3); (try clear hcz5_0); (try clear hcz5_1); (try clear hcz5_2); (try clear hcz5_3); (try clear hcz62_0); (try clear hcz62_1); (try clear hcz62_2); (try clear hcz62_3); (try clear hcz64_0); (try clear hcz64_1); (try clear hcz64_2); (try clear hcz64_3); (try clear hcz66_0); (try clear hcz66_1); (try clear hcz66_2); (try clear hcz66_3); (try clear hcz68_0); (try clear hcz68_1); (try clear hcz68_2); (try clear hcz68_3); (try clear hcz74_0); (try clear hcz74_1); (try clear hcz74_2); (try clear hcz74_3); (try clear hcz75_0); (try clear hcz75_1); (try clear hcz75_2); (try clear hcz75_3); (try clear hcz76_0); (try clear hcz76_1); (try clear hcz76_2); (try clear hcz76_3); (try clear hcz7_0); (try clear hcz7_1); (try clear hcz7_2); (try clear hcz7_3); (try clear hcz9_0); (try clear hcz9_1); (try clear hcz9_2); (try clear hcz9_3); (try clear hfz10_0); (try clear hfz10_1); (try clear hfz10_2); (try clear hfz10_3); (try clear hfz28_0); (try clear hfz28_1); (try clear hfz28_2); (try clear hfz28_3); (try clear hfz32_0); (try clear hfz32_1); (try clear hfz32_2); (try clear hfz32_3); (try clear hfz34_0); (try clear hfz34_1); (try clear hfz34_2); (try clear hfz34_3); (try clear hfz36_0); (try clear hfz36_1); (try clear hfz36_2); (try clear hfz36_3); (try clear hfz38_0); (try clear hfz38_1); (try clear hfz38_2); (try clear hfz38_3); (try clear hfz44_0); (try clear hfz44_1); (try clear hfz44_2); (try clear hfz44_3); (try clear hfz48_0); (try clear hfz48_1); (try clear hfz48_2); (try clear hfz48_3); (try clear hfz50_0); (try clear hfz50_1); (try clear hfz50_2); (try clear hfz50_3); (try clear hfz52_0); (try clear hfz52_1); (try clear hfz52_2); (try clear hfz52_3); (try clear hfz54_0); (try clear hfz54_1); (try clear hfz54_2); (try clear hfz54_3); (try clear hfz58_0); (try clear hfz58_1); (try clear hfz58_2); (try clear hfz58_3); (try clear hfz5_0); (try clear hfz5_1); (try clear hfz5_2); (try clear hfz5_3); (try clear hfz62_0); (try clear hfz62_1); (try clear hfz62_2); (try clear hfz62_3); (try clear hfz64_0); (try clear hfz64_1); (try clear hfz64_2); (try clear hfz64_3); (try clear hfz66_0); (try clear hfz66_1); (try clear hfz66_2); (try clear hfz66_3); (try clear hfz68_0); (try clear hfz68_1); (try clear hfz68_2); (try clear hfz68_3); (try clear hfz74_0); (try clear hfz74_1); (try clear hfz74_2); (try clear hfz74_3); (try clear hfz75_0); (try clear hfz75_1); (try clear hfz75_2); (try clear hfz75_3); (try clear hfz76_0); (try clear hfz76_1); (try clear hfz76_2); (try clear hfz76_3); (try clear hfz7_0); (try clear hfz7_1); (try clear hfz7_2); (try clear hfz7_3); (try clear hfz9_0); (try clear hfz9_1); (try clear hfz9_2); (try clear hfz9_3); (try clear p2); (try clear HA); (try clear HJ70); (try clear BK214); (try clear HB)
                obtain ⟨kq, x71_70, rfl, HA, HJ70, BK214, HB⟩ := hcut
                cases kq with
                | zero => exact absurd HA.out (by simp [signalboxref02_Right.j2])
                | succ kj70 =>
                  have H := HA.out
                  clear HA; simp only [signalboxref02_Right.j2] at H
                  by_cases c77 : x71_70 = true
                  · subst c77
                    have H1 : (some false) = some r := by rw [if_pos rfl] at H; exact H
                    clear H; have H := H1
                    clear H1; obtain rfl := Option.some.inj H
                    go_wp2; go_ret
                    exact ⟨by first | rfl | (simp [errW_none, errW_some] <;> rfl) | (simp [*, errW_none, errW_some] <;> rfl), by repeat (first | (with_reducible first | exact HB.out | apply ba_ | apply bd_ | apply be_ | refine below_set ?_ GE214.out) | exact HB.out)⟩
                  · replace c77 := Bool.eq_false_iff.mpr c77
                    subst c77; have H1 : (if a0_2 < 0 then (signalboxref02_Right.j3 kj70 t217 true a0_0 a0_1 a0_2 a0_3) else (if a0_2 > 64 then (signalboxref02_Right.j3 kj70 t217 true a0_0 a0_1 a0_2 a0_3) else (if t216 = true then ((signalboxref02_Code.f kj70 a0_2).bind fun t225 => (if t225 < 0 then (signalboxref02_Right.j3 kj70 t217 true a0_0 a0_1 a0_2 a0_3) else (if t215 = true then (signalboxref02_Right.j3 kj70 t217 (a0_2 != 8) a0_0 a0_1 a0_2 a0_3) else (signalboxref02_Right.j3 kj70 t217 false a0_0 a0_1 a0_2 a0_3)))) else (if a0_2 > 8 then (signalboxref02_Right.j3 kj70 t217 true a0_0 a0_1 a0_2 a0_3) else (if t215 = true then (signalboxref02_Right.j3 kj70 t217 (a0_2 != 8) a0_0 a0_1 a0_2 a0_3) else (signalboxref02_Right.j3 kj70 t217 false a0_0 a0_1 a0_2 a0_3)))))) = some r := by rw [if_neg (show ¬ (false = true) by decide)] at H; exact H
                    clear H; have H := H1
                    clear H1; have HC78 := Aside0.mk H; clear H; go_upto_region 8 with (fail)
                    go_cut [105] (fun v105 wc => ∃ (kq : Nat) (x105_77 : Bool), v105 = .bool x105_77 ∧ Aside0 (signalboxref02_Right.j3 kq t217 x105_77 a0_0 a0_1 a0_2 a0_3 = some r) ∧ Aside0 (kq ≤ kj70) ∧ Aside0 (wc.heap[gb214]? = some (.cells #[.int .i64 a0_0, .int .i64 a0_1, .int .i64 a0_2, .string a0_3] 33 (0, 0))) ∧ Aside0 (Below w.heap.size w wc))
                    case first =>
                      have H := HC78.out
                      clear HC78; by_cases c79 : a0_2 < 0
                      · rw [if_pos c79] at H
                        have c79b0 : decide (a0_2 < 0) = true := decide_eq_true c79
                        clear c79; (first | rw [c79b0] | (simp only [i64_w, i32_w]; rw [c79b0]) | skip)
                        have H' := Aside0.mk H; clear H; have hcz80_0 : wc.cell? ⟨gb214, 0, none⟩ = some (.int .i64 a0_0) := (blk_cell BK214.out 0).trans rfl
                        have hcz80_1 : wc.cell? ⟨gb214, 1, none⟩ = some (.int .i64 a0_1) := (blk_cell BK214.out 1).trans rfl
                        have hcz80_2 : wc.cell? ⟨gb214, 2, none⟩ = some (.int .i64 a0_2) := (blk_cell BK214.out 2).trans rfl
                        have hcz80_3 : wc.cell? ⟨gb214, 3, none⟩ = some (.string a0_3) := (blk_cell BK214.out 3).trans rfl
                        have hfz80_0 := blk_frozen BK214.out 0
                        have hfz80_1 := blk_frozen BK214.out 1
                        have hfz80_2 := blk_frozen BK214.out 2
                        have hfz80_3 := blk_frozen BK214.out 3
                        go_wp2; go_meet
                        case rel => exact ⟨_, (true), (by first | rfl | (simp; done) | (simp [*]; done)), H', ⟨by have := HJ1.out; have := HJ15.out; have := HJ70.out; first | omega | exact Nat.le_refl _⟩, ⟨by (with_reducible repeat (first | refine kd_ ?_ _ | refine ke_ ?_ | refine ka_ ?_ _)); exact BK214.out⟩, ⟨by repeat (first | (with_reducible first | exact HB.out | apply ba_ | apply bd_ | apply be_ | refine below_set ?_ GE214.out) | exact HB.out)⟩⟩
                      · rw [if_neg c79] at H
                        have c79b0 : decide (a0_2 < 0) = false := decide_eq_false c79
                        clear c79; (first | rw [c79b0] | (simp only [i64_w, i32_w]; rw [c79b0]) | skip)
                        by_cases c81 : a0_2 > 64
                        · rw [if_pos c81] at H
                          have c81b0 : decide (64 < a0_2) = true := decide_eq_true c81
                          clear c81; have H' := Aside0.mk H; clear H; have hcz82_0 : wc.cell? ⟨gb214, 0, none⟩ = some (.int .i64 a0_0) := (blk_cell BK214.out 0).trans rfl
                          have hcz82_1 : wc.cell? ⟨gb214, 1, none⟩ = some (.int .i64 a0_1) := (blk_cell BK214.out 1).trans rfl
                          have hcz82_2 : wc.cell? ⟨gb214, 2, none⟩ = some (.int .i64 a0_2) := (blk_cell BK214.out 2).trans rfl
                          have hcz82_3 : wc.cell? ⟨gb214, 3, none⟩ = some (.string a0_3) := (blk_cell BK214.out 3).trans rfl
                          have hfz82_0 := blk_frozen BK214.out 0
                          have hfz82_1 := blk_frozen BK214.out 1
                          have hfz82_2 := blk_frozen BK214.out 2
                          have hfz82_3 := blk_frozen BK214.out 3
                          go_wp2; go_meet
                          case rel => exact ⟨_, (true), (by first | rfl | (simp; done) | (simp [*]; done)), H', ⟨by have := HJ1.out; have := HJ15.out; have := HJ70.out; first | omega | exact Nat.le_refl _⟩, ⟨by (with_reducible repeat (first | refine kd_ ?_ _ | refine ke_ ?_ | refine ka_ ?_ _)); exact BK214.out⟩, ⟨by repeat (first | (with_reducible first | exact HB.out | apply ba_ | apply bd_ | apply be_ | refine below_set ?_ GE214.out) | exact HB.out)⟩⟩
                        · rw [if_neg c81] at H
                          have c81b0 : decide (64 < a0_2) = false := decide_eq_false c81
                          clear c81; by_cases c83 : t216 = true
                          · subst c83
                            have H1 : ((signalboxref02_Code.f kj70 a0_2).bind fun t225 => (if t225 < 0 then (signalboxref02_Right.j3 kj70 t217 true a0_0 a0_1 a0_2 a0_3) else (if t215 = true then (signalboxref02_Right.j3 kj70 t217 (a0_2 != 8) a0_0 a0_1 a0_2 a0_3) else (signalboxref02_Right.j3 kj70 t217 false a0_0 a0_1 a0_2 a0_3)))) = some r := by rw [if_pos rfl] at H; exact H
                            clear H; have H := H1
                            clear H1; replace H := Option.bind_eq_some_iff.mp H
                            obtain ⟨t225, A840, H⟩ := H
                            replace H : (if t225 < 0 then (signalboxref02_Right.j3 kj70 t217 true a0_0 a0_1 a0_2 a0_3) else (if t215 = true then (signalboxref02_Right.j3 kj70 t217 (a0_2 != 8) a0_0 a0_1 a0_2 a0_3) else (signalboxref02_Right.j3 kj70 t217 false a0_0 a0_1 a0_2 a0_3))) = some r := H
                            have A84 := Aside0.mk A840; clear A840; by_cases c85 : t225 < 0
                            · rw [if_pos c85] at H
                              have c85b0 : decide (t225 < 0) = true := decide_eq_true c85
                              clear c85; have H' := Aside0.mk H; clear H; have hcz86_0 : wc.cell? ⟨gb214, 0, none⟩ = some (.int .i64 a0_0) := (blk_cell BK214.out 0).trans rfl
                              have hcz86_1 : wc.cell? ⟨gb214, 1, none⟩ = some (.int .i64 a0_1) := (blk_cell BK214.out 1).trans rfl
                              have hcz86_2 : wc.cell? ⟨gb214, 2, none⟩ = some (.int .i64 a0_2) := (blk_cell BK214.out 2).trans rfl
                              have hcz86_3 : wc.cell? ⟨gb214, 3, none⟩ = some (.string a0_3) := (blk_cell BK214.out 3).trans rfl
                              have hfz86_0 := blk_frozen BK214.out 0
                              have hfz86_1 := blk_frozen BK214.out 1
                              have hfz86_2 := blk_frozen BK214.out 2
                              have hfz86_3 := blk_frozen BK214.out 3
                              go_wp2_with (first | (go_at_call 55; (with_reducible refine (signalboxref02_Code.calls kj70 a0_2 t225 _ A84.out).mono ?_); rintro e w87 ⟨rfl, hb⟩; have n0_ := Aside0.mk (blk_below (pb BK214) hb); have n1_ := Aside0.mk (below_step (by repeat (first | (with_reducible first | exact HB.out | apply ba_ | apply bd_ | apply be_ | refine below_set ?_ GE214.out) | exact HB.out)) hb); clear BK214; clear HB; have BK214 := n0_; have HB := n1_; clear n0_ n1_; (try clear hb); (try clear hb2); (try clear hk); (try clear hi)))
                              go_meet
                              case rel => exact ⟨_, (true), (by first | rfl | (simp; done) | (simp [*]; done)), H', ⟨by have := HJ1.out; have := HJ15.out; have := HJ70.out; first | omega | exact Nat.le_refl _⟩, ⟨by (with_reducible repeat (first | refine kd_ ?_ _ | refine ke_ ?_ | refine ka_ ?_ _)); exact BK214.out⟩, ⟨by repeat (first | (with_reducible first | exact HB.out | apply ba_ | apply bd_ | apply be_ | refine below_set ?_ GE214.out) | exact HB.out)⟩⟩
                            · rw [if_neg c85] at H
                              have c85b0 : decide (t225 < 0) = false := decide_eq_false c85
                              clear c85; by_cases c88 : t215 = true
                              · subst c88
                                have H1 : (signalboxref02_Right.j3 kj70 t217 (a0_2 != 8) a0_0 a0_1 a0_2 a0_3) = some r := by rw [if_pos rfl] at H; exact H
                                clear H; have H := H1
                                clear H1; have H' := Aside0.mk H; clear H; have hcz89_0 : wc.cell? ⟨gb214, 0, none⟩ = some (.int .i64 a0_0) := (blk_cell BK214.out 0).trans rfl
                                have hcz89_1 : wc.cell? ⟨gb214, 1, none⟩ = some (.int .i64 a0_1) := (blk_cell BK214.out 1).trans rfl
                                have hcz89_2 : wc.cell? ⟨gb214, 2, none⟩ = some (.int .i64 a0_2) := (blk_cell BK214.out 2).trans rfl
                                have hcz89_3 : wc.cell? ⟨gb214, 3, none⟩ = some (.string a0_3) := (blk_cell BK214.out 3).trans rfl
                                have hfz89_0 := blk_frozen BK214.out 0
                                have hfz89_1 := blk_frozen BK214.out 1
                                have hfz89_2 := blk_frozen BK214.out 2
                                have hfz89_3 := blk_frozen BK214.out 3
                                go_wp2_with (first | (go_at_call 55; (with_reducible refine (signalboxref02_Code.calls kj70 a0_2 t225 _ A84.out).mono ?_); rintro e w90 ⟨rfl, hb⟩; have n0_ := Aside0.mk (blk_below (pb BK214) hb); have n1_ := Aside0.mk (below_step (by repeat (first | (with_reducible first | exact HB.out | apply ba_ | apply bd_ | apply be_ | refine below_set ?_ GE214.out) | exact HB.out)) hb); clear BK214; clear HB; have BK214 := n0_; have HB := n1_; clear n0_ n1_; (try clear hb); (try clear hb2); (try clear hk); (try clear hi); have hcz91_0 : w90.cell? ⟨gb214, 0, none⟩ = some (.int .i64 a0_0) := (blk_cell BK214.out 0).trans rfl; have hcz91_1 : w90.cell? ⟨gb214, 1, none⟩ = some (.int .i64 a0_1) := (blk_cell BK214.out 1).trans rfl; have hcz91_2 : w90.cell? ⟨gb214, 2, none⟩ = some (.int .i64 a0_2) := (blk_cell BK214.out 2).trans rfl; have hcz91_3 : w90.cell? ⟨gb214, 3, none⟩ = some (.string a0_3) := (blk_cell BK214.out 3).trans rfl; have hfz91_0 := blk_frozen BK214.out 0; have hfz91_1 := blk_frozen BK214.out 1; have hfz91_2 := blk_frozen BK214.out 2; have hfz91_3 := blk_frozen BK214.out 3))
                                go_meet
                                case rel => exact ⟨_, ((a0_2 != 8)), (by first | rfl | (simp; done) | (simp [*]; done)), H', ⟨by have := HJ1.out; have := HJ15.out; have := HJ70.out; first | omega | exact Nat.le_refl _⟩, ⟨by (with_reducible repeat (first | refine kd_ ?_ _ | refine ke_ ?_ | refine ka_ ?_ _)); exact BK214.out⟩, ⟨by repeat (first | (with_reducible first | exact HB.out | apply ba_ | apply bd_ | apply be_ | refine below_set ?_ GE214.out) | exact HB.out)⟩⟩
                              · replace c88 := Bool.eq_false_iff.mpr c88
                                subst c88; have H1 : (signalboxref02_Right.j3 kj70 t217 false a0_0 a0_1 a0_2 a0_3) = some r := by rw [if_neg (show ¬ (false = true) by decide)] at H; exact H
                                clear H; have H := H1
                                clear H1; have H' := Aside0.mk H; clear H; have hcz92_0 : wc.cell? ⟨gb214, 0, none⟩ = some (.int .i64 a0_0) := (blk_cell BK214.out 0).trans rfl
                                have hcz92_1 : wc.cell? ⟨gb214, 1, none⟩ = some (.int .i64 a0_1) := (blk_cell BK214.out 1).trans rfl
                                have hcz92_2 : wc.cell? ⟨gb214, 2, none⟩ = some (.int .i64 a0_2) := (blk_cell BK214.out 2).trans rfl
                                have hcz92_3 : wc.cell? ⟨gb214, 3, none⟩ = some (.string a0_3) := (blk_cell BK214.out 3).trans rfl
                                have hfz92_0 := blk_frozen BK214.out 0
                                have hfz92_1 := blk_frozen BK214.out 1
                                have hfz92_2 := blk_frozen BK214.out 2
                                have hfz92_3 := blk_frozen BK214.out 3
                                go_wp2_with (first | (go_at_call 55; (with_reducible refine (signalboxref02_Code.calls kj70 a0_2 t225 _ A84.out).mono ?_); rintro e w93 ⟨rfl, hb⟩; have n0_ := Aside0.mk (blk_below (pb BK214) hb); have n1_ := Aside0.mk (below_step (by repeat (first | (with_reducible first | exact HB.out | apply ba_ | apply bd_ | apply be_ | refine below_set ?_ GE214.out) | exact HB.out)) hb); clear BK214; clear HB; have BK214 := n0_; have HB := n1_; clear n0_ n1_; (try clear hb); (try clear hb2); (try clear hk); (try clear hi)))
                                go_meet
                                case rel => exact ⟨_, (false), (by first | rfl | (simp; done) | (simp [*]; done)), H', ⟨by have := HJ1.out; have := HJ15.out; have := HJ70.out; first | omega | exact Nat.le_refl _⟩, ⟨by (with_reducible repeat (first | refine kd_ ?_ _ | refine ke_ ?_ | refine ka_ ?_ _)); exact BK214.out⟩, ⟨by repeat (first | (with_reducible first | exact HB.out | apply ba_ | apply bd_ | apply be_ | refine below_set ?_ GE214.out) | exact HB.out)⟩⟩
                          · replace c83 := Bool.eq_false_iff.mpr c83
                            subst c83; have H1 : (if a0_2 > 8 then (signalboxref02_Right.j3 kj70 t217 true a0_0 a0_1 a0_2 a0_3) else (if t215 = true then (signalboxref02_Right.j3 kj70 t217 (a0_2 != 8) a0_0 a0_1 a0_2 a0_3) else (signalboxref02_Right.j3 kj70 t217 false a0_0 a0_1 a0_2 a0_3))) = some r := by rw [if_neg (show ¬ (false = true) by decide)] at H; exact H
                            clear H; have H := H1
                            clear H1; by_cases c94 : a0_2 > 8
                            · rw [if_pos c94] at H
                              have c94b0 : decide (8 < a0_2) = true := decide_eq_true c94
                              clear c94; have H' := Aside0.mk H; clear H; have hcz95_0 : wc.cell? ⟨gb214, 0, none⟩ = some (.int .i64 a0_0) := (blk_cell BK214.out 0).trans rfl
                              have hcz95_1 : wc.cell? ⟨gb214, 1, none⟩ = some (.int .i64 a0_1) := (blk_cell BK214.out 1).trans rfl
                              have hcz95_2 : wc.cell? ⟨gb214, 2, none⟩ = some (.int .i64 a0_2) := (blk_cell BK214.out 2).trans rfl
                              have hcz95_3 : wc.cell? ⟨gb214, 3, none⟩ = some (.string a0_3) := (blk_cell BK214.out 3).trans rfl
                              have hfz95_0 := blk_frozen BK214.out 0
                              have hfz95_1 := blk_frozen BK214.out 1
                              have hfz95_2 := blk_frozen BK214.out 2
                              have hfz95_3 := blk_frozen BK214.out 3
                              go_wp2; go_meet
                              case rel => exact ⟨_, (true), (by first | rfl | (simp; done) | (simp [*]; done)), H', ⟨by have := HJ1.out; have := HJ15.out; have := HJ70.out; first | omega | exact Nat.le_refl _⟩, ⟨by (with_reducible repeat (first | refine kd_ ?_ _ | refine ke_ ?_ | refine ka_ ?_ _)); exact BK214.out⟩, ⟨by repeat (first | (with_reducible first | exact HB.out | apply ba_ | apply bd_ | apply be_ | refine below_set ?_ GE214.out) | exact HB.out)⟩⟩
                            · rw [if_neg c94] at H
                              have c94b0 : decide (8 < a0_2) = false := decide_eq_false c94
                              clear c94; by_cases c96 : t215 = true
                              · subst c96
                                have H1 : (signalboxref02_Right.j3 kj70 t217 (a0_2 != 8) a0_0 a0_1 a0_2 a0_3) = some r := by rw [if_pos rfl] at H; exact H
                                clear H; have H := H1
                                clear H1; have H' := Aside0.mk H; clear H; have hcz97_0 : wc.cell? ⟨gb214, 0, none⟩ = some (.int .i64 a0_0) := (blk_cell BK214.out 0).trans rfl
                                have hcz97_1 : wc.cell? ⟨gb214, 1, none⟩ = some (.int .i64 a0_1) := (blk_cell BK214.out 1).trans rfl
                                have hcz97_2 : wc.cell? ⟨gb214, 2, none⟩ = some (.int .i64 a0_2) := (blk_cell BK214.out 2).trans rfl
                                have hcz97_3 : wc.cell? ⟨gb214, 3, none⟩ = some (.string a0_3) := (blk_cell BK214.out 3).trans rfl
                                have hfz97_0 := blk_frozen BK214.out 0
                                have hfz97_1 := blk_frozen BK214.out 1
                                have hfz97_2 := blk_frozen BK214.out 2
                                have hfz97_3 := blk_frozen BK214.out 3
                                go_wp2; go_meet
                                case rel => exact ⟨_, ((a0_2 != 8)), (by first | rfl | (simp; done) | (simp [*]; done)), H', ⟨by have := HJ1.out; have := HJ15.out; have := HJ70.out; first | omega | exact Nat.le_refl _⟩, ⟨by (with_reducible repeat (first | refine kd_ ?_ _ | refine ke_ ?_ | refine ka_ ?_ _)); exact BK214.out⟩, ⟨by repeat (first | (with_reducible first | exact HB.out | apply ba_ | apply bd_ | apply be_ | refine below_set ?_ GE214.out) | exact HB.out)⟩⟩
                              · replace c96 := Bool.eq_false_iff.mpr c96
                                subst c96; have H1 : (signalboxref02_Right.j3 kj70 t217 false a0_0 a0_1 a0_2 a0_3) = some r := by rw [if_neg (show ¬ (false = true) by decide)] at H; exact H
                                clear H; have H := H1
                                clear H1; have H' := Aside0.mk H; clear H; have hcz98_0 : wc.cell? ⟨gb214, 0, none⟩ = some (.int .i64 a0_0) := (blk_cell BK214.out 0).trans rfl
                                have hcz98_1 : wc.cell? ⟨gb214, 1, none⟩ = some (.int .i64 a0_1) := (blk_cell BK214.out 1).trans rfl
                                have hcz98_2 : wc.cell? ⟨gb214, 2, none⟩ = some (.int .i64 a0_2) := (blk_cell BK214.out 2).trans rfl
                                have hcz98_3 : wc.cell? ⟨gb214, 3, none⟩ = some (.string a0_3) := (blk_cell BK214.out 3).trans rfl
                                have hfz98_0 := blk_frozen BK214.out 0
                                have hfz98_1 := blk_frozen BK214.out 1
                                have hfz98_2 := blk_frozen BK214.out 2
                                have hfz98_3 := blk_frozen BK214.out 3
                                go_wp2; go_meet
                                case rel => exact ⟨_, (false), (by first | rfl | (simp; done) | (simp [*]; done)), H', ⟨by have := HJ1.out; have := HJ15.out; have := HJ70.out; first | omega | exact Nat.le_refl _⟩, ⟨by (with_reducible repeat (first | refine kd_ ?_ _ | refine ke_ ?_ | refine ka_ ?_ _)); exact BK214.out⟩, ⟨by repeat (first | (with_reducible first | exact HB.out | apply ba_ | apply bd_ | apply be_ | refine below_set ?_ GE214.out) | exact HB.out)⟩⟩
                    case rest =>
                      clear HC78; (try clear c1); (try clear c2); (try clear p2); (try clear c3); (try clear c4); (try clear c4b0); (try clear c5); (try clear c6); (try clear c6b0); (try clear c7); (try clear c8); (try clear c8b0); (try clear c9); (try clear c11); (try clear c22); (try clear c23); (try clear c24); (try clear c25); (try clear c27); (try clear c31); (try clear c40); (try clear c41); (try clear c43); (try clear c47); (try clear c57); (try clear c61); (try clear c70); (try clear c72); (try clear c72b0); (try clear c73); (try clear c77); (try clear c79); (try clear c79b0); (try clear c81); (try clear c81b0); (try clear c83); (try clear c85); (try clear c85b0); (try clear c88); (try clear c94); (try clear c94b0); (try clear c96); (try clear hcz10_0); (try clear hcz10_1); (try clear hcz10_2); (try clear hcz10_3); (try clear hcz28_0); (try clear hcz28_1); (try clear hcz28_2); (try clear hcz28_3); (try clear hcz32_0); (try clear hcz32_1); (try clear hcz32_2); (try clear hcz32_3); (try clear hcz34_0); (try clear hcz34_1); (try clear hcz34_2); (try clear hcz34_3); (try clear hcz36_0); (try clear hcz36_1); (try clear hcz36_2); (try clear hcz36_3); (try clear hcz38_0); (try clear hcz38_1); (try clear hcz38_2); (try clear hcz38_3); (try clear hcz44_0); (try clear hcz44_1); (try clear hcz44_2); (try clear hcz44_3); (try clear hcz48_0); (try clear hcz48_1); (try clear hcz48_2); (try clear hcz48_3); (try clear hcz50_0); (try clear hcz50_1); (try clear hcz50_2); (try clear hcz50_3); (try clear hcz52_0); (try clear hcz52_1); (try clear hcz52_2); (try clear hcz52_3); (try clear hcz54_0); (try clear hcz54_1); (try clear hcz54_2); (try clear hcz54_3); (try clear hcz58_0); (try clear hcz58_1); (try clear hcz58_2); (try clear hcz58_3); (try clear hcz5_0); (try clear hcz5_1); (try clear hcz5_2); (try clear hcz5_3); (try clear hcz62_0); (try clear hcz62_1); (try clear hcz62_2); (try clear hcz62_3); (try clear hcz64_0); (try clear hcz64_1); (try clear hcz64_2); (try clear hcz64_3); (try clear hcz66_0); (try clear hcz66_1); (try clear hcz66_2); (try clear hcz66_3); (try clear hcz68_0); (try clear hcz68_1); (try clear hcz68_2); (try clear hcz68_3); (try clear hcz74_0); (try clear hcz74_1); (try clear hcz74_2); (try clear hcz74_3); (try clear hcz75_0); (try clear hcz75_1); (try clear hcz75_2); (try clear hcz75_3); (try clear hcz76_0); (try clear hcz76_1); (try clear hcz76_2); (try clear hcz76_3); (try clear hcz7_0); (try clear hcz7_1); (try clear hcz7_2); (try clear hcz7_3); (try clear hcz80_0); (try clear hcz80_1); (try clear hcz80_2); (try clear hcz80_3); (try clear hcz82_0); (try clear hcz82_1); (try clear hcz82_2); (try clear hcz82_3); (try clear hcz86_0); (try clear hcz86_1); (try clear hcz86_2); (try clear hcz86_3); (try clear hcz89_0); (try clear hcz89_1); (try clear hcz89_2); (try clear hcz89_3); (try clear hcz91_0); (try clear hcz91_1); (try clear hcz91_2); (try clear hcz91_3); (try clear hcz92_0); (try clear hcz92_1); (try clear hcz92_2); (try clear hcz92_3); (try clear hcz95_0); (try clear hcz95_1); (try clear hcz95_2); (try clear hcz95_3); (try clear hcz97_0); (try clear hcz97_1); (try clear hcz97_2); (try clear hcz97_3); (try clear hcz98_0); (try clear hcz98_1); (try clear hcz98_2); (try clear hcz98_3); (try clear hcz9_0); (try clear hcz9_1); (try clear hcz9_2); (try clear hcz9_3); (try clear hfz10_0); (try clear hfz10_1); (try clear hfz10_2); (try clear hfz10_3); (try clear hfz28_0); (try clear hfz28_1); (try clear hfz28_2); (try clear hfz28_3); (try clear hfz32_0); (try clear hfz32_1); (try clear hfz32_2); (try clear hfz32_3); (try clear hfz34_0); (try clear hfz34_1); (try clear hfz34_2); (try clear hfz34_3); (try clear hfz36_0); (try clear hfz36_1); (try clear hfz36_2); (try clear hfz36_3); (try clear hfz38_0); (try clear hfz38_1); (try clear hfz38_2); (try clear hfz38_3); (try clear hfz44_0); (try clear hfz44_1); (try clear hfz44_2); (try clear hfz44_3); (try clear hfz48_0); (try clear hfz48_1); (try clear hfz48_2); (try clear hfz48_3); (try clear hfz50_0); (try clear hfz50_1); (try clear hfz50_2); (try clear hfz50_3); (try clear hfz52_0); (try clear hfz52_1); (try clear hfz52_2); (try clear hfz52_3); (try clear hfz54_0); (try clear hfz54_1); (try clear hfz54_2); (try clear hfz54_3); (try clear hfz58_0); (try clear hfz58_1); (try clear hfz58_2); (try clear hfz58_3); (try clear hfz5_0); (try clear hfz5_1); (try clear hfz5_2); (try clear hfz5_3); (try clear hfz62_0); (try clear hfz62_1); (try clear hfz62_2); (try clear hfz62_3); (try clear hfz64_0); (try clear hfz64_1); (try clear hfz64_2); (try clear hfz64_3); (try clear hfz66_0); (try clear hfz66_1); (try clear hfz66_2); (try clear hfz66_3); (try clear hfz68_0); (try clear hfz68_1); (try clear hfz68_2); (try clear hfz68_3); (try clear hfz74_0); (try clear hfz74_1); (try clear hfz74_2); (try clear hfz74_3); (try clear hfz75_0); (try clear hfz75_1); (try clear hfz75_2); (try clear hfz75_3); (try clear hfz76_0); (try clear hfz76_1); (try clear hfz76_2); (try clear hfz76_3); (try clear hfz7_0); (try clear hfz7_1); (try clear hfz7_2); (try clear hfz7_3); (try clear hfz80_0); (try clear hfz80_1); (try clear hfz80_2); (try clear hfz80_3); (try clear hfz82_0); (try clear hfz82_1); (try clear hfz82_2); (try clear hfz82_3); (try clear hfz86_0); (try clear hfz86_1); (try clear hfz86_2); (try clear hfz86_3); (try clear hfz89_0); (try clear hfz89_1); (try clear hfz89_2); (try clear hfz89_3); (try clear hfz91_0); (try clear hfz91_1); (try clear hfz91_2); (try clear hfz91_3); (try clear hfz92_0); (try clear hfz92_1); (try clear hfz92_2); (try clear hfz92_3); (try clear hfz95_0); (try clear hfz95_1); (try clear hfz95_2); (try clear hfz95_3); (try clear hfz97_0); (try clear hfz97_1); (try clear hfz97_2); (try clear hfz97_3); (try clear hfz98_0); (try clear hfz98_1); (try clear hfz98_2); (try clear hfz98_3); (try clear hfz9_0); (try clear hfz9_1); (try clear hfz9_2); (try clear hfz9_3); (try clear p2); (try clear HA); (try clear HJ77); (try clear BK214); (try clear HB)
                      obtain ⟨kq, x105_77, rfl, HA, HJ77, BK214, HB⟩ := hcut
                      cases kq with
                      | zero => exact absurd HA.out (by simp [signalboxref02_Right.j3])
                      | succ kj77 =>
                        have H := HA.out
                        clear HA; simp only [signalboxref02_Right.j3] at H
                        by_cases c99 : x105_77 = true
                        · subst c99
                          have H1 : (some false) = some r := by rw [if_pos rfl] at H; exact H
                          clear H; have H := H1
                          clear H1; obtain rfl := Option.some.inj H
                          go_wp2; go_ret
                          exact ⟨by first | rfl | (simp [errW_none, errW_some] <;> rfl) | (simp [*, errW_none, errW_some] <;> rfl), by repeat (first | (with_reducible first | exact HB.out | apply ba_ | apply bd_ | apply be_ | refine below_set ?_ GE214.out) | exact HB.out)⟩
                        · replace c99 := Bool.eq_false_iff.mpr c99
                          subst c99; have H1 : (if t217 = true then (some (a0_3.toList == ([] : List UInt8))) else (some ((a0_3.size : Int) == a0_2))) = some r := by rw [if_neg (show ¬ (false = true) by decide)] at H; exact H
                          clear H; have H := H1
                          clear H1; by_cases c100 : t217 = true
                          · subst c100
                            have H1 : (some (a0_3.toList == ([] : List UInt8))) = some r := by rw [if_pos rfl] at H; exact H
                            clear H; have H := H1
                            clear H1; obtain rfl := Option.some.inj H
                            have hcz101_0 : wc.cell? ⟨gb214, 0, none⟩ = some (.int .i64 a0_0) := (blk_cell BK214.out 0).trans rfl
                            have hcz101_1 : wc.cell? ⟨gb214, 1, none⟩ = some (.int .i64 a0_1) := (blk_cell BK214.out 1).trans rfl
                            have hcz101_2 : wc.cell? ⟨gb214, 2, none⟩ = some (.int .i64 a0_2) := (blk_cell BK214.out 2).trans rfl
                            have hcz101_3 : wc.cell? ⟨gb214, 3, none⟩ = some (.string a0_3) := (blk_cell BK214.out 3).trans rfl
                            have hfz101_0 := blk_frozen BK214.out 0
                            have hfz101_1 := blk_frozen BK214.out 1
                            have hfz101_2 := blk_frozen BK214.out 2
                            have hfz101_3 := blk_frozen BK214.out 3
                            go_wp2; go_ret
                            exact ⟨by first | rfl | (simp [errW_none, errW_some] <;> rfl) | (simp [*, errW_none, errW_some] <;> rfl), by repeat (first | (with_reducible first | exact HB.out | apply ba_ | apply bd_ | apply be_ | refine below_set ?_ GE214.out) | exact HB.out)⟩
                          · replace c100 := Bool.eq_false_iff.mpr c100
                            subst c100; have H1 : (some ((a0_3.size : Int) == a0_2)) = some r := by rw [if_neg (show ¬ (false = true) by decide)] at H; exact H
                            clear H; have H := H1
                            clear H1; obtain rfl := Option.some.inj H
                            have hcz102_0 : wc.cell? ⟨gb214, 0, none⟩ = some (.int .i64 a0_0) := (blk_cell BK214.out 0).trans rfl
                            have hcz102_1 : wc.cell? ⟨gb214, 1, none⟩ = some (.int .i64 a0_1) := (blk_cell BK214.out 1).trans rfl
                            have hcz102_2 : wc.cell? ⟨gb214, 2, none⟩ = some (.int .i64 a0_2) := (blk_cell BK214.out 2).trans rfl
                            have hcz102_3 : wc.cell? ⟨gb214, 3, none⟩ = some (.string a0_3) := (blk_cell BK214.out 3).trans rfl
                            have hfz102_0 := blk_frozen BK214.out 0
                            have hfz102_1 := blk_frozen BK214.out 1
                            have hfz102_2 := blk_frozen BK214.out 2
                            have hfz102_3 := blk_frozen BK214.out 3
                            go_wp2; go_ret
                            exact ⟨by first | rfl | (simp [errW_none, errW_some] <;> rfl) | (simp [*, errW_none, errW_some] <;> rfl), by repeat (first | (with_reducible first | exact HB.out | apply ba_ | apply bd_ | apply be_ | refine below_set ?_ GE214.out) | exact HB.out)⟩

end Go.Proofs.Ytelplkdbjfkfmaa.PWatchPlays
