-- Laid by a program of the session over the kit's print. Not trusted: Lean checks it.
import Derived.Test.YtbgfailobnbehaaPGateTurnsx0
import Derived.Test.YtbgfailobnbehaaPGateTurnsx1
import Derived.Test.YtbgfailobnbehaaPGateTurnsx2
import Derived.Test.YtbgfailobnbehaaPGateTurnsx5
import Derived.Test.YtbgfailobnbehaaPGateTurnsx6
import Derived.Test.YtbgfailobnbehaaPGateTurnsx7
import Derived.Test.YtbgfailobnbehaaPGateTurnsx12
import Derived.Test.YtbgfailobnbehaaPGateTurnsx13
namespace Go.Proofs.Ytbgfailobnbehaa.PGateTurns
open Go.RowKit Go.Proofs.YtbgfailobnbehaaW.PrintWords Go.Proofs.YtbgfailobnbehaaW.PrintLast Go.Proofs.YtbgfailobnbehaaW.PrintMore
attribute [local go_sem] max2_int min2_int max_two min_two max_three min_three max_four min_four   -- for this text's walks alone
set_option linter.unusedVariables false
set_option linter.unusedSimpArgs false

attribute [local go_sem high] eqA27
/-! ### signalboxlaw34_GateTurns: function 4 -/
mutual
def signalboxlaw34_GateTurns.j0 : Nat → List (S33) → ByteArray → ByteArray → Bool → Int → Int → Int → ByteArray → Option (Bool)
  | 0, _, _, _, _, _, _, _, _ => none
  | k + 1, x0, x2, x3, x27, x227000, x227001, x227002, x227003 => if x27 = true then ((signalboxlaw34_alive.f k).bind fun t228 => (some t228)) else (signalboxlaw34_GateTurns.l0 k x0 x2 x3 x0 (x0.length : Int) 0 x227000 x227001 x227002 x227003)
def signalboxlaw34_GateTurns.l0 : Nat → List (S33) → ByteArray → ByteArray → List (S33) → Int → Int → Int → Int → Int → ByteArray → Option (Bool)
  | 0, _, _, _, _, _, _, _, _, _, _ => none
  | k + 1, x0, x2, x3, x29, x30, x31, x227000, x227001, x227002, x227003 => if x31 < x30 then (if 0 ≤ x31 then (if x31 < (x29.length : Int) then ((gate_Turn.f k ((rd_T33 x29 x31).f0.f0) ((rd_T33 x29 x31).f0.f1) ((rd_T33 x29 x31).f0.f2) ((rd_T33 x29 x31).f1) ((rd_T33 x29 x31).f2) ((rd_T33 x29 x31).f3) ((rd_T33 x29 x31).f4) x227000 x227001 x227002 x227003).bind fun bt231 => ((signalboxref34_Turn.f k ((rd_T33 x29 x31).f0.f0) ((rd_T33 x29 x31).f0.f1) ((rd_T33 x29 x31).f0.f2) ((rd_T33 x29 x31).f1) ((rd_T33 x29 x31).f2) ((rd_T33 x29 x31).f3) ((rd_T33 x29 x31).f4) x227000 x227001 x227002 x227003).bind fun bt237 => (if (!(bt231.1 == bt237.1) || (!(bt231.2.1 == bt237.2.1) || (!(bt231.2.2.1 == bt237.2.2.1) || (!(bt231.2.2.2.1.toList == bt237.2.2.2.1.toList))))) = true then (some false) else (if (bt231.2.2.2.2 != bt237.2.2.2.2) = true then (some false) else (signalboxlaw34_GateTurns.l0 k x0 x2 x3 x29 x30 (wrap64 (x31 + 1)) x227000 x227001 x227002 x227003))))) else (none)) else (none)) else ((gate_Route.f k x0 x227000 x227001 x227002 x227003).bind fun t243 => ((signalboxref34_Route.f k x0 x227000 x227001 x227002 x227003).bind fun t246 => ((signalboxref03_Same.f k t243 t246).bind fun t249 => (if t249 = true then ((gate_Or.f x2 x3).bind fun t250 => ((signalboxref34_With.f k x2 x3 1).bind fun t251 => (if t250.toList = t251.toList then ((gate_Xor.f x2 x3).bind fun t252 => ((signalboxref34_With.f k x2 x3 2).bind fun t253 => (if t252.toList = t253.toList then ((signalboxlaw34_alive.f k).bind fun t254 => (some t254)) else (some false)))) else (some false)))) else (some false)))))
end
def signalboxlaw34_GateTurns.f (k : Nat) (l0 : List (S33)) (a1_0 : Int) (a1_1 : Int) (a1_2 : Int) (a1_3 : ByteArray) (a2 : ByteArray) (a3 : ByteArray) : Option (Bool) := (signalboxref34_Few.f k l0).bind fun t227 => (if t227 = true then (if (a2.size : Int) > 200 then (signalboxlaw34_GateTurns.j0 k l0 a2 a3 true a1_0 a1_1 a1_2 a1_3) else (signalboxlaw34_GateTurns.j0 k l0 a2 a3 (decide ((a3.size : Int) > 200)) a1_0 a1_1 a1_2 a1_3)) else (signalboxlaw34_GateTurns.j0 k l0 a2 a3 true a1_0 a1_1 a1_2 a1_3))
theorem signalboxlaw34_GateTurns.mono_l : ∀ k, (∀ y0 y1 y2 y3 y4 y5 y6 y7, LeO (signalboxlaw34_GateTurns.j0 k y0 y1 y2 y3 y4 y5 y6 y7) (signalboxlaw34_GateTurns.j0 (k + 1) y0 y1 y2 y3 y4 y5 y6 y7)) ∧ (∀ y0 y1 y2 y3 y4 y5 y6 y7 y8 y9, LeO (signalboxlaw34_GateTurns.l0 k y0 y1 y2 y3 y4 y5 y6 y7 y8 y9) (signalboxlaw34_GateTurns.l0 (k + 1) y0 y1 y2 y3 y4 y5 y6 y7 y8 y9))
  | 0 => ⟨fun _ _ _ _ _ _ _ _ r h => by simp [signalboxlaw34_GateTurns.j0] at h, fun _ _ _ _ _ _ _ _ _ _ r h => by simp [signalboxlaw34_GateTurns.l0] at h⟩
  | k + 1 => by
    obtain ⟨ih0, ih1⟩ := signalboxlaw34_GateTurns.mono_l k
    refine ⟨?_, ?_⟩
    · intro y0 y1 y2 y3 y4 y5 y6 y7
      unfold signalboxlaw34_GateTurns.j0
      repeat' first
      | (with_reducible exact ih0 _ _ _ _ _ _ _ _)
      | (with_reducible exact ih1 _ _ _ _ _ _ _ _ _ _)
      | (with_reducible exact gate_Route.mono _ _ _ _ _ _)
      | (with_reducible exact gate_Turn.mono _ _ _ _ _ _ _ _ _ _ _ _)
      | (with_reducible exact signalboxlaw34_alive.mono _)
      | (with_reducible exact signalboxref03_Same.mono _ _ _)
      | (with_reducible exact signalboxref34_Few.mono _ _)
      | (with_reducible exact signalboxref34_Route.mono _ _ _ _ _ _)
      | (with_reducible exact signalboxref34_Turn.mono _ _ _ _ _ _ _ _ _ _ _ _)
      | (with_reducible exact signalboxref34_With.mono _ _ _ _)
      | (with_reducible exact LeO.refl _)
      | (with_reducible exact LeO.none _)
      | (with_reducible refine LeO.ite ?_ ?_)
      | (with_reducible refine LeO.bind ?_ (fun _ => ?_))
      | exact ih0 _ _ _ _ _ _ _ _
      | exact ih1 _ _ _ _ _ _ _ _ _ _
      | exact gate_Route.mono _ _ _ _ _ _
      | exact gate_Turn.mono _ _ _ _ _ _ _ _ _ _ _ _
      | exact signalboxlaw34_alive.mono _
      | exact signalboxref03_Same.mono _ _ _
      | exact signalboxref34_Few.mono _ _
      | exact signalboxref34_Route.mono _ _ _ _ _ _
      | exact signalboxref34_Turn.mono _ _ _ _ _ _ _ _ _ _ _ _
      | exact signalboxref34_With.mono _ _ _ _
      | exact LeO.none _
      | refine LeO.ite ?_ ?_
      | refine LeO.bind ?_ (fun _ => ?_)
    · intro y0 y1 y2 y3 y4 y5 y6 y7 y8 y9
      unfold signalboxlaw34_GateTurns.l0
      repeat' first
      | (with_reducible exact ih0 _ _ _ _ _ _ _ _)
      | (with_reducible exact ih1 _ _ _ _ _ _ _ _ _ _)
      | (with_reducible exact gate_Route.mono _ _ _ _ _ _)
      | (with_reducible exact gate_Turn.mono _ _ _ _ _ _ _ _ _ _ _ _)
      | (with_reducible exact signalboxlaw34_alive.mono _)
      | (with_reducible exact signalboxref03_Same.mono _ _ _)
      | (with_reducible exact signalboxref34_Few.mono _ _)
      | (with_reducible exact signalboxref34_Route.mono _ _ _ _ _ _)
      | (with_reducible exact signalboxref34_Turn.mono _ _ _ _ _ _ _ _ _ _ _ _)
      | (with_reducible exact signalboxref34_With.mono _ _ _ _)
      | (with_reducible exact LeO.refl _)
      | (with_reducible exact LeO.none _)
      | (with_reducible refine LeO.ite ?_ ?_)
      | (with_reducible refine LeO.bind ?_ (fun _ => ?_))
      | exact ih0 _ _ _ _ _ _ _ _
      | exact ih1 _ _ _ _ _ _ _ _ _ _
      | exact gate_Route.mono _ _ _ _ _ _
      | exact gate_Turn.mono _ _ _ _ _ _ _ _ _ _ _ _
      | exact signalboxlaw34_alive.mono _
      | exact signalboxref03_Same.mono _ _ _
      | exact signalboxref34_Few.mono _ _
      | exact signalboxref34_Route.mono _ _ _ _ _ _
      | exact signalboxref34_Turn.mono _ _ _ _ _ _ _ _ _ _ _ _
      | exact signalboxref34_With.mono _ _ _ _
      | exact LeO.none _
      | refine LeO.ite ?_ ?_
      | refine LeO.bind ?_ (fun _ => ?_)
theorem signalboxlaw34_GateTurns.mono : ∀ a0 a1 a2 a3 a4 a5 a6 k, LeO (signalboxlaw34_GateTurns.f k a0 a1 a2 a3 a4 a5 a6) (signalboxlaw34_GateTurns.f (k + 1) a0 a1 a2 a3 a4 a5 a6) := by
  intro a0 a1 a2 a3 a4 a5 a6 k
  obtain ⟨ih0, ih1⟩ := signalboxlaw34_GateTurns.mono_l k
  unfold signalboxlaw34_GateTurns.f
  repeat' first
      | (with_reducible exact ih0 _ _ _ _ _ _ _ _)
      | (with_reducible exact ih1 _ _ _ _ _ _ _ _ _ _)
      | (with_reducible exact gate_Route.mono _ _ _ _ _ _)
      | (with_reducible exact gate_Turn.mono _ _ _ _ _ _ _ _ _ _ _ _)
      | (with_reducible exact signalboxlaw34_alive.mono _)
      | (with_reducible exact signalboxref03_Same.mono _ _ _)
      | (with_reducible exact signalboxref34_Few.mono _ _)
      | (with_reducible exact signalboxref34_Route.mono _ _ _ _ _ _)
      | (with_reducible exact signalboxref34_Turn.mono _ _ _ _ _ _ _ _ _ _ _ _)
      | (with_reducible exact signalboxref34_With.mono _ _ _ _)
      | (with_reducible exact LeO.refl _)
      | (with_reducible exact LeO.none _)
      | (with_reducible refine LeO.ite ?_ ?_)
      | (with_reducible refine LeO.bind ?_ (fun _ => ?_))
      | exact ih0 _ _ _ _ _ _ _ _
      | exact ih1 _ _ _ _ _ _ _ _ _ _
      | exact gate_Route.mono _ _ _ _ _ _
      | exact gate_Turn.mono _ _ _ _ _ _ _ _ _ _ _ _
      | exact signalboxlaw34_alive.mono _
      | exact signalboxref03_Same.mono _ _ _
      | exact signalboxref34_Few.mono _ _
      | exact signalboxref34_Route.mono _ _ _ _ _ _
      | exact signalboxref34_Turn.mono _ _ _ _ _ _ _ _ _ _ _ _
      | exact signalboxref34_With.mono _ _ _ _
      | exact LeO.none _
      | refine LeO.ite ?_ ?_
      | refine LeO.bind ?_ (fun _ => ?_)
def signalboxlaw34_GateTurns.T11 : Bool × List (List Nat × List Nat) := (true, [([], []), ([], []), ([0, 1], [0, 1]), ([], []), ([], []), ([3, 4, 2], [3, 4]), ([2, 5, 5], [2, 5]), ([6, 6], [6]), ([7], [7]), ([7], [7]), ([8, 9, 7, 7], [7, 8, 9]), ([7], [7]), ([7], [7]), ([11, 12, 10, 7], [7, 11, 12]), ([10, 13, 7], [7, 10, 13]), ([7, 14], [7, 14]), ([15, 13], [15]), ([16], [16]), ([16], [16]), ([17, 18, 16, 16], [16, 17, 18]), ([16], [16]), ([16], [16]), ([20, 21, 19, 16], [16, 20, 21]), ([19, 22, 16], [16, 19, 22]), ([16, 23], [16, 23]), ([24, 22], [24]), ([25, 25], [25]), ([25, 26], [25, 26]), ([27, 26, 0, 1, 2, 3, 4, 5, 6, 7, 8, 9, 10, 11, 12, 13, 14, 15, 16, 17, 18, 19, 20, 21, 22, 23, 24, 25, 26, 27], [27])])
def signalboxlaw34_GateTurns.B11 : List Nat := [0, 0, 3, 0, 0, 31, 63, 127, 255, 255, 1023, 255, 255, 8191, 16383, 32767, 65535, 131071, 131071, 524287, 131071, 131071, 4194303, 8388607, 16777215, 33554431, 67108863, 134217727, 268435455]
theorem signalboxlaw34_GateTurns.tab11 : rtab .any (opsOf Try.f4 11) = signalboxlaw34_GateTurns.T11 := by kernel_rfl
theorem signalboxlaw34_GateTurns.bits11 : waitsOk signalboxlaw34_GateTurns.T11.2 signalboxlaw34_GateTurns.B11 = true := by kernel_rfl
set_option maxHeartbeats 8000000 in
set_option maxRecDepth 100000 in
theorem signalboxlaw34_GateTurns.calls (k : Nat) (A0 : Option Addr) (c0 : Nat) (l0 : List (S33)) (a1_0 : Int) (a1_1 : Int) (a1_2 : Int) (a1_3 : ByteArray) (a2 : ByteArray) (a3 : ByteArray) (r : Bool) (w : World) (hr0 : Kd.C k33 w A0 l0.length l0) (hc0 : l0.length ≤ c0) (h : signalboxlaw34_GateTurns.f k l0 a1_0 a1_1 a1_2 a1_3 a2 a3 = some r) :
    Calls Try.prog 4 #[.slice A0 l0.length c0, .agg #[.int .i64 a1_0, .int .i64 a1_1, .int .i64 a1_2, .string a1_3], .string a2, .string a3] w fun e w' => e = .returned (.bool r) ∧ Below w.heap.size w w' := by
  have hu27 := Try.underlying27
  have hu33 := Try.underlying33
  have HR0 := Aside0.mk hr0; have HC0 := Aside0.mk hc0; clear hr0 hc0; have HB := Aside0.mk (Below.refl w.heap.size w)
  have H : ((signalboxref34_Few.f k l0).bind fun t227 => (if t227 = true then (if (a2.size : Int) > 200 then (signalboxlaw34_GateTurns.j0 k l0 a2 a3 true a1_0 a1_1 a1_2 a1_3) else (signalboxlaw34_GateTurns.j0 k l0 a2 a3 (decide ((a3.size : Int) > 200)) a1_0 a1_1 a1_2 a1_3)) else (signalboxlaw34_GateTurns.j0 k l0 a2 a3 true a1_0 a1_1 a1_2 a1_3))) = some r := h
  clear h; have HC5 := Aside0.mk H; clear H; go_enter Try.func4, Try.ntmps4
  go_upto_region 1 with (first | ((with_reducible refine gate_dst (N := 5) rfl ?_); (try (refine gate_guard (by rfl) ?_; dsimp only)); refine box_event ?hg (N := 5) ?hd (cs := #[.int .i64 a1_0, .int .i64 a1_1, .int .i64 a1_2, .string a1_3]) (t := 27) ?hr ?_; (case hd => rfl); (case hg => rfl); (case hr => first | (go_simp; done) | (go_simp; rfl)); intro gb226 hg w6 hbox hb; have n0_ := Aside0.mk (below_step (by repeat (first | (with_reducible first | exact HB.out | apply ba_ | apply bd_ | apply be_) | exact HB.out)) hb); have n1_ := Aside0.mk (hbox); have n2_ := Aside0.mk ((by rw [hg]; exact (below_size (by repeat (first | (with_reducible first | exact HB.out | apply ba_ | apply bd_ | apply be_) | exact HB.out))) : w.heap.size ≤ gb226)); have n3_ := Aside0.mk ((by rw [hg]; exact (below_size (by repeat (first | (with_reducible first | exact HB.out | apply ba_ | apply bd_ | apply be_) | exact HB.out))) : w.heap.size ≤ gb226)); clear HB; have HB := n0_; have BK226 := n1_; have GW226 := n2_; have GE226 := n3_; clear n0_ n1_ n2_ n3_; clear hb hbox hg))
  (try simp only [Act.put, sa_, sb_, sc_])
  go_cut [27] (fun v27 wc => ∃ (kq : Nat) (x27_4 : Bool), v27 = .bool x27_4 ∧ Aside0 (signalboxlaw34_GateTurns.j0 kq l0 a2 a3 x27_4 a1_0 a1_1 a1_2 a1_3 = some r) ∧ Aside0 (kq ≤ k) ∧ Aside0 (wc.heap[gb226]? = some (.cells #[.int .i64 a1_0, .int .i64 a1_1, .int .i64 a1_2, .string a1_3] 27 (0, 0))) ∧ Aside0 (Below w.heap.size w wc))
  case first =>
    have H := HC5.out
    clear HC5; replace H := Option.bind_eq_some_iff.mp H
    obtain ⟨t227, A70, H⟩ := H
    replace H : (if t227 = true then (if (a2.size : Int) > 200 then (signalboxlaw34_GateTurns.j0 k l0 a2 a3 true a1_0 a1_1 a1_2 a1_3) else (signalboxlaw34_GateTurns.j0 k l0 a2 a3 (decide ((a3.size : Int) > 200)) a1_0 a1_1 a1_2 a1_3)) else (signalboxlaw34_GateTurns.j0 k l0 a2 a3 true a1_0 a1_1 a1_2 a1_3)) = some r := H
    have A7 := Aside0.mk A70; clear A70; by_cases c8 : t227 = true
    · subst c8
      have H1 : (if (a2.size : Int) > 200 then (signalboxlaw34_GateTurns.j0 k l0 a2 a3 true a1_0 a1_1 a1_2 a1_3) else (signalboxlaw34_GateTurns.j0 k l0 a2 a3 (decide ((a3.size : Int) > 200)) a1_0 a1_1 a1_2 a1_3)) = some r := by rw [if_pos rfl] at H; exact H
      clear H; have H := H1
      clear H1; by_cases c9 : (a2.size : Int) > 200
      · rw [if_pos c9] at H
        have c9b0 : decide (200 < (a2.size : Int)) = true := decide_eq_true c9
        have c9b1 : decide (200 < a2.size) = true := decide_eq_true (by omega)
        clear c9; (first | rw [c9b0] | (simp only [i64_w, i32_w]; rw [c9b0]) | skip)
        have H' := Aside0.mk H; clear H; go_wp2_with (first | ((with_reducible refine gate_callee (f := 10) rfl ?_); refine goesL_ (some 16) rfl rfl Try.func10 (by kernel_rfl) rfl #[.slice A0 l0.length c0] rfl (by (try simp only [List.map_toArray, List.map_cons, List.map_nil]); first | done | rfl | (simp only [List.length_drop, List.length_take]; rfl)) ?_; (with_reducible refine (signalboxref34_Few.calls k _ _ l0 true _ ?side1 ?side2 A7.out).mono ?_); (case side1 => repeat (first | exact (Kd.C_below HR0.out HB.out) | (with_reducible refine Kd.C_alloc ?_ _) | (with_reducible refine Kd.C_drewN ?_ _) | (with_reducible refine Kd.C_drew ?_))); (case side2 => exact HC0.out); rintro e w10 ⟨rfl, hb⟩; refine ⟨_, rfl, ?_⟩; have n0_ := Aside0.mk (blk_below (g := gb226) (o := .cells #[.int .i64 a1_0, .int .i64 a1_1, .int .i64 a1_2, .string a1_3] 27 (0, 0)) (by (with_reducible repeat (first | refine kd_ ?_ _ | refine ke_ ?_ | refine ka_ ?_ _)); exact BK226.out) hb); have n1_ := Aside0.mk (below_step (by repeat (first | (with_reducible first | exact HB.out | apply ba_ | apply bd_ | apply be_ | refine below_set ?_ GE226.out) | exact HB.out)) hb); clear BK226; clear HB; have BK226 := n0_; have HB := n1_; clear n0_ n1_; (try clear hb); (try clear hb2); (try clear hk); (try clear hi)))
        go_meet
        case rel => exact ⟨_, (true), (by first | rfl | (simp; done) | (simp [*]; done)), H', ⟨by first | omega | exact Nat.le_refl _⟩, ⟨by (with_reducible repeat (first | refine kd_ ?_ _ | refine ke_ ?_ | refine ka_ ?_ _)); exact BK226.out⟩, ⟨by repeat (first | (with_reducible first | exact HB.out | apply ba_ | apply bd_ | apply be_ | refine below_set ?_ GE226.out) | exact HB.out)⟩⟩
      · rw [if_neg c9] at H
        have c9b0 : decide (200 < (a2.size : Int)) = false := decide_eq_false c9
        have c9b1 : decide (200 < a2.size) = false := decide_eq_false (by omega)
        clear c9; (first | rw [c9b0] | (simp only [i64_w, i32_w]; rw [c9b0]) | skip)
        have H' := Aside0.mk H; clear H; go_wp2_with (first | ((with_reducible refine gate_callee (f := 10) rfl ?_); refine goesL_ (some 16) rfl rfl Try.func10 (by kernel_rfl) rfl #[.slice A0 l0.length c0] rfl (by (try simp only [List.map_toArray, List.map_cons, List.map_nil]); first | done | rfl | (simp only [List.length_drop, List.length_take]; rfl)) ?_; (with_reducible refine (signalboxref34_Few.calls k _ _ l0 true _ ?side1 ?side2 A7.out).mono ?_); (case side1 => repeat (first | exact (Kd.C_below HR0.out HB.out) | (with_reducible refine Kd.C_alloc ?_ _) | (with_reducible refine Kd.C_drewN ?_ _) | (with_reducible refine Kd.C_drew ?_))); (case side2 => exact HC0.out); rintro e w11 ⟨rfl, hb⟩; refine ⟨_, rfl, ?_⟩; have n0_ := Aside0.mk (blk_below (g := gb226) (o := .cells #[.int .i64 a1_0, .int .i64 a1_1, .int .i64 a1_2, .string a1_3] 27 (0, 0)) (by (with_reducible repeat (first | refine kd_ ?_ _ | refine ke_ ?_ | refine ka_ ?_ _)); exact BK226.out) hb); have n1_ := Aside0.mk (below_step (by repeat (first | (with_reducible first | exact HB.out | apply ba_ | apply bd_ | apply be_ | refine below_set ?_ GE226.out) | exact HB.out)) hb); clear BK226; clear HB; have BK226 := n0_; have HB := n1_; clear n0_ n1_; (try clear hb); (try clear hb2); (try clear hk); (try clear hi)))
        go_meet
        case rel => exact ⟨_, (decide ((a3.size : Int) > 200)), (by first | rfl | (simp; done) | (simp [*]; done)), H', ⟨by first | omega | exact Nat.le_refl _⟩, ⟨by (with_reducible repeat (first | refine kd_ ?_ _ | refine ke_ ?_ | refine ka_ ?_ _)); exact BK226.out⟩, ⟨by repeat (first | (with_reducible first | exact HB.out | apply ba_ | apply bd_ | apply be_ | refine below_set ?_ GE226.out) | exact HB.out)⟩⟩
    · replace c8 := Bool.eq_false_iff.mpr c8
      subst c8; have H1 : (signalboxlaw34_GateTurns.j0 k l0 a2 a3 true a1_0 a1_1 a1_2 a1_3) = some r := by rw [if_neg (show ¬ (false = true) by decide)] at H; exact H
      clear H; have H := H1
      clear H1; have H' := Aside0.mk H; clear H; go_wp2_with (first | ((with_reducible refine gate_callee (f := 10) rfl ?_); refine goesL_ (some 16) rfl rfl Try.func10 (by kernel_rfl) rfl #[.slice A0 l0.length c0] rfl (by (try simp only [List.map_toArray, List.map_cons, List.map_nil]); first | done | rfl | (simp only [List.length_drop, List.length_take]; rfl)) ?_; (with_reducible refine (signalboxref34_Few.calls k _ _ l0 false _ ?side1 ?side2 A7.out).mono ?_); (case side1 => repeat (first | exact (Kd.C_below HR0.out HB.out) | (with_reducible refine Kd.C_alloc ?_ _) | (with_reducible refine Kd.C_drewN ?_ _) | (with_reducible refine Kd.C_drew ?_))); (case side2 => exact HC0.out); rintro e w12 ⟨rfl, hb⟩; refine ⟨_, rfl, ?_⟩; have n0_ := Aside0.mk (blk_below (g := gb226) (o := .cells #[.int .i64 a1_0, .int .i64 a1_1, .int .i64 a1_2, .string a1_3] 27 (0, 0)) (by (with_reducible repeat (first | refine kd_ ?_ _ | refine ke_ ?_ | refine ka_ ?_ _)); exact BK226.out) hb); have n1_ := Aside0.mk (below_step (by repeat (first | (with_reducible first | exact HB.out | apply ba_ | apply bd_ | apply be_ | refine below_set ?_ GE226.out) | exact HB.out)) hb); clear BK226; clear HB; have BK226 := n0_; have HB := n1_; clear n0_ n1_; (try clear hb); (try clear hb2); (try clear hk); (try clear hi)))
      go_meet
      case rel => exact ⟨_, (true), (by first | rfl | (simp; done) | (simp [*]; done)), H', ⟨by first | omega | exact Nat.le_refl _⟩, ⟨by (with_reducible repeat (first | refine kd_ ?_ _ | refine ke_ ?_ | refine ka_ ?_ _)); exact BK226.out⟩, ⟨by repeat (first | (with_reducible first | exact HB.out | apply ba_ | apply bd_ | apply be_ | refine below_set ?_ GE226.out) | exact HB.out)⟩⟩
  case rest =>
    clear HC5; (try clear c1); (try clear p2); (try clear c4); (try clear c8); (try clear c9); (try clear c9b0); (try clear c9b1); (try clear c10); (try clear HA); (try clear HJ4); (try clear BK226); (try clear HB); obtain ⟨kq, x27_4, rfl, HA, HJ4, BK226, HB⟩ := hcut
    cases kq with
    | zero => exact absurd HA.out (by simp [signalboxlaw34_GateTurns.j0])
    | succ kj4 =>
      have H := HA.out
      clear HA; simp only [signalboxlaw34_GateTurns.j0] at H
      by_cases c13 : x27_4 = true
      · subst c13
        have H1 : ((signalboxlaw34_alive.f kj4).bind fun t228 => (some t228)) = some r := by rw [if_pos rfl] at H; exact H
        clear H; have H := H1
        clear H1; replace H := Option.bind_eq_some_iff.mp H
        obtain ⟨t228, A140, H⟩ := H
        replace H : (some t228) = some r := H
        have A14 := Aside0.mk A140; clear A140; obtain rfl := Option.some.inj H
        go_wp2_with (first | ((with_reducible refine gate_callee (f := 7) rfl ?_); refine goesL_ (some 28) rfl rfl Try.func7 (by kernel_rfl) rfl #[] rfl (by (try simp only [List.map_toArray, List.map_cons, List.map_nil]); first | done | rfl | (simp only [List.length_drop, List.length_take]; rfl)) ?_; (with_reducible refine (signalboxlaw34_alive.calls kj4  t228 _ A14.out).mono ?_); rintro e w15 ⟨rfl, hb⟩; refine ⟨_, rfl, ?_⟩; have n0_ := Aside0.mk (blk_below (g := gb226) (o := .cells #[.int .i64 a1_0, .int .i64 a1_1, .int .i64 a1_2, .string a1_3] 27 (0, 0)) (by (with_reducible repeat (first | refine kd_ ?_ _ | refine ke_ ?_ | refine ka_ ?_ _)); exact BK226.out) hb); have n1_ := Aside0.mk (below_step (by repeat (first | (with_reducible first | exact HB.out | apply ba_ | apply bd_ | apply be_ | refine below_set ?_ GE226.out) | exact HB.out)) hb); clear BK226; clear HB; have BK226 := n0_; have HB := n1_; clear n0_ n1_; (try clear hb); (try clear hb2); (try clear hk); (try clear hi)))
        go_ret
        exact ⟨by first | rfl | (simp [errW_none, errW_some] <;> rfl) | (simp [*, errW_none, errW_some] <;> rfl), by repeat (first | (with_reducible first | exact HB.out | apply ba_ | apply bd_ | apply be_ | refine below_set ?_ GE226.out) | exact HB.out)⟩
      · replace c13 := Bool.eq_false_iff.mpr c13
        subst c13; have H1 : (signalboxlaw34_GateTurns.l0 kj4 l0 a2 a3 l0 (l0.length : Int) 0 a1_0 a1_1 a1_2 a1_3) = some r := by rw [if_neg (show ¬ (false = true) by decide)] at H; exact H
        clear H; have H := H1
        clear H1; have H' := Aside0.mk H; clear H; go_wp2; go_loopg [31] kj4 (fun kq v31 w' => ∃ (x31_2 : Int), v31 = .int .i64 x31_2 ∧ Aside0 (signalboxlaw34_GateTurns.l0 kq l0 a2 a3 l0 (l0.length : Int) x31_2 a1_0 a1_1 a1_2 a1_3 = some r) ∧ Aside0 (kq ≤ kj4) ∧ Aside0 (w'.heap[gb226]? = some (.cells #[.int .i64 a1_0, .int .i64 a1_1, .int .i64 a1_2, .string a1_3] 27 (0, 0))) ∧ Aside0 (Below w.heap.size w w'))
        case atStart => exact ⟨(0), (by first | rfl | (simp; done) | (simp [*]; done)), H', ⟨Nat.le_refl _⟩, ⟨by (with_reducible repeat (first | refine kd_ ?_ _ | refine ke_ ?_ | refine ka_ ?_ _)); exact BK226.out⟩, ⟨by repeat (first | (with_reducible first | exact HB.out | apply ba_ | apply bd_ | apply be_ | refine below_set ?_ GE226.out) | exact HB.out)⟩⟩
        case round =>
          clear H'; (try clear c1); (try clear p2); (try clear c4); (try clear c7); (try clear c8); (try clear c9); (try clear c9b0); (try clear c9b1); (try clear c10); (try clear c13); (try clear p2); obtain ⟨x31_2, rfl, HA, HK2, BK226, HB⟩ := hrel
          cases gk with
          | zero => exact absurd HA.out (by simp [signalboxlaw34_GateTurns.l0])
          | succ k2 =>
            have H := HA.out
            clear HA; simp only [signalboxlaw34_GateTurns.l0] at H
            by_cases c16 : x31_2 < (l0.length : Int)
            · rw [if_pos c16] at H
              have c16b0 : decide (x31_2 < (l0.length : Int)) = true := decide_eq_true c16
              clear c16; by_cases c17 : 0 ≤ x31_2
              · rw [if_pos c17] at H
                have c17b0 : decide (0 ≤ x31_2) = true := decide_eq_true c17
                clear c17; by_cases c18 : x31_2 < (l0.length : Int)
                · rw [if_pos c18] at H
                  have c18b0 : decide (x31_2 < (l0.length : Int)) = true := decide_eq_true c18
                  clear c18; replace H := Option.bind_eq_some_iff.mp H
                  obtain ⟨⟨t231, t232, t233, t234, t235⟩, A190, H⟩ := H
                  replace H : ((signalboxref34_Turn.f k2 ((rd_T33 l0 x31_2).f0.f0) ((rd_T33 l0 x31_2).f0.f1) ((rd_T33 l0 x31_2).f0.f2) ((rd_T33 l0 x31_2).f1) ((rd_T33 l0 x31_2).f2) ((rd_T33 l0 x31_2).f3) ((rd_T33 l0 x31_2).f4) a1_0 a1_1 a1_2 a1_3).bind fun bt237 => (if (!(t231 == bt237.1) || (!(t232 == bt237.2.1) || (!(t233 == bt237.2.2.1) || (!(t234.toList == bt237.2.2.2.1.toList))))) = true then (some false) else (if (t235 != bt237.2.2.2.2) = true then (some false) else (signalboxlaw34_GateTurns.l0 k2 l0 a2 a3 l0 (l0.length : Int) (wrap64 (x31_2 + 1)) a1_0 a1_1 a1_2 a1_3)))) = some r := H
                  have A19 := Aside0.mk A190; clear A190; replace H := Option.bind_eq_some_iff.mp H
                  obtain ⟨⟨t237, t238, t239, t240, t241⟩, A200, H⟩ := H
                  replace H : (if (!(t231 == t237) || (!(t232 == t238) || (!(t233 == t239) || (!(t234.toList == t240.toList))))) = true then (some false) else (if (t235 != t241) = true then (some false) else (signalboxlaw34_GateTurns.l0 k2 l0 a2 a3 l0 (l0.length : Int) (wrap64 (x31_2 + 1)) a1_0 a1_1 a1_2 a1_3))) = some r := H
                  have A20 := Aside0.mk A200; clear A200; by_cases c21 : (!(t231 == t237) || (!(t232 == t238) || (!(t233 == t239) || (!(t234.toList == t240.toList))))) = true
                  · rw [if_pos c21] at H
                    have c21b0 : (!(t231 == t237) || (!(t232 == t238) || (!(t233 == t239) || (!(t234.toList == t240.toList))))) = true := c21
                    clear c21; (try simp only [Bool.true_beq, Bool.false_beq, beq_true, beq_false, Bool.not_not, Bool.not_true, Bool.not_false, Bool.true_and, Bool.false_and, Bool.and_true, Bool.and_false, Bool.true_or, Bool.false_or, Bool.or_true, Bool.or_false] at c21b0)
                    obtain rfl := Option.some.inj H
                    have p229 : 0 ≤ (x31_2 : Int) := of_decide_eq_true (by first | (with_reducible assumption) | assumption)
                    have q229 : x31_2 < (l0.length : Int) := of_decide_eq_true (by first | (with_reducible assumption) | assumption)
                    obtain ⟨ad229, e229, hx229_0, hx229_1, hx229_2, hx229_3, hx229_4, hx229_5, hx229_6⟩ := at_T33 HR0.out x31_2 p229 q229
                    cases e229
                    replace hx229_0 := cu_ HB hx229_0
                    replace hx229_1 := cu_ HB hx229_1
                    replace hx229_2 := cu_ HB hx229_2
                    replace hx229_3 := cu_ HB hx229_3
                    replace hx229_4 := cu_ HB hx229_4
                    replace hx229_5 := cu_ HB hx229_5
                    replace hx229_6 := cu_ HB hx229_6
                    replace p229 := eq_true p229
                    replace q229 := eq_true q229
                    go_wp2_with (first | ((with_reducible refine gate_dst (N := 10) rfl ?_); (try (refine gate_guard (by rfl) ?_; dsimp only)); refine box_event ?hg (N := 10) ?hd (cs := #[.int .u32 0, .int .u32 0, .bool false, .int .i64 0, .string (⟨#[]⟩ : ByteArray), .string (⟨#[]⟩ : ByteArray), .string (⟨#[]⟩ : ByteArray)]) (t := 33) ?hr ?_; (case hd => rfl); (case hg => rfl); (case hr => first | (go_simp; done) | (go_simp; rfl)); intro gb230 hg w22 hbox hb; have n0_ := Aside0.mk (blk_below (g := gb226) (o := .cells #[.int .i64 a1_0, .int .i64 a1_1, .int .i64 a1_2, .string a1_3] 27 (0, 0)) (by (with_reducible repeat (first | refine kd_ ?_ _ | refine ke_ ?_ | refine ka_ ?_ _)); exact BK226.out) hb); have n1_ := Aside0.mk (below_step (by repeat (first | (with_reducible first | exact HB.out | apply ba_ | apply bd_ | apply be_ | refine below_set ?_ GE226.out) | exact HB.out)) hb); have n2_ := Aside0.mk (hbox); have n3_ := Aside0.mk ((by rw [hg]; exact (below_size (by repeat (first | (with_reducible first | exact HB.out | apply ba_ | apply bd_ | apply be_ | refine below_set ?_ GE226.out) | exact HB.out))) : w.heap.size ≤ gb230)); have n4_ := Aside0.mk ((by rw [hg]; exact (below_size (by repeat (first | (with_reducible first | exact HB.out | apply ba_ | apply bd_ | apply be_ | refine below_set ?_ GE226.out) | exact HB.out))) : w.heap.size ≤ gb230)); have n5_ := Aside0.mk ((by rw [hg]; exact Nat.ne_of_lt (blk_lt (g := gb226) (o := .cells #[.int .i64 a1_0, .int .i64 a1_1, .int .i64 a1_2, .string a1_3] 27 (0, 0)) (by (with_reducible repeat (first | refine kd_ ?_ _ | refine ke_ ?_ | refine ka_ ?_ _)); exact BK226.out)) : gb226 ≠ gb230)); have n6_ := Aside0.mk ((by rw [hg]; exact Nat.ne_of_gt (blk_lt (g := gb226) (o := .cells #[.int .i64 a1_0, .int .i64 a1_1, .int .i64 a1_2, .string a1_3] 27 (0, 0)) (by (with_reducible repeat (first | refine kd_ ?_ _ | refine ke_ ?_ | refine ka_ ?_ _)); exact BK226.out)) : gb230 ≠ gb226)); clear BK226; clear HB; have BK226 := n0_; have HB := n1_; have BK230 := n2_; have GW230 := n3_; have GE230 := n4_; have NB226_230 := n5_; have NB230_226 := n6_; clear n0_ n1_ n2_ n3_ n4_ n5_ n6_; clear hb hbox hg; have hnb23 := NB230_226.out; have hnc23 := NB226_230.out; have hcz24_0 : w22.cell? ⟨gb230, 0, none⟩ = some (.int .u32 0) := (blk_cell BK230.out 0).trans rfl; have hcz24_1 : w22.cell? ⟨gb230, 1, none⟩ = some (.int .u32 0) := (blk_cell BK230.out 1).trans rfl; have hcz24_2 : w22.cell? ⟨gb230, 2, none⟩ = some (.bool false) := (blk_cell BK230.out 2).trans rfl; have hcz24_3 : w22.cell? ⟨gb230, 3, none⟩ = some (.int .i64 0) := (blk_cell BK230.out 3).trans rfl; have hcz24_4 : w22.cell? ⟨gb230, 4, none⟩ = some (.string (⟨#[]⟩ : ByteArray)) := (blk_cell BK230.out 4).trans rfl; have hcz24_5 : w22.cell? ⟨gb230, 5, none⟩ = some (.string (⟨#[]⟩ : ByteArray)) := (blk_cell BK230.out 5).trans rfl; have hcz24_6 : w22.cell? ⟨gb230, 6, none⟩ = some (.string (⟨#[]⟩ : ByteArray)) := (blk_cell BK230.out 6).trans rfl; have hfz24_0 := blk_frozen BK230.out 0; have hfz24_1 := blk_frozen BK230.out 1; have hfz24_2 := blk_frozen BK230.out 2; have hfz24_3 := blk_frozen BK230.out 3; have hfz24_4 := blk_frozen BK230.out 4; have hfz24_5 := blk_frozen BK230.out 5; have hfz24_6 := blk_frozen BK230.out 6; have hcz25_0 : w22.cell? ⟨gb226, 0, none⟩ = some (.int .i64 a1_0) := (blk_cell BK226.out 0).trans rfl; have hcz25_1 : w22.cell? ⟨gb226, 1, none⟩ = some (.int .i64 a1_1) := (blk_cell BK226.out 1).trans rfl; have hcz25_2 : w22.cell? ⟨gb226, 2, none⟩ = some (.int .i64 a1_2) := (blk_cell BK226.out 2).trans rfl; have hcz25_3 : w22.cell? ⟨gb226, 3, none⟩ = some (.string a1_3) := (blk_cell BK226.out 3).trans rfl; have hfz25_0 := blk_frozen BK226.out 0; have hfz25_1 := blk_frozen BK226.out 1; have hfz25_2 := blk_frozen BK226.out 2; have hfz25_3 := blk_frozen BK226.out 3) | ((with_reducible refine gate_callee (f := 11) rfl ?_); refine goesL_ (some 38) rfl rfl Try.func11 (by kernel_rfl) rfl #[.agg #[.int .u32 ((rd_T33 l0 x31_2).f0.f0), .int .u32 ((rd_T33 l0 x31_2).f0.f1), .bool ((rd_T33 l0 x31_2).f0.f2), .int .i64 ((rd_T33 l0 x31_2).f1), .string ((rd_T33 l0 x31_2).f2), .string ((rd_T33 l0 x31_2).f3), .string ((rd_T33 l0 x31_2).f4)], .agg #[.int .i64 a1_0, .int .i64 a1_1, .int .i64 a1_2, .string a1_3]] rfl (by (try simp only [List.map_toArray, List.map_cons, List.map_nil]); first | done | rfl | (simp only [List.length_drop, List.length_take]; rfl)) ?_; (with_reducible refine (gate_Turn.calls k2 ((rd_T33 l0 x31_2).f0.f0) ((rd_T33 l0 x31_2).f0.f1) ((rd_T33 l0 x31_2).f0.f2) ((rd_T33 l0 x31_2).f1) ((rd_T33 l0 x31_2).f2) ((rd_T33 l0 x31_2).f3) ((rd_T33 l0 x31_2).f4) a1_0 a1_1 a1_2 a1_3 t231 t232 t233 t234 t235 _ A19.out).mono ?_); rintro e w26 ⟨rfl, hb⟩; refine ⟨_, rfl, ?_⟩; have n0_ := Aside0.mk (blk_below (g := gb226) (o := .cells #[.int .i64 a1_0, .int .i64 a1_1, .int .i64 a1_2, .string a1_3] 27 (0, 0)) (by (with_reducible repeat (first | refine kd_ ?_ _ | refine ke_ ?_ | refine ka_ ?_ _)); refine blk_far ?_ NB226_230.out _; (with_reducible repeat (first | refine kd_ ?_ _ | refine ke_ ?_ | refine ka_ ?_ _)); refine blk_far ?_ NB226_230.out _; (with_reducible repeat (first | refine kd_ ?_ _ | refine ke_ ?_ | refine ka_ ?_ _)); refine blk_far ?_ NB226_230.out _; (with_reducible repeat (first | refine kd_ ?_ _ | refine ke_ ?_ | refine ka_ ?_ _)); refine blk_far ?_ NB226_230.out _; (with_reducible repeat (first | refine kd_ ?_ _ | refine ke_ ?_ | refine ka_ ?_ _)); refine blk_far ?_ NB226_230.out _; (with_reducible repeat (first | refine kd_ ?_ _ | refine ke_ ?_ | refine ka_ ?_ _)); refine blk_far ?_ NB226_230.out _; (with_reducible repeat (first | refine kd_ ?_ _ | refine ke_ ?_ | refine ka_ ?_ _)); refine blk_far ?_ NB226_230.out _; (with_reducible repeat (first | refine kd_ ?_ _ | refine ke_ ?_ | refine ka_ ?_ _)); exact BK226.out) hb); have n1_ := Aside0.mk (blk_below (g := gb230) (o := .cells #[.int .u32 ((rd_T33 l0 x31_2).f0.f0), .int .u32 ((rd_T33 l0 x31_2).f0.f1), .bool ((rd_T33 l0 x31_2).f0.f2), .int .i64 ((rd_T33 l0 x31_2).f1), .string ((rd_T33 l0 x31_2).f2), .string ((rd_T33 l0 x31_2).f3), .string ((rd_T33 l0 x31_2).f4)] 33 (0, 0)) (by (with_reducible repeat (first | refine kd_ ?_ _ | refine ke_ ?_ | refine ka_ ?_ _)); refine blk_put (cs := #[.int .u32 ((rd_T33 l0 x31_2).f0.f0), .int .u32 ((rd_T33 l0 x31_2).f0.f1), .bool ((rd_T33 l0 x31_2).f0.f2), .int .i64 ((rd_T33 l0 x31_2).f1), .string ((rd_T33 l0 x31_2).f2), .string ((rd_T33 l0 x31_2).f3), .string (⟨#[]⟩ : ByteArray)]) ?_ 6 _ rfl; (with_reducible repeat (first | refine kd_ ?_ _ | refine ke_ ?_ | refine ka_ ?_ _)); refine blk_put (cs := #[.int .u32 ((rd_T33 l0 x31_2).f0.f0), .int .u32 ((rd_T33 l0 x31_2).f0.f1), .bool ((rd_T33 l0 x31_2).f0.f2), .int .i64 ((rd_T33 l0 x31_2).f1), .string ((rd_T33 l0 x31_2).f2), .string (⟨#[]⟩ : ByteArray), .string (⟨#[]⟩ : ByteArray)]) ?_ 5 _ rfl; (with_reducible repeat (first | refine kd_ ?_ _ | refine ke_ ?_ | refine ka_ ?_ _)); refine blk_put (cs := #[.int .u32 ((rd_T33 l0 x31_2).f0.f0), .int .u32 ((rd_T33 l0 x31_2).f0.f1), .bool ((rd_T33 l0 x31_2).f0.f2), .int .i64 ((rd_T33 l0 x31_2).f1), .string (⟨#[]⟩ : ByteArray), .string (⟨#[]⟩ : ByteArray), .string (⟨#[]⟩ : ByteArray)]) ?_ 4 _ rfl; (with_reducible repeat (first | refine kd_ ?_ _ | refine ke_ ?_ | refine ka_ ?_ _)); refine blk_put (cs := #[.int .u32 ((rd_T33 l0 x31_2).f0.f0), .int .u32 ((rd_T33 l0 x31_2).f0.f1), .bool ((rd_T33 l0 x31_2).f0.f2), .int .i64 0, .string (⟨#[]⟩ : ByteArray), .string (⟨#[]⟩ : ByteArray), .string (⟨#[]⟩ : ByteArray)]) ?_ 3 _ rfl; (with_reducible repeat (first | refine kd_ ?_ _ | refine ke_ ?_ | refine ka_ ?_ _)); refine blk_put (cs := #[.int .u32 ((rd_T33 l0 x31_2).f0.f0), .int .u32 ((rd_T33 l0 x31_2).f0.f1), .bool false, .int .i64 0, .string (⟨#[]⟩ : ByteArray), .string (⟨#[]⟩ : ByteArray), .string (⟨#[]⟩ : ByteArray)]) ?_ 2 _ rfl; (with_reducible repeat (first | refine kd_ ?_ _ | refine ke_ ?_ | refine ka_ ?_ _)); refine blk_put (cs := #[.int .u32 ((rd_T33 l0 x31_2).f0.f0), .int .u32 0, .bool false, .int .i64 0, .string (⟨#[]⟩ : ByteArray), .string (⟨#[]⟩ : ByteArray), .string (⟨#[]⟩ : ByteArray)]) ?_ 1 _ rfl; (with_reducible repeat (first | refine kd_ ?_ _ | refine ke_ ?_ | refine ka_ ?_ _)); refine blk_put (cs := #[.int .u32 0, .int .u32 0, .bool false, .int .i64 0, .string (⟨#[]⟩ : ByteArray), .string (⟨#[]⟩ : ByteArray), .string (⟨#[]⟩ : ByteArray)]) ?_ 0 _ rfl; (with_reducible repeat (first | refine kd_ ?_ _ | refine ke_ ?_ | refine ka_ ?_ _)); exact BK230.out) hb); have n2_ := Aside0.mk (below_step (by repeat (first | (with_reducible first | exact HB.out | apply ba_ | apply bd_ | apply be_ | refine below_set ?_ GE226.out | refine below_set ?_ GE230.out) | exact HB.out)) hb); clear BK226; clear BK230; clear HB; have BK226 := n0_; have BK230 := n1_; have HB := n2_; clear n0_ n1_ n2_; (try clear hb); (try clear hb2); (try clear hk); (try clear hi)) | ((with_reducible refine gate_dst (N := 11) rfl ?_); (try (refine gate_guard (by rfl) ?_; dsimp only)); refine box_event ?hg (N := 11) ?hd (cs := #[.int .i64 0, .int .i64 0, .int .i64 0, .string (⟨#[]⟩ : ByteArray)]) (t := 27) ?hr ?_; (case hd => rfl); (case hg => rfl); (case hr => first | (go_simp; done) | (go_simp; rfl)); intro gb236 hg w27 hbox hb; have n0_ := Aside0.mk (blk_below (g := gb226) (o := .cells #[.int .i64 a1_0, .int .i64 a1_1, .int .i64 a1_2, .string a1_3] 27 (0, 0)) (by (with_reducible repeat (first | refine kd_ ?_ _ | refine ke_ ?_ | refine ka_ ?_ _)); exact BK226.out) hb); have n1_ := Aside0.mk (blk_below (g := gb230) (o := .cells #[.int .u32 ((rd_T33 l0 x31_2).f0.f0), .int .u32 ((rd_T33 l0 x31_2).f0.f1), .bool ((rd_T33 l0 x31_2).f0.f2), .int .i64 ((rd_T33 l0 x31_2).f1), .string ((rd_T33 l0 x31_2).f2), .string ((rd_T33 l0 x31_2).f3), .string ((rd_T33 l0 x31_2).f4)] 33 (0, 0)) (by (with_reducible repeat (first | refine kd_ ?_ _ | refine ke_ ?_ | refine ka_ ?_ _)); exact BK230.out) hb); have n2_ := Aside0.mk (below_step (by repeat (first | (with_reducible first | exact HB.out | apply ba_ | apply bd_ | apply be_ | refine below_set ?_ GE226.out | refine below_set ?_ GE230.out) | exact HB.out)) hb); have n3_ := Aside0.mk (hbox); have n4_ := Aside0.mk ((by rw [hg]; exact (below_size (by repeat (first | (with_reducible first | exact HB.out | apply ba_ | apply bd_ | apply be_ | refine below_set ?_ GE226.out | refine below_set ?_ GE230.out) | exact HB.out))) : w.heap.size ≤ gb236)); have n5_ := Aside0.mk ((by rw [hg]; exact (below_size (by repeat (first | (with_reducible first | exact HB.out | apply ba_ | apply bd_ | apply be_ | refine below_set ?_ GE226.out | refine below_set ?_ GE230.out) | exact HB.out))) : w.heap.size ≤ gb236)); have n6_ := Aside0.mk ((by rw [hg]; exact Nat.ne_of_lt (blk_lt (g := gb226) (o := .cells #[.int .i64 a1_0, .int .i64 a1_1, .int .i64 a1_2, .string a1_3] 27 (0, 0)) (by (with_reducible repeat (first | refine kd_ ?_ _ | refine ke_ ?_ | refine ka_ ?_ _)); exact BK226.out)) : gb226 ≠ gb236)); have n7_ := Aside0.mk ((by rw [hg]; exact Nat.ne_of_gt (blk_lt (g := gb226) (o := .cells #[.int .i64 a1_0, .int .i64 a1_1, .int .i64 a1_2, .string a1_3] 27 (0, 0)) (by (with_reducible repeat (first | refine kd_ ?_ _ | refine ke_ ?_ | refine ka_ ?_ _)); exact BK226.out)) : gb236 ≠ gb226)); have n8_ := Aside0.mk ((by rw [hg]; exact Nat.ne_of_lt (blk_lt (g := gb230) (o := .cells #[.int .u32 ((rd_T33 l0 x31_2).f0.f0), .int .u32 ((rd_T33 l0 x31_2).f0.f1), .bool ((rd_T33 l0 x31_2).f0.f2), .int .i64 ((rd_T33 l0 x31_2).f1), .string ((rd_T33 l0 x31_2).f2), .string ((rd_T33 l0 x31_2).f3), .string ((rd_T33 l0 x31_2).f4)] 33 (0, 0)) (by (with_reducible repeat (first | refine kd_ ?_ _ | refine ke_ ?_ | refine ka_ ?_ _)); exact BK230.out)) : gb230 ≠ gb236)); have n9_ := Aside0.mk ((by rw [hg]; exact Nat.ne_of_gt (blk_lt (g := gb230) (o := .cells #[.int .u32 ((rd_T33 l0 x31_2).f0.f0), .int .u32 ((rd_T33 l0 x31_2).f0.f1), .bool ((rd_T33 l0 x31_2).f0.f2), .int .i64 ((rd_T33 l0 x31_2).f1), .string ((rd_T33 l0 x31_2).f2), .string ((rd_T33 l0 x31_2).f3), .string ((rd_T33 l0 x31_2).f4)] 33 (0, 0)) (by (with_reducible repeat (first | refine kd_ ?_ _ | refine ke_ ?_ | refine ka_ ?_ _)); exact BK230.out)) : gb236 ≠ gb230)); clear BK226; clear BK230; clear HB; have BK226 := n0_; have BK230 := n1_; have HB := n2_; have BK236 := n3_; have GW236 := n4_; have GE236 := n5_; have NB226_236 := n6_; have NB236_226 := n7_; have NB230_236 := n8_; have NB236_230 := n9_; clear n0_ n1_ n2_ n3_ n4_ n5_ n6_ n7_ n8_ n9_; clear hb hbox hg; have hnb28 := NB236_226.out; have hnc28 := NB226_236.out; have hnb29 := NB236_230.out; have hnc29 := NB230_236.out; have hcz30_0 : w27.cell? ⟨gb236, 0, none⟩ = some (.int .i64 0) := (blk_cell BK236.out 0).trans rfl; have hcz30_1 : w27.cell? ⟨gb236, 1, none⟩ = some (.int .i64 0) := (blk_cell BK236.out 1).trans rfl; have hcz30_2 : w27.cell? ⟨gb236, 2, none⟩ = some (.int .i64 0) := (blk_cell BK236.out 2).trans rfl; have hcz30_3 : w27.cell? ⟨gb236, 3, none⟩ = some (.string (⟨#[]⟩ : ByteArray)) := (blk_cell BK236.out 3).trans rfl; have hfz30_0 := blk_frozen BK236.out 0; have hfz30_1 := blk_frozen BK236.out 1; have hfz30_2 := blk_frozen BK236.out 2; have hfz30_3 := blk_frozen BK236.out 3; have hcz31_0 : w27.cell? ⟨gb230, 0, none⟩ = some (.int .u32 ((rd_T33 l0 x31_2).f0.f0)) := (blk_cell BK230.out 0).trans rfl; have hcz31_1 : w27.cell? ⟨gb230, 1, none⟩ = some (.int .u32 ((rd_T33 l0 x31_2).f0.f1)) := (blk_cell BK230.out 1).trans rfl; have hcz31_2 : w27.cell? ⟨gb230, 2, none⟩ = some (.bool ((rd_T33 l0 x31_2).f0.f2)) := (blk_cell BK230.out 2).trans rfl; have hcz31_3 : w27.cell? ⟨gb230, 3, none⟩ = some (.int .i64 ((rd_T33 l0 x31_2).f1)) := (blk_cell BK230.out 3).trans rfl; have hcz31_4 : w27.cell? ⟨gb230, 4, none⟩ = some (.string ((rd_T33 l0 x31_2).f2)) := (blk_cell BK230.out 4).trans rfl; have hcz31_5 : w27.cell? ⟨gb230, 5, none⟩ = some (.string ((rd_T33 l0 x31_2).f3)) := (blk_cell BK230.out 5).trans rfl; have hcz31_6 : w27.cell? ⟨gb230, 6, none⟩ = some (.string ((rd_T33 l0 x31_2).f4)) := (blk_cell BK230.out 6).trans rfl; have hfz31_0 := blk_frozen BK230.out 0; have hfz31_1 := blk_frozen BK230.out 1; have hfz31_2 := blk_frozen BK230.out 2; have hfz31_3 := blk_frozen BK230.out 3; have hfz31_4 := blk_frozen BK230.out 4; have hfz31_5 := blk_frozen BK230.out 5; have hfz31_6 := blk_frozen BK230.out 6; have hcz32_0 : w27.cell? ⟨gb226, 0, none⟩ = some (.int .i64 a1_0) := (blk_cell BK226.out 0).trans rfl; have hcz32_1 : w27.cell? ⟨gb226, 1, none⟩ = some (.int .i64 a1_1) := (blk_cell BK226.out 1).trans rfl; have hcz32_2 : w27.cell? ⟨gb226, 2, none⟩ = some (.int .i64 a1_2) := (blk_cell BK226.out 2).trans rfl; have hcz32_3 : w27.cell? ⟨gb226, 3, none⟩ = some (.string a1_3) := (blk_cell BK226.out 3).trans rfl; have hfz32_0 := blk_frozen BK226.out 0; have hfz32_1 := blk_frozen BK226.out 1; have hfz32_2 := blk_frozen BK226.out 2; have hfz32_3 := blk_frozen BK226.out 3) | ((with_reducible refine gate_callee (f := 12) rfl ?_); refine goesL_ (some 44) rfl rfl Try.func12 (by kernel_rfl) rfl #[.agg #[.int .u32 ((rd_T33 l0 x31_2).f0.f0), .int .u32 ((rd_T33 l0 x31_2).f0.f1), .bool ((rd_T33 l0 x31_2).f0.f2), .int .i64 ((rd_T33 l0 x31_2).f1), .string ((rd_T33 l0 x31_2).f2), .string ((rd_T33 l0 x31_2).f3), .string ((rd_T33 l0 x31_2).f4)], .agg #[.int .i64 a1_0, .int .i64 a1_1, .int .i64 a1_2, .string a1_3]] rfl (by (try simp only [List.map_toArray, List.map_cons, List.map_nil]); first | done | rfl | (simp only [List.length_drop, List.length_take]; rfl)) ?_; (with_reducible refine (signalboxref34_Turn.calls k2 ((rd_T33 l0 x31_2).f0.f0) ((rd_T33 l0 x31_2).f0.f1) ((rd_T33 l0 x31_2).f0.f2) ((rd_T33 l0 x31_2).f1) ((rd_T33 l0 x31_2).f2) ((rd_T33 l0 x31_2).f3) ((rd_T33 l0 x31_2).f4) a1_0 a1_1 a1_2 a1_3 t237 t238 t239 t240 t241 _ A20.out).mono ?_); rintro e w33 ⟨rfl, hb⟩; refine ⟨_, rfl, ?_⟩; have n0_ := Aside0.mk (blk_below (g := gb226) (o := .cells #[.int .i64 a1_0, .int .i64 a1_1, .int .i64 a1_2, .string a1_3] 27 (0, 0)) (by (with_reducible repeat (first | refine kd_ ?_ _ | refine ke_ ?_ | refine ka_ ?_ _)); refine blk_far ?_ NB226_236.out _; (with_reducible repeat (first | refine kd_ ?_ _ | refine ke_ ?_ | refine ka_ ?_ _)); refine blk_far ?_ NB226_236.out _; (with_reducible repeat (first | refine kd_ ?_ _ | refine ke_ ?_ | refine ka_ ?_ _)); refine blk_far ?_ NB226_236.out _; (with_reducible repeat (first | refine kd_ ?_ _ | refine ke_ ?_ | refine ka_ ?_ _)); refine blk_far ?_ NB226_236.out _; (with_reducible repeat (first | refine kd_ ?_ _ | refine ke_ ?_ | refine ka_ ?_ _)); exact BK226.out) hb); have n1_ := Aside0.mk (blk_below (g := gb230) (o := .cells #[.int .u32 ((rd_T33 l0 x31_2).f0.f0), .int .u32 ((rd_T33 l0 x31_2).f0.f1), .bool ((rd_T33 l0 x31_2).f0.f2), .int .i64 ((rd_T33 l0 x31_2).f1), .string ((rd_T33 l0 x31_2).f2), .string ((rd_T33 l0 x31_2).f3), .string ((rd_T33 l0 x31_2).f4)] 33 (0, 0)) (by (with_reducible repeat (first | refine kd_ ?_ _ | refine ke_ ?_ | refine ka_ ?_ _)); refine blk_far ?_ NB230_236.out _; (with_reducible repeat (first | refine kd_ ?_ _ | refine ke_ ?_ | refine ka_ ?_ _)); refine blk_far ?_ NB230_236.out _; (with_reducible repeat (first | refine kd_ ?_ _ | refine ke_ ?_ | refine ka_ ?_ _)); refine blk_far ?_ NB230_236.out _; (with_reducible repeat (first | refine kd_ ?_ _ | refine ke_ ?_ | refine ka_ ?_ _)); refine blk_far ?_ NB230_236.out _; (with_reducible repeat (first | refine kd_ ?_ _ | refine ke_ ?_ | refine ka_ ?_ _)); exact BK230.out) hb); have n2_ := Aside0.mk (blk_below (g := gb236) (o := .cells #[.int .i64 t231, .int .i64 t232, .int .i64 t233, .string t234] 27 (0, 0)) (by (with_reducible repeat (first | refine kd_ ?_ _ | refine ke_ ?_ | refine ka_ ?_ _)); refine blk_put (cs := #[.int .i64 t231, .int .i64 t232, .int .i64 t233, .string (⟨#[]⟩ : ByteArray)]) ?_ 3 _ rfl; (with_reducible repeat (first | refine kd_ ?_ _ | refine ke_ ?_ | refine ka_ ?_ _)); refine blk_put (cs := #[.int .i64 t231, .int .i64 t232, .int .i64 0, .string (⟨#[]⟩ : ByteArray)]) ?_ 2 _ rfl; (with_reducible repeat (first | refine kd_ ?_ _ | refine ke_ ?_ | refine ka_ ?_ _)); refine blk_put (cs := #[.int .i64 t231, .int .i64 0, .int .i64 0, .string (⟨#[]⟩ : ByteArray)]) ?_ 1 _ rfl; (with_reducible repeat (first | refine kd_ ?_ _ | refine ke_ ?_ | refine ka_ ?_ _)); refine blk_put (cs := #[.int .i64 0, .int .i64 0, .int .i64 0, .string (⟨#[]⟩ : ByteArray)]) ?_ 0 _ rfl; (with_reducible repeat (first | refine kd_ ?_ _ | refine ke_ ?_ | refine ka_ ?_ _)); exact BK236.out) hb); have n3_ := Aside0.mk (below_step (by repeat (first | (with_reducible first | exact HB.out | apply ba_ | apply bd_ | apply be_ | refine below_set ?_ GE226.out | refine below_set ?_ GE230.out | refine below_set ?_ GE236.out) | exact HB.out)) hb); clear BK226; clear BK230; clear BK236; clear HB; have BK226 := n0_; have BK230 := n1_; have BK236 := n2_; have HB := n3_; clear n0_ n1_ n2_ n3_; (try clear hb); (try clear hb2); (try clear hk); (try clear hi)) | ((with_reducible refine gate_dst (N := 13) rfl ?_); (try (refine gate_guard (by rfl) ?_; dsimp only)); refine box_event ?hg (N := 13) ?hd (cs := #[.int .i64 0, .int .i64 0, .int .i64 0, .string (⟨#[]⟩ : ByteArray)]) (t := 27) ?hr ?_; (case hd => rfl); (case hg => rfl); (case hr => first | (go_simp; done) | (go_simp; rfl)); intro gb242 hg w34 hbox hb; have n0_ := Aside0.mk (blk_below (g := gb226) (o := .cells #[.int .i64 a1_0, .int .i64 a1_1, .int .i64 a1_2, .string a1_3] 27 (0, 0)) (by (with_reducible repeat (first | refine kd_ ?_ _ | refine ke_ ?_ | refine ka_ ?_ _)); exact BK226.out) hb); have n1_ := Aside0.mk (blk_below (g := gb230) (o := .cells #[.int .u32 ((rd_T33 l0 x31_2).f0.f0), .int .u32 ((rd_T33 l0 x31_2).f0.f1), .bool ((rd_T33 l0 x31_2).f0.f2), .int .i64 ((rd_T33 l0 x31_2).f1), .string ((rd_T33 l0 x31_2).f2), .string ((rd_T33 l0 x31_2).f3), .string ((rd_T33 l0 x31_2).f4)] 33 (0, 0)) (by (with_reducible repeat (first | refine kd_ ?_ _ | refine ke_ ?_ | refine ka_ ?_ _)); exact BK230.out) hb); have n2_ := Aside0.mk (blk_below (g := gb236) (o := .cells #[.int .i64 t231, .int .i64 t232, .int .i64 t233, .string t234] 27 (0, 0)) (by (with_reducible repeat (first | refine kd_ ?_ _ | refine ke_ ?_ | refine ka_ ?_ _)); exact BK236.out) hb); have n3_ := Aside0.mk (below_step (by repeat (first | (with_reducible first | exact HB.out | apply ba_ | apply bd_ | apply be_ | refine below_set ?_ GE226.out | refine below_set ?_ GE230.out | refine below_set ?_ GE236.out) | exact HB.out)) hb); have n4_ := Aside0.mk (hbox); have n5_ := Aside0.mk ((by rw [hg]; exact (below_size (by repeat (first | (with_reducible first | exact HB.out | apply ba_ | apply bd_ | apply be_ | refine below_set ?_ GE226.out | refine below_set ?_ GE230.out | refine below_set ?_ GE236.out) | exact HB.out))) : w.heap.size ≤ gb242)); have n6_ := Aside0.mk ((by rw [hg]; exact (below_size (by repeat (first | (with_reducible first | exact HB.out | apply ba_ | apply bd_ | apply be_ | refine below_set ?_ GE226.out | refine below_set ?_ GE230.out | refine below_set ?_ GE236.out) | exact HB.out))) : w.heap.size ≤ gb242)); have n7_ := Aside0.mk ((by rw [hg]; exact Nat.ne_of_lt (blk_lt (g := gb226) (o := .cells #[.int .i64 a1_0, .int .i64 a1_1, .int .i64 a1_2, .string a1_3] 27 (0, 0)) (by (with_reducible repeat (first | refine kd_ ?_ _ | refine ke_ ?_ | refine ka_ ?_ _)); exact BK226.out)) : gb226 ≠ gb242)); have n8_ := Aside0.mk ((by rw [hg]; exact Nat.ne_of_gt (blk_lt (g := gb226) (o := .cells #[.int .i64 a1_0, .int .i64 a1_1, .int .i64 a1_2, .string a1_3] 27 (0, 0)) (by (with_reducible repeat (first | refine kd_ ?_ _ | refine ke_ ?_ | refine ka_ ?_ _)); exact BK226.out)) : gb242 ≠ gb226)); have n9_ := Aside0.mk ((by rw [hg]; exact Nat.ne_of_lt (blk_lt (g := gb230) (o := .cells #[.int .u32 ((rd_T33 l0 x31_2).f0.f0), .int .u32 ((rd_T33 l0 x31_2).f0.f1), .bool ((rd_T33 l0 x31_2).f0.f2), .int .i64 ((rd_T33 l0 x31_2).f1), .string ((rd_T33 l0 x31_2).f2), .string ((rd_T33 l0 x31_2).f3), .string ((rd_T33 l0 x31_2).f4)] 33 (0, 0)) (by (with_reducible repeat (first | refine kd_ ?_ _ | refine ke_ ?_ | refine ka_ ?_ _)); exact BK230.out)) : gb230 ≠ gb242)); have n10_ := Aside0.mk ((by rw [hg]; exact Nat.ne_of_gt (blk_lt (g := gb230) (o := .cells #[.int .u32 ((rd_T33 l0 x31_2).f0.f0), .int .u32 ((rd_T33 l0 x31_2).f0.f1), .bool ((rd_T33 l0 x31_2).f0.f2), .int .i64 ((rd_T33 l0 x31_2).f1), .string ((rd_T33 l0 x31_2).f2), .string ((rd_T33 l0 x31_2).f3), .string ((rd_T33 l0 x31_2).f4)] 33 (0, 0)) (by (with_reducible repeat (first | refine kd_ ?_ _ | refine ke_ ?_ | refine ka_ ?_ _)); exact BK230.out)) : gb242 ≠ gb230)); have n11_ := Aside0.mk ((by rw [hg]; exact Nat.ne_of_lt (blk_lt (g := gb236) (o := .cells #[.int .i64 t231, .int .i64 t232, .int .i64 t233, .string t234] 27 (0, 0)) (by (with_reducible repeat (first | refine kd_ ?_ _ | refine ke_ ?_ | refine ka_ ?_ _)); exact BK236.out)) : gb236 ≠ gb242)); have n12_ := Aside0.mk ((by rw [hg]; exact Nat.ne_of_gt (blk_lt (g := gb236) (o := .cells #[.int .i64 t231, .int .i64 t232, .int .i64 t233, .string t234] 27 (0, 0)) (by (with_reducible repeat (first | refine kd_ ?_ _ | refine ke_ ?_ | refine ka_ ?_ _)); exact BK236.out)) : gb242 ≠ gb236)); clear BK226; clear BK230; clear BK236; clear HB; have BK226 := n0_; have BK230 := n1_; have BK236 := n2_; have HB := n3_; have BK242 := n4_; have GW242 := n5_; have GE242 := n6_; have NB226_242 := n7_; have NB242_226 := n8_; have NB230_242 := n9_; have NB242_230 := n10_; have NB236_242 := n11_; have NB242_236 := n12_; clear n0_ n1_ n2_ n3_ n4_ n5_ n6_ n7_ n8_ n9_ n10_ n11_ n12_; clear hb hbox hg; have hnb35 := NB242_226.out; have hnc35 := NB226_242.out; have hnb36 := NB242_230.out; have hnc36 := NB230_242.out; have hnb37 := NB242_236.out; have hnc37 := NB236_242.out; have hcz38_0 : w34.cell? ⟨gb242, 0, none⟩ = some (.int .i64 0) := (blk_cell BK242.out 0).trans rfl; have hcz38_1 : w34.cell? ⟨gb242, 1, none⟩ = some (.int .i64 0) := (blk_cell BK242.out 1).trans rfl; have hcz38_2 : w34.cell? ⟨gb242, 2, none⟩ = some (.int .i64 0) := (blk_cell BK242.out 2).trans rfl; have hcz38_3 : w34.cell? ⟨gb242, 3, none⟩ = some (.string (⟨#[]⟩ : ByteArray)) := (blk_cell BK242.out 3).trans rfl; have hfz38_0 := blk_frozen BK242.out 0; have hfz38_1 := blk_frozen BK242.out 1; have hfz38_2 := blk_frozen BK242.out 2; have hfz38_3 := blk_frozen BK242.out 3; have hcz39_0 : w34.cell? ⟨gb236, 0, none⟩ = some (.int .i64 t231) := (blk_cell BK236.out 0).trans rfl; have hcz39_1 : w34.cell? ⟨gb236, 1, none⟩ = some (.int .i64 t232) := (blk_cell BK236.out 1).trans rfl; have hcz39_2 : w34.cell? ⟨gb236, 2, none⟩ = some (.int .i64 t233) := (blk_cell BK236.out 2).trans rfl; have hcz39_3 : w34.cell? ⟨gb236, 3, none⟩ = some (.string t234) := (blk_cell BK236.out 3).trans rfl; have hfz39_0 := blk_frozen BK236.out 0; have hfz39_1 := blk_frozen BK236.out 1; have hfz39_2 := blk_frozen BK236.out 2; have hfz39_3 := blk_frozen BK236.out 3))
                    go_ret
                    exact ⟨by first | rfl | (simp [errW_none, errW_some] <;> rfl) | (simp [*, errW_none, errW_some] <;> rfl), by repeat (first | (with_reducible first | exact HB.out | apply ba_ | apply bd_ | apply be_ | refine below_set ?_ GE226.out | refine below_set ?_ GE230.out | refine below_set ?_ GE236.out | refine below_set ?_ GE242.out) | exact HB.out)⟩
                  · rw [if_neg c21] at H
                    have c21b0 : (!(t231 == t237) || (!(t232 == t238) || (!(t233 == t239) || (!(t234.toList == t240.toList))))) = false := by simpa using c21
                    clear c21; (try simp only [Bool.true_beq, Bool.false_beq, beq_true, beq_false, Bool.not_not, Bool.not_true, Bool.not_false, Bool.true_and, Bool.false_and, Bool.and_true, Bool.and_false, Bool.true_or, Bool.false_or, Bool.or_true, Bool.or_false] at c21b0)
                    by_cases c40 : (t235 != t241) = true
                    · rw [if_pos c40] at H
                      have c40b0 : (t235 != t241) = true := c40
                      (try (have c40b1 : decide (t235 = t241) = false := by simpa using c40))
                      (try (have c40b2 : (t235 == t241) = false := by simpa using c40))
                      (try (have c40b3 : ¬ (t235 = t241) := by simpa using c40))
                      clear c40; obtain rfl := Option.some.inj H
                      have p229 : 0 ≤ (x31_2 : Int) := of_decide_eq_true (by first | (with_reducible assumption) | assumption)
                      have q229 : x31_2 < (l0.length : Int) := of_decide_eq_true (by first | (with_reducible assumption) | assumption)
                      obtain ⟨ad229, e229, hx229_0, hx229_1, hx229_2, hx229_3, hx229_4, hx229_5, hx229_6⟩ := at_T33 HR0.out x31_2 p229 q229
                      cases e229
                      replace hx229_0 := cu_ HB hx229_0
                      replace hx229_1 := cu_ HB hx229_1
                      replace hx229_2 := cu_ HB hx229_2
                      replace hx229_3 := cu_ HB hx229_3
                      replace hx229_4 := cu_ HB hx229_4
                      replace hx229_5 := cu_ HB hx229_5
                      replace hx229_6 := cu_ HB hx229_6
                      replace p229 := eq_true p229
                      replace q229 := eq_true q229
                      go_wp2_with (first | ((with_reducible refine gate_dst (N := 10) rfl ?_); (try (refine gate_guard (by rfl) ?_; dsimp only)); refine box_event ?hg (N := 10) ?hd (cs := #[.int .u32 0, .int .u32 0, .bool false, .int .i64 0, .string (⟨#[]⟩ : ByteArray), .string (⟨#[]⟩ : ByteArray), .string (⟨#[]⟩ : ByteArray)]) (t := 33) ?hr ?_; (case hd => rfl); (case hg => rfl); (case hr => first | (go_simp; done) | (go_simp; rfl)); intro gb230 hg w41 hbox hb; have n0_ := Aside0.mk (blk_below (g := gb226) (o := .cells #[.int .i64 a1_0, .int .i64 a1_1, .int .i64 a1_2, .string a1_3] 27 (0, 0)) (by (with_reducible repeat (first | refine kd_ ?_ _ | refine ke_ ?_ | refine ka_ ?_ _)); exact BK226.out) hb); have n1_ := Aside0.mk (below_step (by repeat (first | (with_reducible first | exact HB.out | apply ba_ | apply bd_ | apply be_ | refine below_set ?_ GE226.out) | exact HB.out)) hb); have n2_ := Aside0.mk (hbox); have n3_ := Aside0.mk ((by rw [hg]; exact (below_size (by repeat (first | (with_reducible first | exact HB.out | apply ba_ | apply bd_ | apply be_ | refine below_set ?_ GE226.out) | exact HB.out))) : w.heap.size ≤ gb230)); have n4_ := Aside0.mk ((by rw [hg]; exact (below_size (by repeat (first | (with_reducible first | exact HB.out | apply ba_ | apply bd_ | apply be_ | refine below_set ?_ GE226.out) | exact HB.out))) : w.heap.size ≤ gb230)); have n5_ := Aside0.mk ((by rw [hg]; exact Nat.ne_of_lt (blk_lt (g := gb226) (o := .cells #[.int .i64 a1_0, .int .i64 a1_1, .int .i64 a1_2, .string a1_3] 27 (0, 0)) (by (with_reducible repeat (first | refine kd_ ?_ _ | refine ke_ ?_ | refine ka_ ?_ _)); exact BK226.out)) : gb226 ≠ gb230)); have n6_ := Aside0.mk ((by rw [hg]; exact Nat.ne_of_gt (blk_lt (g := gb226) (o := .cells #[.int .i64 a1_0, .int .i64 a1_1, .int .i64 a1_2, .string a1_3] 27 (0, 0)) (by (with_reducible repeat (first | refine kd_ ?_ _ | refine ke_ ?_ | refine ka_ ?_ _)); exact BK226.out)) : gb230 ≠ gb226)); clear BK226; clear HB; have BK226 := n0_; have HB := n1_; have BK230 := n2_; have GW230 := n3_; have GE230 := n4_; have NB226_230 := n5_; have NB230_226 := n6_; clear n0_ n1_ n2_ n3_ n4_ n5_ n6_; clear hb hbox hg; have hnb42 := NB230_226.out; have hnc42 := NB226_230.out; have hcz43_0 : w41.cell? ⟨gb230, 0, none⟩ = some (.int .u32 0) := (blk_cell BK230.out 0).trans rfl; have hcz43_1 : w41.cell? ⟨gb230, 1, none⟩ = some (.int .u32 0) := (blk_cell BK230.out 1).trans rfl; have hcz43_2 : w41.cell? ⟨gb230, 2, none⟩ = some (.bool false) := (blk_cell BK230.out 2).trans rfl; have hcz43_3 : w41.cell? ⟨gb230, 3, none⟩ = some (.int .i64 0) := (blk_cell BK230.out 3).trans rfl; have hcz43_4 : w41.cell? ⟨gb230, 4, none⟩ = some (.string (⟨#[]⟩ : ByteArray)) := (blk_cell BK230.out 4).trans rfl; have hcz43_5 : w41.cell? ⟨gb230, 5, none⟩ = some (.string (⟨#[]⟩ : ByteArray)) := (blk_cell BK230.out 5).trans rfl; have hcz43_6 : w41.cell? ⟨gb230, 6, none⟩ = some (.string (⟨#[]⟩ : ByteArray)) := (blk_cell BK230.out 6).trans rfl; have hfz43_0 := blk_frozen BK230.out 0; have hfz43_1 := blk_frozen BK230.out 1; have hfz43_2 := blk_frozen BK230.out 2; have hfz43_3 := blk_frozen BK230.out 3; have hfz43_4 := blk_frozen BK230.out 4; have hfz43_5 := blk_frozen BK230.out 5; have hfz43_6 := blk_frozen BK230.out 6; have hcz44_0 : w41.cell? ⟨gb226, 0, none⟩ = some (.int .i64 a1_0) := (blk_cell BK226.out 0).trans rfl; have hcz44_1 : w41.cell? ⟨gb226, 1, none⟩ = some (.int .i64 a1_1) := (blk_cell BK226.out 1).trans rfl; have hcz44_2 : w41.cell? ⟨gb226, 2, none⟩ = some (.int .i64 a1_2) := (blk_cell BK226.out 2).trans rfl; have hcz44_3 : w41.cell? ⟨gb226, 3, none⟩ = some (.string a1_3) := (blk_cell BK226.out 3).trans rfl; have hfz44_0 := blk_frozen BK226.out 0; have hfz44_1 := blk_frozen BK226.out 1; have hfz44_2 := blk_frozen BK226.out 2; have hfz44_3 := blk_frozen BK226.out 3) | ((with_reducible refine gate_callee (f := 11) rfl ?_); refine goesL_ (some 38) rfl rfl Try.func11 (by kernel_rfl) rfl #[.agg #[.int .u32 ((rd_T33 l0 x31_2).f0.f0), .int .u32 ((rd_T33 l0 x31_2).f0.f1), .bool ((rd_T33 l0 x31_2).f0.f2), .int .i64 ((rd_T33 l0 x31_2).f1), .string ((rd_T33 l0 x31_2).f2), .string ((rd_T33 l0 x31_2).f3), .string ((rd_T33 l0 x31_2).f4)], .agg #[.int .i64 a1_0, .int .i64 a1_1, .int .i64 a1_2, .string a1_3]] rfl (by (try simp only [List.map_toArray, List.map_cons, List.map_nil]); first | done | rfl | (simp only [List.length_drop, List.length_take]; rfl)) ?_; (with_reducible refine (gate_Turn.calls k2 ((rd_T33 l0 x31_2).f0.f0) ((rd_T33 l0 x31_2).f0.f1) ((rd_T33 l0 x31_2).f0.f2) ((rd_T33 l0 x31_2).f1) ((rd_T33 l0 x31_2).f2) ((rd_T33 l0 x31_2).f3) ((rd_T33 l0 x31_2).f4) a1_0 a1_1 a1_2 a1_3 t231 t232 t233 t234 t235 _ A19.out).mono ?_); rintro e w45 ⟨rfl, hb⟩; refine ⟨_, rfl, ?_⟩; have n0_ := Aside0.mk (blk_below (g := gb226) (o := .cells #[.int .i64 a1_0, .int .i64 a1_1, .int .i64 a1_2, .string a1_3] 27 (0, 0)) (by (with_reducible repeat (first | refine kd_ ?_ _ | refine ke_ ?_ | refine ka_ ?_ _)); refine blk_far ?_ NB226_230.out _; (with_reducible repeat (first | refine kd_ ?_ _ | refine ke_ ?_ | refine ka_ ?_ _)); refine blk_far ?_ NB226_230.out _; (with_reducible repeat (first | refine kd_ ?_ _ | refine ke_ ?_ | refine ka_ ?_ _)); refine blk_far ?_ NB226_230.out _; (with_reducible repeat (first | refine kd_ ?_ _ | refine ke_ ?_ | refine ka_ ?_ _)); refine blk_far ?_ NB226_230.out _; (with_reducible repeat (first | refine kd_ ?_ _ | refine ke_ ?_ | refine ka_ ?_ _)); refine blk_far ?_ NB226_230.out _; (with_reducible repeat (first | refine kd_ ?_ _ | refine ke_ ?_ | refine ka_ ?_ _)); refine blk_far ?_ NB226_230.out _; (with_reducible repeat (first | refine kd_ ?_ _ | refine ke_ ?_ | refine ka_ ?_ _)); refine blk_far ?_ NB226_230.out _; (with_reducible repeat (first | refine kd_ ?_ _ | refine ke_ ?_ | refine ka_ ?_ _)); exact BK226.out) hb); have n1_ := Aside0.mk (blk_below (g := gb230) (o := .cells #[.int .u32 ((rd_T33 l0 x31_2).f0.f0), .int .u32 ((rd_T33 l0 x31_2).f0.f1), .bool ((rd_T33 l0 x31_2).f0.f2), .int .i64 ((rd_T33 l0 x31_2).f1), .string ((rd_T33 l0 x31_2).f2), .string ((rd_T33 l0 x31_2).f3), .string ((rd_T33 l0 x31_2).f4)] 33 (0, 0)) (by (with_reducible repeat (first | refine kd_ ?_ _ | refine ke_ ?_ | refine ka_ ?_ _)); refine blk_put (cs := #[.int .u32 ((rd_T33 l0 x31_2).f0.f0), .int .u32 ((rd_T33 l0 x31_2).f0.f1), .bool ((rd_T33 l0 x31_2).f0.f2), .int .i64 ((rd_T33 l0 x31_2).f1), .string ((rd_T33 l0 x31_2).f2), .string ((rd_T33 l0 x31_2).f3), .string (⟨#[]⟩ : ByteArray)]) ?_ 6 _ rfl; (with_reducible repeat (first | refine kd_ ?_ _ | refine ke_ ?_ | refine ka_ ?_ _)); refine blk_put (cs := #[.int .u32 ((rd_T33 l0 x31_2).f0.f0), .int .u32 ((rd_T33 l0 x31_2).f0.f1), .bool ((rd_T33 l0 x31_2).f0.f2), .int .i64 ((rd_T33 l0 x31_2).f1), .string ((rd_T33 l0 x31_2).f2), .string (⟨#[]⟩ : ByteArray), .string (⟨#[]⟩ : ByteArray)]) ?_ 5 _ rfl; (with_reducible repeat (first | refine kd_ ?_ _ | refine ke_ ?_ | refine ka_ ?_ _)); refine blk_put (cs := #[.int .u32 ((rd_T33 l0 x31_2).f0.f0), .int .u32 ((rd_T33 l0 x31_2).f0.f1), .bool ((rd_T33 l0 x31_2).f0.f2), .int .i64 ((rd_T33 l0 x31_2).f1), .string (⟨#[]⟩ : ByteArray), .string (⟨#[]⟩ : ByteArray), .string (⟨#[]⟩ : ByteArray)]) ?_ 4 _ rfl; (with_reducible repeat (first | refine kd_ ?_ _ | refine ke_ ?_ | refine ka_ ?_ _)); refine blk_put (cs := #[.int .u32 ((rd_T33 l0 x31_2).f0.f0), .int .u32 ((rd_T33 l0 x31_2).f0.f1), .bool ((rd_T33 l0 x31_2).f0.f2), .int .i64 0, .string (⟨#[]⟩ : ByteArray), .string (⟨#[]⟩ : ByteArray), .string (⟨#[]⟩ : ByteArray)]) ?_ 3 _ rfl; (with_reducible repeat (first | refine kd_ ?_ _ | refine ke_ ?_ | refine ka_ ?_ _)); refine blk_put (cs := #[.int .u32 ((rd_T33 l0 x31_2).f0.f0), .int .u32 ((rd_T33 l0 x31_2).f0.f1), .bool false, .int .i64 0, .string (⟨#[]⟩ : ByteArray), .string (⟨#[]⟩ : ByteArray), .string (⟨#[]⟩ : ByteArray)]) ?_ 2 _ rfl; (with_reducible repeat (first | refine kd_ ?_ _ | refine ke_ ?_ | refine ka_ ?_ _)); refine blk_put (cs := #[.int .u32 ((rd_T33 l0 x31_2).f0.f0), .int .u32 0, .bool false, .int .i64 0, .string (⟨#[]⟩ : ByteArray), .string (⟨#[]⟩ : ByteArray), .string (⟨#[]⟩ : ByteArray)]) ?_ 1 _ rfl; (with_reducible repeat (first | refine kd_ ?_ _ | refine ke_ ?_ | refine ka_ ?_ _)); refine blk_put (cs := #[.int .u32 0, .int .u32 0, .bool false, .int .i64 0, .string (⟨#[]⟩ : ByteArray), .string (⟨#[]⟩ : ByteArray), .string (⟨#[]⟩ : ByteArray)]) ?_ 0 _ rfl; (with_reducible repeat (first | refine kd_ ?_ _ | refine ke_ ?_ | refine ka_ ?_ _)); exact BK230.out) hb); have n2_ := Aside0.mk (below_step (by repeat (first | (with_reducible first | exact HB.out | apply ba_ | apply bd_ | apply be_ | refine below_set ?_ GE226.out | refine below_set ?_ GE230.out) | exact HB.out)) hb); clear BK226; clear BK230; clear HB; have BK226 := n0_; have BK230 := n1_; have HB := n2_; clear n0_ n1_ n2_; (try clear hb); (try clear hb2); (try clear hk); (try clear hi)) | ((with_reducible refine gate_dst (N := 11) rfl ?_); (try (refine gate_guard (by rfl) ?_; dsimp only)); refine box_event ?hg (N := 11) ?hd (cs := #[.int .i64 0, .int .i64 0, .int .i64 0, .string (⟨#[]⟩ : ByteArray)]) (t := 27) ?hr ?_; (case hd => rfl); (case hg => rfl); (case hr => first | (go_simp; done) | (go_simp; rfl)); intro gb236 hg w46 hbox hb; have n0_ := Aside0.mk (blk_below (g := gb226) (o := .cells #[.int .i64 a1_0, .int .i64 a1_1, .int .i64 a1_2, .string a1_3] 27 (0, 0)) (by (with_reducible repeat (first | refine kd_ ?_ _ | refine ke_ ?_ | refine ka_ ?_ _)); exact BK226.out) hb); have n1_ := Aside0.mk (blk_below (g := gb230) (o := .cells #[.int .u32 ((rd_T33 l0 x31_2).f0.f0), .int .u32 ((rd_T33 l0 x31_2).f0.f1), .bool ((rd_T33 l0 x31_2).f0.f2), .int .i64 ((rd_T33 l0 x31_2).f1), .string ((rd_T33 l0 x31_2).f2), .string ((rd_T33 l0 x31_2).f3), .string ((rd_T33 l0 x31_2).f4)] 33 (0, 0)) (by (with_reducible repeat (first | refine kd_ ?_ _ | refine ke_ ?_ | refine ka_ ?_ _)); exact BK230.out) hb); have n2_ := Aside0.mk (below_step (by repeat (first | (with_reducible first | exact HB.out | apply ba_ | apply bd_ | apply be_ | refine below_set ?_ GE226.out | refine below_set ?_ GE230.out) | exact HB.out)) hb); have n3_ := Aside0.mk (hbox); have n4_ := Aside0.mk ((by rw [hg]; exact (below_size (by repeat (first | (with_reducible first | exact HB.out | apply ba_ | apply bd_ | apply be_ | refine below_set ?_ GE226.out | refine below_set ?_ GE230.out) | exact HB.out))) : w.heap.size ≤ gb236)); have n5_ := Aside0.mk ((by rw [hg]; exact (below_size (by repeat (first | (with_reducible first | exact HB.out | apply ba_ | apply bd_ | apply be_ | refine below_set ?_ GE226.out | refine below_set ?_ GE230.out) | exact HB.out))) : w.heap.size ≤ gb236)); have n6_ := Aside0.mk ((by rw [hg]; exact Nat.ne_of_lt (blk_lt (g := gb226) (o := .cells #[.int .i64 a1_0, .int .i64 a1_1, .int .i64 a1_2, .string a1_3] 27 (0, 0)) (by (with_reducible repeat (first | refine kd_ ?_ _ | refine ke_ ?_ | refine ka_ ?_ _)); exact BK226.out)) : gb226 ≠ gb236)); have n7_ := Aside0.mk ((by rw [hg]; exact Nat.ne_of_gt (blk_lt (g := gb226) (o := .cells #[.int .i64 a1_0, .int .i64 a1_1, .int .i64 a1_2, .string a1_3] 27 (0, 0)) (by (with_reducible repeat (first | refine kd_ ?_ _ | refine ke_ ?_ | refine ka_ ?_ _)); exact BK226.out)) : gb236 ≠ gb226)); have n8_ := Aside0.mk ((by rw [hg]; exact Nat.ne_of_lt (blk_lt (g := gb230) (o := .cells #[.int .u32 ((rd_T33 l0 x31_2).f0.f0), .int .u32 ((rd_T33 l0 x31_2).f0.f1), .bool ((rd_T33 l0 x31_2).f0.f2), .int .i64 ((rd_T33 l0 x31_2).f1), .string ((rd_T33 l0 x31_2).f2), .string ((rd_T33 l0 x31_2).f3), .string ((rd_T33 l0 x31_2).f4)] 33 (0, 0)) (by (with_reducible repeat (first | refine kd_ ?_ _ | refine ke_ ?_ | refine ka_ ?_ _)); exact BK230.out)) : gb230 ≠ gb236)); have n9_ := Aside0.mk ((by rw [hg]; exact Nat.ne_of_gt (blk_lt (g := gb230) (o := .cells #[.int .u32 ((rd_T33 l0 x31_2).f0.f0), .int .u32 ((rd_T33 l0 x31_2).f0.f1), .bool ((rd_T33 l0 x31_2).f0.f2), .int .i64 ((rd_T33 l0 x31_2).f1), .string ((rd_T33 l0 x31_2).f2), .string ((rd_T33 l0 x31_2).f3), .string ((rd_T33 l0 x31_2).f4)] 33 (0, 0)) (by (with_reducible repeat (first | refine kd_ ?_ _ | refine ke_ ?_ | refine ka_ ?_ _)); exact BK230.out)) : gb236 ≠ gb230)); clear BK226; clear BK230; clear HB; have BK226 := n0_; have BK230 := n1_; have HB := n2_; have BK236 := n3_; have GW236 := n4_; have GE236 := n5_; have NB226_236 := n6_; have NB236_226 := n7_; have NB230_236 := n8_; have NB236_230 := n9_; clear n0_ n1_ n2_ n3_ n4_ n5_ n6_ n7_ n8_ n9_; clear hb hbox hg; have hnb47 := NB236_226.out; have hnc47 := NB226_236.out; have hnb48 := NB236_230.out; have hnc48 := NB230_236.out; have hcz49_0 : w46.cell? ⟨gb236, 0, none⟩ = some (.int .i64 0) := (blk_cell BK236.out 0).trans rfl; have hcz49_1 : w46.cell? ⟨gb236, 1, none⟩ = some (.int .i64 0) := (blk_cell BK236.out 1).trans rfl; have hcz49_2 : w46.cell? ⟨gb236, 2, none⟩ = some (.int .i64 0) := (blk_cell BK236.out 2).trans rfl; have hcz49_3 : w46.cell? ⟨gb236, 3, none⟩ = some (.string (⟨#[]⟩ : ByteArray)) := (blk_cell BK236.out 3).trans rfl; have hfz49_0 := blk_frozen BK236.out 0; have hfz49_1 := blk_frozen BK236.out 1; have hfz49_2 := blk_frozen BK236.out 2; have hfz49_3 := blk_frozen BK236.out 3; have hcz50_0 : w46.cell? ⟨gb230, 0, none⟩ = some (.int .u32 ((rd_T33 l0 x31_2).f0.f0)) := (blk_cell BK230.out 0).trans rfl; have hcz50_1 : w46.cell? ⟨gb230, 1, none⟩ = some (.int .u32 ((rd_T33 l0 x31_2).f0.f1)) := (blk_cell BK230.out 1).trans rfl; have hcz50_2 : w46.cell? ⟨gb230, 2, none⟩ = some (.bool ((rd_T33 l0 x31_2).f0.f2)) := (blk_cell BK230.out 2).trans rfl; have hcz50_3 : w46.cell? ⟨gb230, 3, none⟩ = some (.int .i64 ((rd_T33 l0 x31_2).f1)) := (blk_cell BK230.out 3).trans rfl; have hcz50_4 : w46.cell? ⟨gb230, 4, none⟩ = some (.string ((rd_T33 l0 x31_2).f2)) := (blk_cell BK230.out 4).trans rfl; have hcz50_5 : w46.cell? ⟨gb230, 5, none⟩ = some (.string ((rd_T33 l0 x31_2).f3)) := (blk_cell BK230.out 5).trans rfl; have hcz50_6 : w46.cell? ⟨gb230, 6, none⟩ = some (.string ((rd_T33 l0 x31_2).f4)) := (blk_cell BK230.out 6).trans rfl; have hfz50_0 := blk_frozen BK230.out 0; have hfz50_1 := blk_frozen BK230.out 1; have hfz50_2 := blk_frozen BK230.out 2; have hfz50_3 := blk_frozen BK230.out 3; have hfz50_4 := blk_frozen BK230.out 4; have hfz50_5 := blk_frozen BK230.out 5; have hfz50_6 := blk_frozen BK230.out 6; have hcz51_0 : w46.cell? ⟨gb226, 0, none⟩ = some (.int .i64 a1_0) := (blk_cell BK226.out 0).trans rfl; have hcz51_1 : w46.cell? ⟨gb226, 1, none⟩ = some (.int .i64 a1_1) := (blk_cell BK226.out 1).trans rfl; have hcz51_2 : w46.cell? ⟨gb226, 2, none⟩ = some (.int .i64 a1_2) := (blk_cell BK226.out 2).trans rfl; have hcz51_3 : w46.cell? ⟨gb226, 3, none⟩ = some (.string a1_3) := (blk_cell BK226.out 3).trans rfl; have hfz51_0 := blk_frozen BK226.out 0; have hfz51_1 := blk_frozen BK226.out 1; have hfz51_2 := blk_frozen BK226.out 2; have hfz51_3 := blk_frozen BK226.out 3) | ((with_reducible refine gate_callee (f := 12) rfl ?_); refine goesL_ (some 44) rfl rfl Try.func12 (by kernel_rfl) rfl #[.agg #[.int .u32 ((rd_T33 l0 x31_2).f0.f0), .int .u32 ((rd_T33 l0 x31_2).f0.f1), .bool ((rd_T33 l0 x31_2).f0.f2), .int .i64 ((rd_T33 l0 x31_2).f1), .string ((rd_T33 l0 x31_2).f2), .string ((rd_T33 l0 x31_2).f3), .string ((rd_T33 l0 x31_2).f4)], .agg #[.int .i64 a1_0, .int .i64 a1_1, .int .i64 a1_2, .string a1_3]] rfl (by (try simp only [List.map_toArray, List.map_cons, List.map_nil]); first | done | rfl | (simp only [List.length_drop, List.length_take]; rfl)) ?_; (with_reducible refine (signalboxref34_Turn.calls k2 ((rd_T33 l0 x31_2).f0.f0) ((rd_T33 l0 x31_2).f0.f1) ((rd_T33 l0 x31_2).f0.f2) ((rd_T33 l0 x31_2).f1) ((rd_T33 l0 x31_2).f2) ((rd_T33 l0 x31_2).f3) ((rd_T33 l0 x31_2).f4) a1_0 a1_1 a1_2 a1_3 t237 t238 t239 t240 t241 _ A20.out).mono ?_); rintro e w52 ⟨rfl, hb⟩; refine ⟨_, rfl, ?_⟩; have n0_ := Aside0.mk (blk_below (g := gb226) (o := .cells #[.int .i64 a1_0, .int .i64 a1_1, .int .i64 a1_2, .string a1_3] 27 (0, 0)) (by (with_reducible repeat (first | refine kd_ ?_ _ | refine ke_ ?_ | refine ka_ ?_ _)); refine blk_far ?_ NB226_236.out _; (with_reducible repeat (first | refine kd_ ?_ _ | refine ke_ ?_ | refine ka_ ?_ _)); refine blk_far ?_ NB226_236.out _; (with_reducible repeat (first | refine kd_ ?_ _ | refine ke_ ?_ | refine ka_ ?_ _)); refine blk_far ?_ NB226_236.out _; (with_reducible repeat (first | refine kd_ ?_ _ | refine ke_ ?_ | refine ka_ ?_ _)); refine blk_far ?_ NB226_236.out _; (with_reducible repeat (first | refine kd_ ?_ _ | refine ke_ ?_ | refine ka_ ?_ _)); exact BK226.out) hb); have n1_ := Aside0.mk (blk_below (g := gb230) (o := .cells #[.int .u32 ((rd_T33 l0 x31_2).f0.f0), .int .u32 ((rd_T33 l0 x31_2).f0.f1), .bool ((rd_T33 l0 x31_2).f0.f2), .int .i64 ((rd_T33 l0 x31_2).f1), .string ((rd_T33 l0 x31_2).f2), .string ((rd_T33 l0 x31_2).f3), .string ((rd_T33 l0 x31_2).f4)] 33 (0, 0)) (by (with_reducible repeat (first | refine kd_ ?_ _ | refine ke_ ?_ | refine ka_ ?_ _)); refine blk_far ?_ NB230_236.out _; (with_reducible repeat (first | refine kd_ ?_ _ | refine ke_ ?_ | refine ka_ ?_ _)); refine blk_far ?_ NB230_236.out _; (with_reducible repeat (first | refine kd_ ?_ _ | refine ke_ ?_ | refine ka_ ?_ _)); refine blk_far ?_ NB230_236.out _; (with_reducible repeat (first | refine kd_ ?_ _ | refine ke_ ?_ | refine ka_ ?_ _)); refine blk_far ?_ NB230_236.out _; (with_reducible repeat (first | refine kd_ ?_ _ | refine ke_ ?_ | refine ka_ ?_ _)); exact BK230.out) hb); have n2_ := Aside0.mk (blk_below (g := gb236) (o := .cells #[.int .i64 t231, .int .i64 t232, .int .i64 t233, .string t234] 27 (0, 0)) (by (with_reducible repeat (first | refine kd_ ?_ _ | refine ke_ ?_ | refine ka_ ?_ _)); refine blk_put (cs := #[.int .i64 t231, .int .i64 t232, .int .i64 t233, .string (⟨#[]⟩ : ByteArray)]) ?_ 3 _ rfl; (with_reducible repeat (first | refine kd_ ?_ _ | refine ke_ ?_ | refine ka_ ?_ _)); refine blk_put (cs := #[.int .i64 t231, .int .i64 t232, .int .i64 0, .string (⟨#[]⟩ : ByteArray)]) ?_ 2 _ rfl; (with_reducible repeat (first | refine kd_ ?_ _ | refine ke_ ?_ | refine ka_ ?_ _)); refine blk_put (cs := #[.int .i64 t231, .int .i64 0, .int .i64 0, .string (⟨#[]⟩ : ByteArray)]) ?_ 1 _ rfl; (with_reducible repeat (first | refine kd_ ?_ _ | refine ke_ ?_ | refine ka_ ?_ _)); refine blk_put (cs := #[.int .i64 0, .int .i64 0, .int .i64 0, .string (⟨#[]⟩ : ByteArray)]) ?_ 0 _ rfl; (with_reducible repeat (first | refine kd_ ?_ _ | refine ke_ ?_ | refine ka_ ?_ _)); exact BK236.out) hb); have n3_ := Aside0.mk (below_step (by repeat (first | (with_reducible first | exact HB.out | apply ba_ | apply bd_ | apply be_ | refine below_set ?_ GE226.out | refine below_set ?_ GE230.out | refine below_set ?_ GE236.out) | exact HB.out)) hb); clear BK226; clear BK230; clear BK236; clear HB; have BK226 := n0_; have BK230 := n1_; have BK236 := n2_; have HB := n3_; clear n0_ n1_ n2_ n3_; (try clear hb); (try clear hb2); (try clear hk); (try clear hi)) | ((with_reducible refine gate_dst (N := 13) rfl ?_); (try (refine gate_guard (by rfl) ?_; dsimp only)); refine box_event ?hg (N := 13) ?hd (cs := #[.int .i64 0, .int .i64 0, .int .i64 0, .string (⟨#[]⟩ : ByteArray)]) (t := 27) ?hr ?_; (case hd => rfl); (case hg => rfl); (case hr => first | (go_simp; done) | (go_simp; rfl)); intro gb242 hg w53 hbox hb; have n0_ := Aside0.mk (blk_below (g := gb226) (o := .cells #[.int .i64 a1_0, .int .i64 a1_1, .int .i64 a1_2, .string a1_3] 27 (0, 0)) (by (with_reducible repeat (first | refine kd_ ?_ _ | refine ke_ ?_ | refine ka_ ?_ _)); exact BK226.out) hb); have n1_ := Aside0.mk (blk_below (g := gb230) (o := .cells #[.int .u32 ((rd_T33 l0 x31_2).f0.f0), .int .u32 ((rd_T33 l0 x31_2).f0.f1), .bool ((rd_T33 l0 x31_2).f0.f2), .int .i64 ((rd_T33 l0 x31_2).f1), .string ((rd_T33 l0 x31_2).f2), .string ((rd_T33 l0 x31_2).f3), .string ((rd_T33 l0 x31_2).f4)] 33 (0, 0)) (by (with_reducible repeat (first | refine kd_ ?_ _ | refine ke_ ?_ | refine ka_ ?_ _)); exact BK230.out) hb); have n2_ := Aside0.mk (blk_below (g := gb236) (o := .cells #[.int .i64 t231, .int .i64 t232, .int .i64 t233, .string t234] 27 (0, 0)) (by (with_reducible repeat (first | refine kd_ ?_ _ | refine ke_ ?_ | refine ka_ ?_ _)); exact BK236.out) hb); have n3_ := Aside0.mk (below_step (by repeat (first | (with_reducible first | exact HB.out | apply ba_ | apply bd_ | apply be_ | refine below_set ?_ GE226.out | refine below_set ?_ GE230.out | refine below_set ?_ GE236.out) | exact HB.out)) hb); have n4_ := Aside0.mk (hbox); have n5_ := Aside0.mk ((by rw [hg]; exact (below_size (by repeat (first | (with_reducible first | exact HB.out | apply ba_ | apply bd_ | apply be_ | refine below_set ?_ GE226.out | refine below_set ?_ GE230.out | refine below_set ?_ GE236.out) | exact HB.out))) : w.heap.size ≤ gb242)); have n6_ := Aside0.mk ((by rw [hg]; exact (below_size (by repeat (first | (with_reducible first | exact HB.out | apply ba_ | apply bd_ | apply be_ | refine below_set ?_ GE226.out | refine below_set ?_ GE230.out | refine below_set ?_ GE236.out) | exact HB.out))) : w.heap.size ≤ gb242)); have n7_ := Aside0.mk ((by rw [hg]; exact Nat.ne_of_lt (blk_lt (g := gb226) (o := .cells #[.int .i64 a1_0, .int .i64 a1_1, .int .i64 a1_2, .string a1_3] 27 (0, 0)) (by (with_reducible repeat (first | refine kd_ ?_ _ | refine ke_ ?_ | refine ka_ ?_ _)); exact BK226.out)) : gb226 ≠ gb242)); have n8_ := Aside0.mk ((by rw [hg]; exact Nat.ne_of_gt (blk_lt (g := gb226) (o := .cells #[.int .i64 a1_0, .int .i64 a1_1, .int .i64 a1_2, .string a1_3] 27 (0, 0)) (by (with_reducible repeat (first | refine kd_ ?_ _ | refine ke_ ?_ | refine ka_ ?_ _)); exact BK226.out)) : gb242 ≠ gb226)); have n9_ := Aside0.mk ((by rw [hg]; exact Nat.ne_of_lt (blk_lt (g := gb230) (o := .cells #[.int .u32 ((rd_T33 l0 x31_2).f0.f0), .int .u32 ((rd_T33 l0 x31_2).f0.f1), .bool ((rd_T33 l0 x31_2).f0.f2), .int .i64 ((rd_T33 l0 x31_2).f1), .string ((rd_T33 l0 x31_2).f2), .string ((rd_T33 l0 x31_2).f3), .string ((rd_T33 l0 x31_2).f4)] 33 (0, 0)) (by (with_reducible repeat (first | refine kd_ ?_ _ | refine ke_ ?_ | refine ka_ ?_ _)); exact BK230.out)) : gb230 ≠ gb242)); have n10_ := Aside0.mk ((by rw [hg]; exact Nat.ne_of_gt (blk_lt (g := gb230) (o := .cells #[.int .u32 ((rd_T33 l0 x31_2).f0.f0), .int .u32 ((rd_T33 l0 x31_2).f0.f1), .bool ((rd_T33 l0 x31_2).f0.f2), .int .i64 ((rd_T33 l0 x31_2).f1), .string ((rd_T33 l0 x31_2).f2), .string ((rd_T33 l0 x31_2).f3), .string ((rd_T33 l0 x31_2).f4)] 33 (0, 0)) (by (with_reducible repeat (first | refine kd_ ?_ _ | refine ke_ ?_ | refine ka_ ?_ _)); exact BK230.out)) : gb242 ≠ gb230)); have n11_ := Aside0.mk ((by rw [hg]; exact Nat.ne_of_lt (blk_lt (g := gb236) (o := .cells #[.int .i64 t231, .int .i64 t232, .int .i64 t233, .string t234] 27 (0, 0)) (by (with_reducible repeat (first | refine kd_ ?_ _ | refine ke_ ?_ | refine ka_ ?_ _)); exact BK236.out)) : gb236 ≠ gb242)); have n12_ := Aside0.mk ((by rw [hg]; exact Nat.ne_of_gt (blk_lt (g := gb236) (o := .cells #[.int .i64 t231, .int .i64 t232, .int .i64 t233, .string t234] 27 (0, 0)) (by (with_reducible repeat (first | refine kd_ ?_ _ | refine ke_ ?_ | refine ka_ ?_ _)); exact BK236.out)) : gb242 ≠ gb236)); clear BK226; clear BK230; clear BK236; clear HB; have BK226 := n0_; have BK230 := n1_; have BK236 := n2_; have HB := n3_; have BK242 := n4_; have GW242 := n5_; have GE242 := n6_; have NB226_242 := n7_; have NB242_226 := n8_; have NB230_242 := n9_; have NB242_230 := n10_; have NB236_242 := n11_; have NB242_236 := n12_; clear n0_ n1_ n2_ n3_ n4_ n5_ n6_ n7_ n8_ n9_ n10_ n11_ n12_; clear hb hbox hg; have hnb54 := NB242_226.out; have hnc54 := NB226_242.out; have hnb55 := NB242_230.out; have hnc55 := NB230_242.out; have hnb56 := NB242_236.out; have hnc56 := NB236_242.out; have hcz57_0 : w53.cell? ⟨gb242, 0, none⟩ = some (.int .i64 0) := (blk_cell BK242.out 0).trans rfl; have hcz57_1 : w53.cell? ⟨gb242, 1, none⟩ = some (.int .i64 0) := (blk_cell BK242.out 1).trans rfl; have hcz57_2 : w53.cell? ⟨gb242, 2, none⟩ = some (.int .i64 0) := (blk_cell BK242.out 2).trans rfl; have hcz57_3 : w53.cell? ⟨gb242, 3, none⟩ = some (.string (⟨#[]⟩ : ByteArray)) := (blk_cell BK242.out 3).trans rfl; have hfz57_0 := blk_frozen BK242.out 0; have hfz57_1 := blk_frozen BK242.out 1; have hfz57_2 := blk_frozen BK242.out 2; have hfz57_3 := blk_frozen BK242.out 3; have hcz58_0 : w53.cell? ⟨gb236, 0, none⟩ = some (.int .i64 t231) := (blk_cell BK236.out 0).trans rfl; have hcz58_1 : w53.cell? ⟨gb236, 1, none⟩ = some (.int .i64 t232) := (blk_cell BK236.out 1).trans rfl; have hcz58_2 : w53.cell? ⟨gb236, 2, none⟩ = some (.int .i64 t233) := (blk_cell BK236.out 2).trans rfl; have hcz58_3 : w53.cell? ⟨gb236, 3, none⟩ = some (.string t234) := (blk_cell BK236.out 3).trans rfl; have hfz58_0 := blk_frozen BK236.out 0; have hfz58_1 := blk_frozen BK236.out 1; have hfz58_2 := blk_frozen BK236.out 2; have hfz58_3 := blk_frozen BK236.out 3))
                      go_ret
                      exact ⟨by first | rfl | (simp [errW_none, errW_some] <;> rfl) | (simp [*, errW_none, errW_some] <;> rfl), by repeat (first | (with_reducible first | exact HB.out | apply ba_ | apply bd_ | apply be_ | refine below_set ?_ GE226.out | refine below_set ?_ GE230.out | refine below_set ?_ GE236.out | refine below_set ?_ GE242.out) | exact HB.out)⟩
                    · rw [if_neg c40] at H
                      have c40b0 : (t235 != t241) = false := by simpa using c40
                      (try (have c40b1 : decide (t235 = t241) = true := by simpa using c40))
                      (try (have c40b2 : (t235 == t241) = true := by simpa using c40))
                      clear c40; have H' := Aside0.mk H; clear H; have p229 : 0 ≤ (x31_2 : Int) := of_decide_eq_true (by first | (with_reducible assumption) | assumption)
                      have q229 : x31_2 < (l0.length : Int) := of_decide_eq_true (by first | (with_reducible assumption) | assumption)
                      obtain ⟨ad229, e229, hx229_0, hx229_1, hx229_2, hx229_3, hx229_4, hx229_5, hx229_6⟩ := at_T33 HR0.out x31_2 p229 q229
                      cases e229
                      replace hx229_0 := cu_ HB hx229_0
                      replace hx229_1 := cu_ HB hx229_1
                      replace hx229_2 := cu_ HB hx229_2
                      replace hx229_3 := cu_ HB hx229_3
                      replace hx229_4 := cu_ HB hx229_4
                      replace hx229_5 := cu_ HB hx229_5
                      replace hx229_6 := cu_ HB hx229_6
                      replace p229 := eq_true p229
                      replace q229 := eq_true q229
                      go_wp2_with (first | ((with_reducible refine gate_dst (N := 10) rfl ?_); (try (refine gate_guard (by rfl) ?_; dsimp only)); refine box_event ?hg (N := 10) ?hd (cs := #[.int .u32 0, .int .u32 0, .bool false, .int .i64 0, .string (⟨#[]⟩ : ByteArray), .string (⟨#[]⟩ : ByteArray), .string (⟨#[]⟩ : ByteArray)]) (t := 33) ?hr ?_; (case hd => rfl); (case hg => rfl); (case hr => first | (go_simp; done) | (go_simp; rfl)); intro gb230 hg w59 hbox hb; have n0_ := Aside0.mk (blk_below (g := gb226) (o := .cells #[.int .i64 a1_0, .int .i64 a1_1, .int .i64 a1_2, .string a1_3] 27 (0, 0)) (by (with_reducible repeat (first | refine kd_ ?_ _ | refine ke_ ?_ | refine ka_ ?_ _)); exact BK226.out) hb); have n1_ := Aside0.mk (below_step (by repeat (first | (with_reducible first | exact HB.out | apply ba_ | apply bd_ | apply be_ | refine below_set ?_ GE226.out) | exact HB.out)) hb); have n2_ := Aside0.mk (hbox); have n3_ := Aside0.mk ((by rw [hg]; exact (below_size (by repeat (first | (with_reducible first | exact HB.out | apply ba_ | apply bd_ | apply be_ | refine below_set ?_ GE226.out) | exact HB.out))) : w.heap.size ≤ gb230)); have n4_ := Aside0.mk ((by rw [hg]; exact (below_size (by repeat (first | (with_reducible first | exact HB.out | apply ba_ | apply bd_ | apply be_ | refine below_set ?_ GE226.out) | exact HB.out))) : w.heap.size ≤ gb230)); have n5_ := Aside0.mk ((by rw [hg]; exact Nat.ne_of_lt (blk_lt (g := gb226) (o := .cells #[.int .i64 a1_0, .int .i64 a1_1, .int .i64 a1_2, .string a1_3] 27 (0, 0)) (by (with_reducible repeat (first | refine kd_ ?_ _ | refine ke_ ?_ | refine ka_ ?_ _)); exact BK226.out)) : gb226 ≠ gb230)); have n6_ := Aside0.mk ((by rw [hg]; exact Nat.ne_of_gt (blk_lt (g := gb226) (o := .cells #[.int .i64 a1_0, .int .i64 a1_1, .int .i64 a1_2, .string a1_3] 27 (0, 0)) (by (with_reducible repeat (first | refine kd_ ?_ _ | refine ke_ ?_ | refine ka_ ?_ _)); exact BK226.out)) : gb230 ≠ gb226)); clear BK226; clear HB; have BK226 := n0_; have HB := n1_; have BK230 := n2_; have GW230 := n3_; have GE230 := n4_; have NB226_230 := n5_; have NB230_226 := n6_; clear n0_ n1_ n2_ n3_ n4_ n5_ n6_; clear hb hbox hg; have hnb60 := NB230_226.out; have hnc60 := NB226_230.out; have hcz61_0 : w59.cell? ⟨gb230, 0, none⟩ = some (.int .u32 0) := (blk_cell BK230.out 0).trans rfl; have hcz61_1 : w59.cell? ⟨gb230, 1, none⟩ = some (.int .u32 0) := (blk_cell BK230.out 1).trans rfl; have hcz61_2 : w59.cell? ⟨gb230, 2, none⟩ = some (.bool false) := (blk_cell BK230.out 2).trans rfl; have hcz61_3 : w59.cell? ⟨gb230, 3, none⟩ = some (.int .i64 0) := (blk_cell BK230.out 3).trans rfl; have hcz61_4 : w59.cell? ⟨gb230, 4, none⟩ = some (.string (⟨#[]⟩ : ByteArray)) := (blk_cell BK230.out 4).trans rfl; have hcz61_5 : w59.cell? ⟨gb230, 5, none⟩ = some (.string (⟨#[]⟩ : ByteArray)) := (blk_cell BK230.out 5).trans rfl; have hcz61_6 : w59.cell? ⟨gb230, 6, none⟩ = some (.string (⟨#[]⟩ : ByteArray)) := (blk_cell BK230.out 6).trans rfl; have hfz61_0 := blk_frozen BK230.out 0; have hfz61_1 := blk_frozen BK230.out 1; have hfz61_2 := blk_frozen BK230.out 2; have hfz61_3 := blk_frozen BK230.out 3; have hfz61_4 := blk_frozen BK230.out 4; have hfz61_5 := blk_frozen BK230.out 5; have hfz61_6 := blk_frozen BK230.out 6; have hcz62_0 : w59.cell? ⟨gb226, 0, none⟩ = some (.int .i64 a1_0) := (blk_cell BK226.out 0).trans rfl; have hcz62_1 : w59.cell? ⟨gb226, 1, none⟩ = some (.int .i64 a1_1) := (blk_cell BK226.out 1).trans rfl; have hcz62_2 : w59.cell? ⟨gb226, 2, none⟩ = some (.int .i64 a1_2) := (blk_cell BK226.out 2).trans rfl; have hcz62_3 : w59.cell? ⟨gb226, 3, none⟩ = some (.string a1_3) := (blk_cell BK226.out 3).trans rfl; have hfz62_0 := blk_frozen BK226.out 0; have hfz62_1 := blk_frozen BK226.out 1; have hfz62_2 := blk_frozen BK226.out 2; have hfz62_3 := blk_frozen BK226.out 3) | ((with_reducible refine gate_callee (f := 11) rfl ?_); refine goesL_ (some 38) rfl rfl Try.func11 (by kernel_rfl) rfl #[.agg #[.int .u32 ((rd_T33 l0 x31_2).f0.f0), .int .u32 ((rd_T33 l0 x31_2).f0.f1), .bool ((rd_T33 l0 x31_2).f0.f2), .int .i64 ((rd_T33 l0 x31_2).f1), .string ((rd_T33 l0 x31_2).f2), .string ((rd_T33 l0 x31_2).f3), .string ((rd_T33 l0 x31_2).f4)], .agg #[.int .i64 a1_0, .int .i64 a1_1, .int .i64 a1_2, .string a1_3]] rfl (by (try simp only [List.map_toArray, List.map_cons, List.map_nil]); first | done | rfl | (simp only [List.length_drop, List.length_take]; rfl)) ?_; (with_reducible refine (gate_Turn.calls k2 ((rd_T33 l0 x31_2).f0.f0) ((rd_T33 l0 x31_2).f0.f1) ((rd_T33 l0 x31_2).f0.f2) ((rd_T33 l0 x31_2).f1) ((rd_T33 l0 x31_2).f2) ((rd_T33 l0 x31_2).f3) ((rd_T33 l0 x31_2).f4) a1_0 a1_1 a1_2 a1_3 t231 t232 t233 t234 t235 _ A19.out).mono ?_); rintro e w63 ⟨rfl, hb⟩; refine ⟨_, rfl, ?_⟩; have n0_ := Aside0.mk (blk_below (g := gb226) (o := .cells #[.int .i64 a1_0, .int .i64 a1_1, .int .i64 a1_2, .string a1_3] 27 (0, 0)) (by (with_reducible repeat (first | refine kd_ ?_ _ | refine ke_ ?_ | refine ka_ ?_ _)); refine blk_far ?_ NB226_230.out _; (with_reducible repeat (first | refine kd_ ?_ _ | refine ke_ ?_ | refine ka_ ?_ _)); refine blk_far ?_ NB226_230.out _; (with_reducible repeat (first | refine kd_ ?_ _ | refine ke_ ?_ | refine ka_ ?_ _)); refine blk_far ?_ NB226_230.out _; (with_reducible repeat (first | refine kd_ ?_ _ | refine ke_ ?_ | refine ka_ ?_ _)); refine blk_far ?_ NB226_230.out _; (with_reducible repeat (first | refine kd_ ?_ _ | refine ke_ ?_ | refine ka_ ?_ _)); refine blk_far ?_ NB226_230.out _; (with_reducible repeat (first | refine kd_ ?_ _ | refine ke_ ?_ | refine ka_ ?_ _)); refine blk_far ?_ NB226_230.out _; (with_reducible repeat (first | refine kd_ ?_ _ | refine ke_ ?_ | refine ka_ ?_ _)); refine blk_far ?_ NB226_230.out _; (with_reducible repeat (first | refine kd_ ?_ _ | refine ke_ ?_ | refine ka_ ?_ _)); exact BK226.out) hb); have n1_ := Aside0.mk (blk_below (g := gb230) (o := .cells #[.int .u32 ((rd_T33 l0 x31_2).f0.f0), .int .u32 ((rd_T33 l0 x31_2).f0.f1), .bool ((rd_T33 l0 x31_2).f0.f2), .int .i64 ((rd_T33 l0 x31_2).f1), .string ((rd_T33 l0 x31_2).f2), .string ((rd_T33 l0 x31_2).f3), .string ((rd_T33 l0 x31_2).f4)] 33 (0, 0)) (by (with_reducible repeat (first | refine kd_ ?_ _ | refine ke_ ?_ | refine ka_ ?_ _)); refine blk_put (cs := #[.int .u32 ((rd_T33 l0 x31_2).f0.f0), .int .u32 ((rd_T33 l0 x31_2).f0.f1), .bool ((rd_T33 l0 x31_2).f0.f2), .int .i64 ((rd_T33 l0 x31_2).f1), .string ((rd_T33 l0 x31_2).f2), .string ((rd_T33 l0 x31_2).f3), .string (⟨#[]⟩ : ByteArray)]) ?_ 6 _ rfl; (with_reducible repeat (first | refine kd_ ?_ _ | refine ke_ ?_ | refine ka_ ?_ _)); refine blk_put (cs := #[.int .u32 ((rd_T33 l0 x31_2).f0.f0), .int .u32 ((rd_T33 l0 x31_2).f0.f1), .bool ((rd_T33 l0 x31_2).f0.f2), .int .i64 ((rd_T33 l0 x31_2).f1), .string ((rd_T33 l0 x31_2).f2), .string (⟨#[]⟩ : ByteArray), .string (⟨#[]⟩ : ByteArray)]) ?_ 5 _ rfl; (with_reducible repeat (first | refine kd_ ?_ _ | refine ke_ ?_ | refine ka_ ?_ _)); refine blk_put (cs := #[.int .u32 ((rd_T33 l0 x31_2).f0.f0), .int .u32 ((rd_T33 l0 x31_2).f0.f1), .bool ((rd_T33 l0 x31_2).f0.f2), .int .i64 ((rd_T33 l0 x31_2).f1), .string (⟨#[]⟩ : ByteArray), .string (⟨#[]⟩ : ByteArray), .string (⟨#[]⟩ : ByteArray)]) ?_ 4 _ rfl; (with_reducible repeat (first | refine kd_ ?_ _ | refine ke_ ?_ | refine ka_ ?_ _)); refine blk_put (cs := #[.int .u32 ((rd_T33 l0 x31_2).f0.f0), .int .u32 ((rd_T33 l0 x31_2).f0.f1), .bool ((rd_T33 l0 x31_2).f0.f2), .int .i64 0, .string (⟨#[]⟩ : ByteArray), .string (⟨#[]⟩ : ByteArray), .string (⟨#[]⟩ : ByteArray)]) ?_ 3 _ rfl; (with_reducible repeat (first | refine kd_ ?_ _ | refine ke_ ?_ | refine ka_ ?_ _)); refine blk_put (cs := #[.int .u32 ((rd_T33 l0 x31_2).f0.f0), .int .u32 ((rd_T33 l0 x31_2).f0.f1), .bool false, .int .i64 0, .string (⟨#[]⟩ : ByteArray), .string (⟨#[]⟩ : ByteArray), .string (⟨#[]⟩ : ByteArray)]) ?_ 2 _ rfl; (with_reducible repeat (first | refine kd_ ?_ _ | refine ke_ ?_ | refine ka_ ?_ _)); refine blk_put (cs := #[.int .u32 ((rd_T33 l0 x31_2).f0.f0), .int .u32 0, .bool false, .int .i64 0, .string (⟨#[]⟩ : ByteArray), .string (⟨#[]⟩ : ByteArray), .string (⟨#[]⟩ : ByteArray)]) ?_ 1 _ rfl; (with_reducible repeat (first | refine kd_ ?_ _ | refine ke_ ?_ | refine ka_ ?_ _)); refine blk_put (cs := #[.int .u32 0, .int .u32 0, .bool false, .int .i64 0, .string (⟨#[]⟩ : ByteArray), .string (⟨#[]⟩ : ByteArray), .string (⟨#[]⟩ : ByteArray)]) ?_ 0 _ rfl; (with_reducible repeat (first | refine kd_ ?_ _ | refine ke_ ?_ | refine ka_ ?_ _)); exact BK230.out) hb); have n2_ := Aside0.mk (below_step (by repeat (first | (with_reducible first | exact HB.out | apply ba_ | apply bd_ | apply be_ | refine below_set ?_ GE226.out | refine below_set ?_ GE230.out) | exact HB.out)) hb); clear BK226; clear BK230; clear HB; have BK226 := n0_; have BK230 := n1_; have HB := n2_; clear n0_ n1_ n2_; (try clear hb); (try clear hb2); (try clear hk); (try clear hi)) | ((with_reducible refine gate_dst (N := 11) rfl ?_); (try (refine gate_guard (by rfl) ?_; dsimp only)); refine box_event ?hg (N := 11) ?hd (cs := #[.int .i64 0, .int .i64 0, .int .i64 0, .string (⟨#[]⟩ : ByteArray)]) (t := 27) ?hr ?_; (case hd => rfl); (case hg => rfl); (case hr => first | (go_simp; done) | (go_simp; rfl)); intro gb236 hg w64 hbox hb; have n0_ := Aside0.mk (blk_below (g := gb226) (o := .cells #[.int .i64 a1_0, .int .i64 a1_1, .int .i64 a1_2, .string a1_3] 27 (0, 0)) (by (with_reducible repeat (first | refine kd_ ?_ _ | refine ke_ ?_ | refine ka_ ?_ _)); exact BK226.out) hb); have n1_ := Aside0.mk (blk_below (g := gb230) (o := .cells #[.int .u32 ((rd_T33 l0 x31_2).f0.f0), .int .u32 ((rd_T33 l0 x31_2).f0.f1), .bool ((rd_T33 l0 x31_2).f0.f2), .int .i64 ((rd_T33 l0 x31_2).f1), .string ((rd_T33 l0 x31_2).f2), .string ((rd_T33 l0 x31_2).f3), .string ((rd_T33 l0 x31_2).f4)] 33 (0, 0)) (by (with_reducible repeat (first | refine kd_ ?_ _ | refine ke_ ?_ | refine ka_ ?_ _)); exact BK230.out) hb); have n2_ := Aside0.mk (below_step (by repeat (first | (with_reducible first | exact HB.out | apply ba_ | apply bd_ | apply be_ | refine below_set ?_ GE226.out | refine below_set ?_ GE230.out) | exact HB.out)) hb); have n3_ := Aside0.mk (hbox); have n4_ := Aside0.mk ((by rw [hg]; exact (below_size (by repeat (first | (with_reducible first | exact HB.out | apply ba_ | apply bd_ | apply be_ | refine below_set ?_ GE226.out | refine below_set ?_ GE230.out) | exact HB.out))) : w.heap.size ≤ gb236)); have n5_ := Aside0.mk ((by rw [hg]; exact (below_size (by repeat (first | (with_reducible first | exact HB.out | apply ba_ | apply bd_ | apply be_ | refine below_set ?_ GE226.out | refine below_set ?_ GE230.out) | exact HB.out))) : w.heap.size ≤ gb236)); have n6_ := Aside0.mk ((by rw [hg]; exact Nat.ne_of_lt (blk_lt (g := gb226) (o := .cells #[.int .i64 a1_0, .int .i64 a1_1, .int .i64 a1_2, .string a1_3] 27 (0, 0)) (by (with_reducible repeat (first | refine kd_ ?_ _ | refine ke_ ?_ | refine ka_ ?_ _)); exact BK226.out)) : gb226 ≠ gb236)); have n7_ := Aside0.mk ((by rw [hg]; exact Nat.ne_of_gt (blk_lt (g := gb226) (o := .cells #[.int .i64 a1_0, .int .i64 a1_1, .int .i64 a1_2, .string a1_3] 27 (0, 0)) (by (with_reducible repeat (first | refine kd_ ?_ _ | refine ke_ ?_ | refine ka_ ?_ _)); exact BK226.out)) : gb236 ≠ gb226)); have n8_ := Aside0.mk ((by rw [hg]; exact Nat.ne_of_lt (blk_lt (g := gb230) (o := .cells #[.int .u32 ((rd_T33 l0 x31_2).f0.f0), .int .u32 ((rd_T33 l0 x31_2).f0.f1), .bool ((rd_T33 l0 x31_2).f0.f2), .int .i64 ((rd_T33 l0 x31_2).f1), .string ((rd_T33 l0 x31_2).f2), .string ((rd_T33 l0 x31_2).f3), .string ((rd_T33 l0 x31_2).f4)] 33 (0, 0)) (by (with_reducible repeat (first | refine kd_ ?_ _ | refine ke_ ?_ | refine ka_ ?_ _)); exact BK230.out)) : gb230 ≠ gb236)); have n9_ := Aside0.mk ((by rw [hg]; exact Nat.ne_of_gt (blk_lt (g := gb230) (o := .cells #[.int .u32 ((rd_T33 l0 x31_2).f0.f0), .int .u32 ((rd_T33 l0 x31_2).f0.f1), .bool ((rd_T33 l0 x31_2).f0.f2), .int .i64 ((rd_T33 l0 x31_2).f1), .string ((rd_T33 l0 x31_2).f2), .string ((rd_T33 l0 x31_2).f3), .string ((rd_T33 l0 x31_2).f4)] 33 (0, 0)) (by (with_reducible repeat (first | refine kd_ ?_ _ | refine ke_ ?_ | refine ka_ ?_ _)); exact BK230.out)) : gb236 ≠ gb230)); clear BK226; clear BK230; clear HB; have BK226 := n0_; have BK230 := n1_; have HB := n2_; have BK236 := n3_; have GW236 := n4_; have GE236 := n5_; have NB226_236 := n6_; have NB236_226 := n7_; have NB230_236 := n8_; have NB236_230 := n9_; clear n0_ n1_ n2_ n3_ n4_ n5_ n6_ n7_ n8_ n9_; clear hb hbox hg; have hnb65 := NB236_226.out; have hnc65 := NB226_236.out; have hnb66 := NB236_230.out; have hnc66 := NB230_236.out; have hcz67_0 : w64.cell? ⟨gb236, 0, none⟩ = some (.int .i64 0) := (blk_cell BK236.out 0).trans rfl; have hcz67_1 : w64.cell? ⟨gb236, 1, none⟩ = some (.int .i64 0) := (blk_cell BK236.out 1).trans rfl; have hcz67_2 : w64.cell? ⟨gb236, 2, none⟩ = some (.int .i64 0) := (blk_cell BK236.out 2).trans rfl; have hcz67_3 : w64.cell? ⟨gb236, 3, none⟩ = some (.string (⟨#[]⟩ : ByteArray)) := (blk_cell BK236.out 3).trans rfl; have hfz67_0 := blk_frozen BK236.out 0; have hfz67_1 := blk_frozen BK236.out 1; have hfz67_2 := blk_frozen BK236.out 2; have hfz67_3 := blk_frozen BK236.out 3; have hcz68_0 : w64.cell? ⟨gb230, 0, none⟩ = some (.int .u32 ((rd_T33 l0 x31_2).f0.f0)) := (blk_cell BK230.out 0).trans rfl; have hcz68_1 : w64.cell? ⟨gb230, 1, none⟩ = some (.int .u32 ((rd_T33 l0 x31_2).f0.f1)) := (blk_cell BK230.out 1).trans rfl; have hcz68_2 : w64.cell? ⟨gb230, 2, none⟩ = some (.bool ((rd_T33 l0 x31_2).f0.f2)) := (blk_cell BK230.out 2).trans rfl; have hcz68_3 : w64.cell? ⟨gb230, 3, none⟩ = some (.int .i64 ((rd_T33 l0 x31_2).f1)) := (blk_cell BK230.out 3).trans rfl; have hcz68_4 : w64.cell? ⟨gb230, 4, none⟩ = some (.string ((rd_T33 l0 x31_2).f2)) := (blk_cell BK230.out 4).trans rfl; have hcz68_5 : w64.cell? ⟨gb230, 5, none⟩ = some (.string ((rd_T33 l0 x31_2).f3)) := (blk_cell BK230.out 5).trans rfl; have hcz68_6 : w64.cell? ⟨gb230, 6, none⟩ = some (.string ((rd_T33 l0 x31_2).f4)) := (blk_cell BK230.out 6).trans rfl; have hfz68_0 := blk_frozen BK230.out 0; have hfz68_1 := blk_frozen BK230.out 1; have hfz68_2 := blk_frozen BK230.out 2; have hfz68_3 := blk_frozen BK230.out 3; have hfz68_4 := blk_frozen BK230.out 4; have hfz68_5 := blk_frozen BK230.out 5; have hfz68_6 := blk_frozen BK230.out 6; have hcz69_0 : w64.cell? ⟨gb226, 0, none⟩ = some (.int .i64 a1_0) := (blk_cell BK226.out 0).trans rfl; have hcz69_1 : w64.cell? ⟨gb226, 1, none⟩ = some (.int .i64 a1_1) := (blk_cell BK226.out 1).trans rfl; have hcz69_2 : w64.cell? ⟨gb226, 2, none⟩ = some (.int .i64 a1_2) := (blk_cell BK226.out 2).trans rfl; have hcz69_3 : w64.cell? ⟨gb226, 3, none⟩ = some (.string a1_3) := (blk_cell BK226.out 3).trans rfl; have hfz69_0 := blk_frozen BK226.out 0; have hfz69_1 := blk_frozen BK226.out 1; have hfz69_2 := blk_frozen BK226.out 2; have hfz69_3 := blk_frozen BK226.out 3) | ((with_reducible refine gate_callee (f := 12) rfl ?_); refine goesL_ (some 44) rfl rfl Try.func12 (by kernel_rfl) rfl #[.agg #[.int .u32 ((rd_T33 l0 x31_2).f0.f0), .int .u32 ((rd_T33 l0 x31_2).f0.f1), .bool ((rd_T33 l0 x31_2).f0.f2), .int .i64 ((rd_T33 l0 x31_2).f1), .string ((rd_T33 l0 x31_2).f2), .string ((rd_T33 l0 x31_2).f3), .string ((rd_T33 l0 x31_2).f4)], .agg #[.int .i64 a1_0, .int .i64 a1_1, .int .i64 a1_2, .string a1_3]] rfl (by (try simp only [List.map_toArray, List.map_cons, List.map_nil]); first | done | rfl | (simp only [List.length_drop, List.length_take]; rfl)) ?_; (with_reducible refine (signalboxref34_Turn.calls k2 ((rd_T33 l0 x31_2).f0.f0) ((rd_T33 l0 x31_2).f0.f1) ((rd_T33 l0 x31_2).f0.f2) ((rd_T33 l0 x31_2).f1) ((rd_T33 l0 x31_2).f2) ((rd_T33 l0 x31_2).f3) ((rd_T33 l0 x31_2).f4) a1_0 a1_1 a1_2 a1_3 t237 t238 t239 t240 t241 _ A20.out).mono ?_); rintro e w70 ⟨rfl, hb⟩; refine ⟨_, rfl, ?_⟩; have n0_ := Aside0.mk (blk_below (g := gb226) (o := .cells #[.int .i64 a1_0, .int .i64 a1_1, .int .i64 a1_2, .string a1_3] 27 (0, 0)) (by (with_reducible repeat (first | refine kd_ ?_ _ | refine ke_ ?_ | refine ka_ ?_ _)); refine blk_far ?_ NB226_236.out _; (with_reducible repeat (first | refine kd_ ?_ _ | refine ke_ ?_ | refine ka_ ?_ _)); refine blk_far ?_ NB226_236.out _; (with_reducible repeat (first | refine kd_ ?_ _ | refine ke_ ?_ | refine ka_ ?_ _)); refine blk_far ?_ NB226_236.out _; (with_reducible repeat (first | refine kd_ ?_ _ | refine ke_ ?_ | refine ka_ ?_ _)); refine blk_far ?_ NB226_236.out _; (with_reducible repeat (first | refine kd_ ?_ _ | refine ke_ ?_ | refine ka_ ?_ _)); exact BK226.out) hb); have n1_ := Aside0.mk (blk_below (g := gb230) (o := .cells #[.int .u32 ((rd_T33 l0 x31_2).f0.f0), .int .u32 ((rd_T33 l0 x31_2).f0.f1), .bool ((rd_T33 l0 x31_2).f0.f2), .int .i64 ((rd_T33 l0 x31_2).f1), .string ((rd_T33 l0 x31_2).f2), .string ((rd_T33 l0 x31_2).f3), .string ((rd_T33 l0 x31_2).f4)] 33 (0, 0)) (by (with_reducible repeat (first | refine kd_ ?_ _ | refine ke_ ?_ | refine ka_ ?_ _)); refine blk_far ?_ NB230_236.out _; (with_reducible repeat (first | refine kd_ ?_ _ | refine ke_ ?_ | refine ka_ ?_ _)); refine blk_far ?_ NB230_236.out _; (with_reducible repeat (first | refine kd_ ?_ _ | refine ke_ ?_ | refine ka_ ?_ _)); refine blk_far ?_ NB230_236.out _; (with_reducible repeat (first | refine kd_ ?_ _ | refine ke_ ?_ | refine ka_ ?_ _)); refine blk_far ?_ NB230_236.out _; (with_reducible repeat (first | refine kd_ ?_ _ | refine ke_ ?_ | refine ka_ ?_ _)); exact BK230.out) hb); have n2_ := Aside0.mk (blk_below (g := gb236) (o := .cells #[.int .i64 t231, .int .i64 t232, .int .i64 t233, .string t234] 27 (0, 0)) (by (with_reducible repeat (first | refine kd_ ?_ _ | refine ke_ ?_ | refine ka_ ?_ _)); refine blk_put (cs := #[.int .i64 t231, .int .i64 t232, .int .i64 t233, .string (⟨#[]⟩ : ByteArray)]) ?_ 3 _ rfl; (with_reducible repeat (first | refine kd_ ?_ _ | refine ke_ ?_ | refine ka_ ?_ _)); refine blk_put (cs := #[.int .i64 t231, .int .i64 t232, .int .i64 0, .string (⟨#[]⟩ : ByteArray)]) ?_ 2 _ rfl; (with_reducible repeat (first | refine kd_ ?_ _ | refine ke_ ?_ | refine ka_ ?_ _)); refine blk_put (cs := #[.int .i64 t231, .int .i64 0, .int .i64 0, .string (⟨#[]⟩ : ByteArray)]) ?_ 1 _ rfl; (with_reducible repeat (first | refine kd_ ?_ _ | refine ke_ ?_ | refine ka_ ?_ _)); refine blk_put (cs := #[.int .i64 0, .int .i64 0, .int .i64 0, .string (⟨#[]⟩ : ByteArray)]) ?_ 0 _ rfl; (with_reducible repeat (first | refine kd_ ?_ _ | refine ke_ ?_ | refine ka_ ?_ _)); exact BK236.out) hb); have n3_ := Aside0.mk (below_step (by repeat (first | (with_reducible first | exact HB.out | apply ba_ | apply bd_ | apply be_ | refine below_set ?_ GE226.out | refine below_set ?_ GE230.out | refine below_set ?_ GE236.out) | exact HB.out)) hb); clear BK226; clear BK230; clear BK236; clear HB; have BK226 := n0_; have BK230 := n1_; have BK236 := n2_; have HB := n3_; clear n0_ n1_ n2_ n3_; (try clear hb); (try clear hb2); (try clear hk); (try clear hi)) | ((with_reducible refine gate_dst (N := 13) rfl ?_); (try (refine gate_guard (by rfl) ?_; dsimp only)); refine box_event ?hg (N := 13) ?hd (cs := #[.int .i64 0, .int .i64 0, .int .i64 0, .string (⟨#[]⟩ : ByteArray)]) (t := 27) ?hr ?_; (case hd => rfl); (case hg => rfl); (case hr => first | (go_simp; done) | (go_simp; rfl)); intro gb242 hg w71 hbox hb; have n0_ := Aside0.mk (blk_below (g := gb226) (o := .cells #[.int .i64 a1_0, .int .i64 a1_1, .int .i64 a1_2, .string a1_3] 27 (0, 0)) (by (with_reducible repeat (first | refine kd_ ?_ _ | refine ke_ ?_ | refine ka_ ?_ _)); exact BK226.out) hb); have n1_ := Aside0.mk (blk_below (g := gb230) (o := .cells #[.int .u32 ((rd_T33 l0 x31_2).f0.f0), .int .u32 ((rd_T33 l0 x31_2).f0.f1), .bool ((rd_T33 l0 x31_2).f0.f2), .int .i64 ((rd_T33 l0 x31_2).f1), .string ((rd_T33 l0 x31_2).f2), .string ((rd_T33 l0 x31_2).f3), .string ((rd_T33 l0 x31_2).f4)] 33 (0, 0)) (by (with_reducible repeat (first | refine kd_ ?_ _ | refine ke_ ?_ | refine ka_ ?_ _)); exact BK230.out) hb); have n2_ := Aside0.mk (blk_below (g := gb236) (o := .cells #[.int .i64 t231, .int .i64 t232, .int .i64 t233, .string t234] 27 (0, 0)) (by (with_reducible repeat (first | refine kd_ ?_ _ | refine ke_ ?_ | refine ka_ ?_ _)); exact BK236.out) hb); have n3_ := Aside0.mk (below_step (by repeat (first | (with_reducible first | exact HB.out | apply ba_ | apply bd_ | apply be_ | refine below_set ?_ GE226.out | refine below_set ?_ GE230.out | refine below_set ?_ GE236.out) | exact HB.out)) hb); have n4_ := Aside0.mk (hbox); have n5_ := Aside0.mk ((by rw [hg]; exact (below_size (by repeat (first | (with_reducible first | exact HB.out | apply ba_ | apply bd_ | apply be_ | refine below_set ?_ GE226.out | refine below_set ?_ GE230.out | refine below_set ?_ GE236.out) | exact HB.out))) : w.heap.size ≤ gb242)); have n6_ := Aside0.mk ((by rw [hg]; exact (below_size (by repeat (first | (with_reducible first | exact HB.out | apply ba_ | apply bd_ | apply be_ | refine below_set ?_ GE226.out | refine below_set ?_ GE230.out | refine below_set ?_ GE236.out) | exact HB.out))) : w.heap.size ≤ gb242)); have n7_ := Aside0.mk ((by rw [hg]; exact Nat.ne_of_lt (blk_lt (g := gb226) (o := .cells #[.int .i64 a1_0, .int .i64 a1_1, .int .i64 a1_2, .string a1_3] 27 (0, 0)) (by (with_reducible repeat (first | refine kd_ ?_ _ | refine ke_ ?_ | refine ka_ ?_ _)); exact BK226.out)) : gb226 ≠ gb242)); have n8_ := Aside0.mk ((by rw [hg]; exact Nat.ne_of_gt (blk_lt (g := gb226) (o := .cells #[.int .i64 a1_0, .int .i64 a1_1, .int .i64 a1_2, .string a1_3] 27 (0, 0)) (by (with_reducible repeat (first | refine kd_ ?_ _ | refine ke_ ?_ | refine ka_ ?_ _)); exact BK226.out)) : gb242 ≠ gb226)); have n9_ := Aside0.mk ((by rw [hg]; exact Nat.ne_of_lt (blk_lt (g := gb230) (o := .cells #[.int .u32 ((rd_T33 l0 x31_2).f0.f0), .int .u32 ((rd_T33 l0 x31_2).f0.f1), .bool ((rd_T33 l0 x31_2).f0.f2), .int .i64 ((rd_T33 l0 x31_2).f1), .string ((rd_T33 l0 x31_2).f2), .string ((rd_T33 l0 x31_2).f3), .string ((rd_T33 l0 x31_2).f4)] 33 (0, 0)) (by (with_reducible repeat (first | refine kd_ ?_ _ | refine ke_ ?_ | refine ka_ ?_ _)); exact BK230.out)) : gb230 ≠ gb242)); have n10_ := Aside0.mk ((by rw [hg]; exact Nat.ne_of_gt (blk_lt (g := gb230) (o := .cells #[.int .u32 ((rd_T33 l0 x31_2).f0.f0), .int .u32 ((rd_T33 l0 x31_2).f0.f1), .bool ((rd_T33 l0 x31_2).f0.f2), .int .i64 ((rd_T33 l0 x31_2).f1), .string ((rd_T33 l0 x31_2).f2), .string ((rd_T33 l0 x31_2).f3), .string ((rd_T33 l0 x31_2).f4)] 33 (0, 0)) (by (with_reducible repeat (first | refine kd_ ?_ _ | refine ke_ ?_ | refine ka_ ?_ _)); exact BK230.out)) : gb242 ≠ gb230)); have n11_ := Aside0.mk ((by rw [hg]; exact Nat.ne_of_lt (blk_lt (g := gb236) (o := .cells #[.int .i64 t231, .int .i64 t232, .int .i64 t233, .string t234] 27 (0, 0)) (by (with_reducible repeat (first | refine kd_ ?_ _ | refine ke_ ?_ | refine ka_ ?_ _)); exact BK236.out)) : gb236 ≠ gb242)); have n12_ := Aside0.mk ((by rw [hg]; exact Nat.ne_of_gt (blk_lt (g := gb236) (o := .cells #[.int .i64 t231, .int .i64 t232, .int .i64 t233, .string t234] 27 (0, 0)) (by (with_reducible repeat (first | refine kd_ ?_ _ | refine ke_ ?_ | refine ka_ ?_ _)); exact BK236.out)) : gb242 ≠ gb236)); clear BK226; clear BK230; clear BK236; clear HB; have BK226 := n0_; have BK230 := n1_; have BK236 := n2_; have HB := n3_; have BK242 := n4_; have GW242 := n5_; have GE242 := n6_; have NB226_242 := n7_; have NB242_226 := n8_; have NB230_242 := n9_; have NB242_230 := n10_; have NB236_242 := n11_; have NB242_236 := n12_; clear n0_ n1_ n2_ n3_ n4_ n5_ n6_ n7_ n8_ n9_ n10_ n11_ n12_; clear hb hbox hg; have hnb72 := NB242_226.out; have hnc72 := NB226_242.out; have hnb73 := NB242_230.out; have hnc73 := NB230_242.out; have hnb74 := NB242_236.out; have hnc74 := NB236_242.out; have hcz75_0 : w71.cell? ⟨gb242, 0, none⟩ = some (.int .i64 0) := (blk_cell BK242.out 0).trans rfl; have hcz75_1 : w71.cell? ⟨gb242, 1, none⟩ = some (.int .i64 0) := (blk_cell BK242.out 1).trans rfl; have hcz75_2 : w71.cell? ⟨gb242, 2, none⟩ = some (.int .i64 0) := (blk_cell BK242.out 2).trans rfl; have hcz75_3 : w71.cell? ⟨gb242, 3, none⟩ = some (.string (⟨#[]⟩ : ByteArray)) := (blk_cell BK242.out 3).trans rfl; have hfz75_0 := blk_frozen BK242.out 0; have hfz75_1 := blk_frozen BK242.out 1; have hfz75_2 := blk_frozen BK242.out 2; have hfz75_3 := blk_frozen BK242.out 3; have hcz76_0 : w71.cell? ⟨gb236, 0, none⟩ = some (.int .i64 t231) := (blk_cell BK236.out 0).trans rfl; have hcz76_1 : w71.cell? ⟨gb236, 1, none⟩ = some (.int .i64 t232) := (blk_cell BK236.out 1).trans rfl; have hcz76_2 : w71.cell? ⟨gb236, 2, none⟩ = some (.int .i64 t233) := (blk_cell BK236.out 2).trans rfl; have hcz76_3 : w71.cell? ⟨gb236, 3, none⟩ = some (.string t234) := (blk_cell BK236.out 3).trans rfl; have hfz76_0 := blk_frozen BK236.out 0; have hfz76_1 := blk_frozen BK236.out 1; have hfz76_2 := blk_frozen BK236.out 2; have hfz76_3 := blk_frozen BK236.out 3))
                      go_roundg k2
                      case measure => have := HJ4.out; have := HK2.out; omega
                      case rel => exact ⟨(wrap64 (x31_2 + 1)), (by first | rfl | (simp; done) | (simp [*]; done)), H', ⟨by have := HJ4.out; have := HK2.out; omega⟩, ⟨by (with_reducible repeat (first | refine kd_ ?_ _ | refine ke_ ?_ | refine ka_ ?_ _)); refine blk_far ?_ NB226_242.out _; (with_reducible repeat (first | refine kd_ ?_ _ | refine ke_ ?_ | refine ka_ ?_ _)); refine blk_far ?_ NB226_242.out _; (with_reducible repeat (first | refine kd_ ?_ _ | refine ke_ ?_ | refine ka_ ?_ _)); refine blk_far ?_ NB226_242.out _; (with_reducible repeat (first | refine kd_ ?_ _ | refine ke_ ?_ | refine ka_ ?_ _)); refine blk_far ?_ NB226_242.out _; (with_reducible repeat (first | refine kd_ ?_ _ | refine ke_ ?_ | refine ka_ ?_ _)); exact BK226.out⟩, ⟨by repeat (first | (with_reducible first | exact HB.out | apply ba_ | apply bd_ | apply be_ | refine below_set ?_ GE226.out | refine below_set ?_ GE230.out | refine below_set ?_ GE236.out | refine below_set ?_ GE242.out) | exact HB.out)⟩⟩
                · rw [if_neg c18] at H
                  exact absurd H (by simp)
              · rw [if_neg c17] at H
                exact absurd H (by simp)
            · rw [if_neg c16] at H
              have c16b0 : decide (x31_2 < (l0.length : Int)) = false := decide_eq_false c16
              clear c16; replace H := Option.bind_eq_some_iff.mp H
              obtain ⟨t243, A770, H⟩ := H
              replace H : ((signalboxref34_Route.f k2 l0 a1_0 a1_1 a1_2 a1_3).bind fun t246 => ((signalboxref03_Same.f k2 t243 t246).bind fun t249 => (if t249 = true then ((gate_Or.f a2 a3).bind fun t250 => ((signalboxref34_With.f k2 a2 a3 1).bind fun t251 => (if t250.toList = t251.toList then ((gate_Xor.f a2 a3).bind fun t252 => ((signalboxref34_With.f k2 a2 a3 2).bind fun t253 => (if t252.toList = t253.toList then ((signalboxlaw34_alive.f k2).bind fun t254 => (some t254)) else (some false)))) else (some false)))) else (some false)))) = some r := H
              have A77 := Aside0.mk A770; clear A770; replace H := Option.bind_eq_some_iff.mp H
              obtain ⟨t246, A780, H⟩ := H
              replace H : ((signalboxref03_Same.f k2 t243 t246).bind fun t249 => (if t249 = true then ((gate_Or.f a2 a3).bind fun t250 => ((signalboxref34_With.f k2 a2 a3 1).bind fun t251 => (if t250.toList = t251.toList then ((gate_Xor.f a2 a3).bind fun t252 => ((signalboxref34_With.f k2 a2 a3 2).bind fun t253 => (if t252.toList = t253.toList then ((signalboxlaw34_alive.f k2).bind fun t254 => (some t254)) else (some false)))) else (some false)))) else (some false))) = some r := H
              have A78 := Aside0.mk A780; clear A780; replace H := Option.bind_eq_some_iff.mp H
              obtain ⟨t249, A790, H⟩ := H
              replace H : (if t249 = true then ((gate_Or.f a2 a3).bind fun t250 => ((signalboxref34_With.f k2 a2 a3 1).bind fun t251 => (if t250.toList = t251.toList then ((gate_Xor.f a2 a3).bind fun t252 => ((signalboxref34_With.f k2 a2 a3 2).bind fun t253 => (if t252.toList = t253.toList then ((signalboxlaw34_alive.f k2).bind fun t254 => (some t254)) else (some false)))) else (some false)))) else (some false)) = some r := H
              have A79 := Aside0.mk A790; clear A790; by_cases c80 : t249 = true
              · subst c80
                have H1 : ((gate_Or.f a2 a3).bind fun t250 => ((signalboxref34_With.f k2 a2 a3 1).bind fun t251 => (if t250.toList = t251.toList then ((gate_Xor.f a2 a3).bind fun t252 => ((signalboxref34_With.f k2 a2 a3 2).bind fun t253 => (if t252.toList = t253.toList then ((signalboxlaw34_alive.f k2).bind fun t254 => (some t254)) else (some false)))) else (some false)))) = some r := by rw [if_pos rfl] at H; exact H
                clear H; have H := H1
                clear H1; replace H := Option.bind_eq_some_iff.mp H
                obtain ⟨t250, A810, H⟩ := H
                replace H : ((signalboxref34_With.f k2 a2 a3 1).bind fun t251 => (if t250.toList = t251.toList then ((gate_Xor.f a2 a3).bind fun t252 => ((signalboxref34_With.f k2 a2 a3 2).bind fun t253 => (if t252.toList = t253.toList then ((signalboxlaw34_alive.f k2).bind fun t254 => (some t254)) else (some false)))) else (some false))) = some r := H
                have A81 := Aside0.mk A810; clear A810; replace H := Option.bind_eq_some_iff.mp H
                obtain ⟨t251, A820, H⟩ := H
                replace H : (if t250.toList = t251.toList then ((gate_Xor.f a2 a3).bind fun t252 => ((signalboxref34_With.f k2 a2 a3 2).bind fun t253 => (if t252.toList = t253.toList then ((signalboxlaw34_alive.f k2).bind fun t254 => (some t254)) else (some false)))) else (some false)) = some r := H
                have A82 := Aside0.mk A820; clear A820; by_cases c83 : t250.toList = t251.toList
                · rw [if_pos c83] at H
                  have c83b0 : (t250.toList == t251.toList) = true := beq_iff_eq.mpr c83
                  have c83b1 : (t250.toList != t251.toList) = false := bne_eq_false_iff_eq.mpr c83
                  clear c83; replace H := Option.bind_eq_some_iff.mp H
                  obtain ⟨t252, A840, H⟩ := H
                  replace H : ((signalboxref34_With.f k2 a2 a3 2).bind fun t253 => (if t252.toList = t253.toList then ((signalboxlaw34_alive.f k2).bind fun t254 => (some t254)) else (some false))) = some r := H
                  have A84 := Aside0.mk A840; clear A840; replace H := Option.bind_eq_some_iff.mp H
                  obtain ⟨t253, A850, H⟩ := H
                  replace H : (if t252.toList = t253.toList then ((signalboxlaw34_alive.f k2).bind fun t254 => (some t254)) else (some false)) = some r := H
                  have A85 := Aside0.mk A850; clear A850; by_cases c86 : t252.toList = t253.toList
                  · rw [if_pos c86] at H
                    have c86b0 : (t252.toList == t253.toList) = true := beq_iff_eq.mpr c86
                    have c86b1 : (t252.toList != t253.toList) = false := bne_eq_false_iff_eq.mpr c86
                    clear c86; replace H := Option.bind_eq_some_iff.mp H
                    obtain ⟨t254, A870, H⟩ := H
                    replace H : (some t254) = some r := H
                    have A87 := Aside0.mk A870; clear A870; obtain rfl := Option.some.inj H
                    try go_wp2
                    have n0_ := Aside0.mk (blk_drew BK226.out)
                    have n1_ := Aside0.mk (below_drew1 HB.out)
                    clear BK226; clear HB; have BK226 := n0_
                    have HB := n1_
                    clear n0_ n1_; refine start_ (n := 29) (S := fun w' => w'.cell? ⟨gb226, 0, none⟩ = some (.int .i64 a1_0) ∧ w'.cell? ⟨gb226, 1, none⟩ = some (.int .i64 a1_1) ∧ w'.cell? ⟨gb226, 2, none⟩ = some (.int .i64 a1_2) ∧ w'.cell? ⟨gb226, 3, none⟩ = some (.string a1_3)) (ds := []) #[false, false, false, false, false, false, false, false, false, false, false, false, false, false, false, false, false, false, false, false, false, false, false, false, false, false, false, false, false] (by kernel_rfl) rfl rfl ⟨(blk_cell BK226.out 0).trans rfl, (blk_cell BK226.out 1).trans rfl, (blk_cell BK226.out 2).trans rfl, (blk_cell BK226.out 3).trans rfl⟩ (fun hHeld => ?_); refine with_tabW signalboxlaw34_GateTurns.tab11 signalboxlaw34_GateTurns.bits11 (fun HT_ HW_ => ?_)
                    generalize wr.drew = w88 at BK226 HB hHeld ⊢
                    refine pure_ (i := 0) (N := some 56) (v := ?_) (a' := ?_) #[true, false, false, false, false, false, false, false, false, false, false, false, false, false, false, false, false, false, false, false, false, false, false, false, false, false, false, false, false] rfl rfl (any_of HT_.out (by kernel_rfl)) (fun _ _ _ h => h) (Or.inl ⟨by rfl, ?_⟩) ?_ ?_
                    rotate_left
                    · intro w'
                      go_simp
                      with_reducible rfl
                    rotate_left
                    · simp only [Act.put, sa_, sb_, sc_, i64_w, i32_w]; rfl
                    refine pure_ (i := 3) (N := some 59) (v := ?_) (a' := ?_) #[true, false, false, true, false, false, false, false, false, false, false, false, false, false, false, false, false, false, false, false, false, false, false, false, false, false, false, false, false] rfl rfl (any_of HT_.out (by kernel_rfl)) (fun _ _ _ h => h) (Or.inl ⟨by rfl, ?_⟩) ?_ ?_
                    rotate_left
                    · intro w'
                      go_simp
                      with_reducible rfl
                    rotate_left
                    · simp only [Act.put, sa_, sb_, sc_, i64_w, i32_w]; rfl
                    refine take_ (i := 1) (N := some 57) (v := ?_) (a' := ?_) #[true, true, false, true, false, false, false, false, false, false, false, false, false, false, false, false, false, false, false, false, false, false, false, false, false, false, false, false, false] rfl rfl (take_ofW HT_.out HW_.out (by kernel_rfl)) (fun _ _ _ h => h) (Or.inl ⟨by rfl, ?_⟩) hHeld ?_ ?_
                    rotate_left
                    · rintro w' ⟨s0, s1, s2, s3⟩
                      go_simp
                      with_reducible rfl
                    rotate_left
                    · simp only [Act.put, sa_, sb_, sc_, i64_w, i32_w]; rfl
                    refine take_ (i := 4) (N := some 60) (v := ?_) (a' := ?_) #[true, true, false, true, true, false, false, false, false, false, false, false, false, false, false, false, false, false, false, false, false, false, false, false, false, false, false, false, false] rfl rfl (take_ofW HT_.out HW_.out (by kernel_rfl)) (fun _ _ _ h => h) (Or.inl ⟨by rfl, ?_⟩) hHeld ?_ ?_
                    rotate_left
                    · rintro w' ⟨s0, s1, s2, s3⟩
                      go_simp
                      with_reducible rfl
                    rotate_left
                    · simp only [Act.put, sa_, sb_, sc_, i64_w, i32_w]; rfl
                    refine one_ (i := 2) (N := some 58) #[true, true, true, true, true, false, false, false, false, false, false, false, false, false, false, false, false, false, false, false, false, false, false, false, false, false, false, false, false] rfl rfl (one_of HT_.out (by kernel_rfl)) (by decide) (fun K hK => ?_)
                    refine goes_ Try.func14 (by kernel_rfl) rfl #[.slice A0 l0.length c0, .agg #[.int .i64 a1_0, .int .i64 a1_1, .int .i64 a1_2, .string a1_3]] (by rfl) rfl rfl (by (try simp only [List.map_toArray, List.map_cons, List.map_nil]); first | done | rfl | (simp only [List.length_drop, List.length_take]; rfl)) ?_
                    with_reducible refine (gate_Route.calls k2 _ _ l0 a1_0 a1_1 a1_2 a1_3 t243 _ ?side1 ?side2 A77.out).mono ?_
                    (case side1 => repeat (first | exact (Kd.C_below HR0.out HB.out) | (with_reducible refine Kd.C_alloc ?_ _) | (with_reducible refine Kd.C_drewN ?_ _) | (with_reducible refine Kd.C_drew ?_)))
                    (case side2 => exact HC0.out)
                    rintro e w89 ⟨v244, rfl, ho0, hb⟩
                    refine ⟨_, rfl, ?_⟩
                    have n0_ := Aside0.mk (Kd.R_lower (Kd.R_newB ho0 (g := gb226) (o := .cells #[.int .i64 a1_0, .int .i64 a1_1, .int .i64 a1_2, .string a1_3] 27 (0, 0)) (by (with_reducible repeat (first | refine kd_ ?_ _ | refine ke_ ?_ | refine ka_ ?_ _)); exact BK226.out)) (below_size (by repeat (first | (with_reducible first | exact HB.out | apply ba_ | apply bd_ | apply be_ | refine below_set ?_ GE226.out) | exact HB.out))))
                    have n1_ := Aside0.mk (blk_below (g := gb226) (o := .cells #[.int .i64 a1_0, .int .i64 a1_1, .int .i64 a1_2, .string a1_3] 27 (0, 0)) (by (with_reducible repeat (first | refine kd_ ?_ _ | refine ke_ ?_ | refine ka_ ?_ _)); exact BK226.out) hb)
                    have n2_ := Aside0.mk (below_step (by repeat (first | (with_reducible first | exact HB.out | apply ba_ | apply bd_ | apply be_ | refine below_set ?_ GE226.out) | exact HB.out)) hb)
                    clear BK226; clear HB; have HO245 := n0_
                    have BK226 := n1_
                    have HB := n2_
                    clear n0_ n1_ n2_; (try clear hb); (try clear hb2); (try clear hk); (try clear hi); (try clear ho0); refine hK.out _ _ ⟨(blk_cell BK226.out 0).trans rfl, (blk_cell BK226.out 1).trans rfl, (blk_cell BK226.out 2).trans rfl, (blk_cell BK226.out 3).trans rfl⟩ (fun hHeld => ?_)
                    clear hK K; refine norm_ (a' := ?_) ?_ ?_
                    rotate_left
                    · show Act.put _ (some 58) _ = _
                      simp only [Act.put, sa_, sb_, sc_, i64_w, i32_w]
                      rfl
                    refine one_ (i := 5) (N := some 61) #[true, true, true, true, true, true, false, false, false, false, false, false, false, false, false, false, false, false, false, false, false, false, false, false, false, false, false, false, false] rfl rfl (one_of HT_.out (by kernel_rfl)) (by decide) (fun K hK => ?_)
                    refine goes_ Try.func15 (by kernel_rfl) rfl #[.slice A0 l0.length c0, .agg #[.int .i64 a1_0, .int .i64 a1_1, .int .i64 a1_2, .string a1_3]] (by rfl) rfl rfl (by (try simp only [List.map_toArray, List.map_cons, List.map_nil]); first | done | rfl | (simp only [List.length_drop, List.length_take]; rfl)) ?_
                    with_reducible refine (signalboxref34_Route.calls k2 _ _ l0 a1_0 a1_1 a1_2 a1_3 t246 _ ?side1 ?side2 A78.out).mono ?_
                    (case side1 => repeat (first | exact (Kd.C_below HR0.out HB.out) | (with_reducible refine Kd.C_alloc ?_ _) | (with_reducible refine Kd.C_drewN ?_ _) | (with_reducible refine Kd.C_drew ?_)))
                    (case side2 => exact HC0.out)
                    rintro e w90 ⟨v247, rfl, ho0, hb⟩
                    refine ⟨_, rfl, ?_⟩
                    have n0_ := Aside0.mk (Kd.R_elder' (by (with_reducible repeat (first | apply Kd.R_alloc | apply Kd.R_drewN | apply Kd.R_drew)); exact HO245.out) (Kd.R_base ho0) hb)
                    have n1_ := Aside0.mk (Kd.R_lower (Kd.R_newB (Kd.R_new' ho0 (Kd.R_lt (by (with_reducible repeat (first | apply Kd.R_alloc | apply Kd.R_drewN | apply Kd.R_drew)); exact HO245.out))) (g := gb226) (o := .cells #[.int .i64 a1_0, .int .i64 a1_1, .int .i64 a1_2, .string a1_3] 27 (0, 0)) (by (with_reducible repeat (first | refine kd_ ?_ _ | refine ke_ ?_ | refine ka_ ?_ _)); exact BK226.out)) (below_size (by repeat (first | (with_reducible first | exact HB.out | apply ba_ | apply bd_ | apply be_ | refine below_set ?_ GE226.out) | exact HB.out))))
                    have n2_ := Aside0.mk (blk_below (g := gb226) (o := .cells #[.int .i64 a1_0, .int .i64 a1_1, .int .i64 a1_2, .string a1_3] 27 (0, 0)) (by (with_reducible repeat (first | refine kd_ ?_ _ | refine ke_ ?_ | refine ka_ ?_ _)); exact BK226.out) hb)
                    have n3_ := Aside0.mk (below_step (by repeat (first | (with_reducible first | exact HB.out | apply ba_ | apply bd_ | apply be_ | refine below_set ?_ GE226.out) | exact HB.out)) hb)
                    clear HO245; clear BK226; clear HB; have HO245 := n0_
                    have HO248 := n1_
                    have BK226 := n2_
                    have HB := n3_
                    clear n0_ n1_ n2_ n3_; (try clear hb); (try clear hb2); (try clear hk); (try clear hi); (try clear ho0); obtain ⟨Ao91, co91, eo91⟩ := Kd.R_slice HO245.out
                    (first | subst eo91 | (injection eo91 with f1_ f2_ f3_; have f4_ := f1_.symm; have f5_ := f3_.symm; clear f1_ f2_ f3_; subst f4_; subst f5_))
                    obtain ⟨Ao92, co92, eo92⟩ := Kd.R_slice HO248.out
                    (first | subst eo92 | (injection eo92 with f1_ f2_ f3_; have f4_ := f1_.symm; have f5_ := f3_.symm; clear f1_ f2_ f3_; subst f4_; subst f5_))
                    refine hK.out _ _ ⟨(blk_cell BK226.out 0).trans rfl, (blk_cell BK226.out 1).trans rfl, (blk_cell BK226.out 2).trans rfl, (blk_cell BK226.out 3).trans rfl⟩ (fun hHeld => ?_)
                    clear hK K; refine norm_ (a' := ?_) ?_ ?_
                    rotate_left
                    · show Act.put _ (some 61) _ = _
                      simp only [Act.put, sa_, sb_, sc_, i64_w, i32_w]
                      rfl
                    refine one_ (i := 6) (N := some 62) #[true, true, true, true, true, true, true, false, false, false, false, false, false, false, false, false, false, false, false, false, false, false, false, false, false, false, false, false, false] rfl rfl (one_of HT_.out (by kernel_rfl)) (by decide) (fun K hK => ?_)
                    refine goes_ Try.func13 (by kernel_rfl) rfl #[.slice Ao91 t243.length co91, .slice Ao92 t246.length co92] (by rfl) rfl rfl (by (try simp only [List.map_toArray, List.map_cons, List.map_nil]); first | done | rfl | (simp only [List.length_drop, List.length_take]; rfl)) ?_
                    with_reducible refine (signalboxref03_Same.calls k2 _ _ t243 _ _ t246 true _ ?side1 ?side2 ?side3 ?side4 A79.out).mono ?_
                    (case side1 => repeat (first | exact (Kd.R_reads' HO245.out).2.2 | (with_reducible refine Kd.C_alloc ?_ _) | (with_reducible refine Kd.C_drewN ?_ _) | (with_reducible refine Kd.C_drew ?_)))
                    (case side2 => exact (Kd.R_reads' HO245.out).2.1)
                    (case side3 => repeat (first | exact (Kd.R_reads' HO248.out).2.2 | (with_reducible refine Kd.C_alloc ?_ _) | (with_reducible refine Kd.C_drewN ?_ _) | (with_reducible refine Kd.C_drew ?_)))
                    (case side4 => exact (Kd.R_reads' HO248.out).2.1)
                    rintro e w' ⟨rfl, ⟨nd, rfl⟩⟩
                    refine ⟨_, rfl, ?_⟩
                    refine hK.out _ _ ⟨(blk_cell BK226.out 0).trans rfl, (blk_cell BK226.out 1).trans rfl, (blk_cell BK226.out 2).trans rfl, (blk_cell BK226.out 3).trans rfl⟩ (fun hHeld => ?_)
                    clear hK K; refine norm_ (a' := ?_) ?_ ?_
                    rotate_left
                    · show Act.put _ (some 62) _ = _
                      simp only [Act.put, sa_, sb_, sc_, i64_w, i32_w]
                      rfl
                    refine pure_ (i := 7) (N := some 63) (v := ?_) (a' := ?_) #[true, true, true, true, true, true, true, true, false, false, false, false, false, false, false, false, false, false, false, false, false, false, false, false, false, false, false, false, false] rfl rfl (any_of HT_.out (by kernel_rfl)) (fun _ _ _ h => h) (Or.inl ⟨by rfl, ?_⟩) ?_ ?_
                    rotate_left
                    · intro w'
                      go_simp
                      with_reducible rfl
                    rotate_left
                    · simp only [Act.put, sa_, sb_, sc_, i64_w, i32_w]; rfl
                    refine pure_ (i := 8) (N := some 64) (v := ?_) (a' := ?_) #[true, true, true, true, true, true, true, true, true, false, false, false, false, false, false, false, false, false, false, false, false, false, false, false, false, false, false, false, false] rfl rfl (any_of HT_.out (by kernel_rfl)) (fun _ _ _ h => h) (Or.inl ⟨by rfl, ?_⟩) ?_ ?_
                    rotate_left
                    · intro w'
                      go_simp
                      with_reducible rfl
                    rotate_left
                    · simp only [Act.put, sa_, sb_, sc_, i64_w, i32_w]; rfl
                    refine pure_ (i := 9) (N := some 65) (v := ?_) (a' := ?_) #[true, true, true, true, true, true, true, true, true, true, false, false, false, false, false, false, false, false, false, false, false, false, false, false, false, false, false, false, false] rfl rfl (any_of HT_.out (by kernel_rfl)) (fun _ _ _ h => h) (Or.inl ⟨by rfl, ?_⟩) ?_ ?_
                    rotate_left
                    · intro w'
                      go_simp
                      with_reducible rfl
                    rotate_left
                    · simp only [Act.put, sa_, sb_, sc_, i64_w, i32_w]; rfl
                    refine pure_ (i := 11) (N := some 67) (v := ?_) (a' := ?_) #[true, true, true, true, true, true, true, true, true, true, false, true, false, false, false, false, false, false, false, false, false, false, false, false, false, false, false, false, false] rfl rfl (any_of HT_.out (by kernel_rfl)) (fun _ _ _ h => h) (Or.inl ⟨by rfl, ?_⟩) ?_ ?_
                    rotate_left
                    · intro w'
                      go_simp
                      with_reducible rfl
                    rotate_left
                    · simp only [Act.put, sa_, sb_, sc_, i64_w, i32_w]; rfl
                    refine pure_ (i := 12) (N := some 68) (v := ?_) (a' := ?_) #[true, true, true, true, true, true, true, true, true, true, false, true, true, false, false, false, false, false, false, false, false, false, false, false, false, false, false, false, false] rfl rfl (any_of HT_.out (by kernel_rfl)) (fun _ _ _ h => h) (Or.inl ⟨by rfl, ?_⟩) ?_ ?_
                    rotate_left
                    · intro w'
                      go_simp
                      with_reducible rfl
                    rotate_left
                    · simp only [Act.put, sa_, sb_, sc_, i64_w, i32_w]; rfl
                    refine one_ (i := 10) (N := some 66) #[true, true, true, true, true, true, true, true, true, true, true, true, true, false, false, false, false, false, false, false, false, false, false, false, false, false, false, false, false] rfl rfl (one_of HT_.out (by kernel_rfl)) (by decide) (fun K hK => ?_)
                    refine goes_ Try.func9 (by kernel_rfl) rfl #[.string a2, .string a3] (by rfl) rfl rfl (by (try simp only [List.map_toArray, List.map_cons, List.map_nil]); first | done | rfl | (simp only [List.length_drop, List.length_take]; rfl)) ?_
                    with_reducible refine (gate_Or.calls a2 a3 t250 _ A81.out).mono ?_
                    rintro e w93 ⟨rfl, hb⟩
                    refine ⟨_, rfl, ?_⟩
                    have n0_ := Aside0.mk (Kd.R_below (by (with_reducible repeat (first | apply Kd.R_alloc | apply Kd.R_drewN | apply Kd.R_drew)); exact HO245.out) hb)
                    have n1_ := Aside0.mk (Kd.R_below (by (with_reducible repeat (first | apply Kd.R_alloc | apply Kd.R_drewN | apply Kd.R_drew)); exact HO248.out) hb)
                    have n2_ := Aside0.mk (blk_below (g := gb226) (o := .cells #[.int .i64 a1_0, .int .i64 a1_1, .int .i64 a1_2, .string a1_3] 27 (0, 0)) (by (with_reducible repeat (first | refine kd_ ?_ _ | refine ke_ ?_ | refine ka_ ?_ _)); exact BK226.out) hb)
                    have n3_ := Aside0.mk (below_step (by repeat (first | (with_reducible first | exact HB.out | apply ba_ | apply bd_ | apply be_ | refine below_set ?_ GE226.out) | exact HB.out)) hb)
                    clear HO245; clear HO248; clear BK226; clear HB; have HO245 := n0_
                    have HO248 := n1_
                    have BK226 := n2_
                    have HB := n3_
                    clear n0_ n1_ n2_ n3_; (try clear hb); (try clear hb2); (try clear hk); (try clear hi); refine hK.out _ _ ⟨(blk_cell BK226.out 0).trans rfl, (blk_cell BK226.out 1).trans rfl, (blk_cell BK226.out 2).trans rfl, (blk_cell BK226.out 3).trans rfl⟩ (fun hHeld => ?_)
                    clear hK K; refine norm_ (a' := ?_) ?_ ?_
                    rotate_left
                    · show Act.put _ (some 66) _ = _
                      simp only [Act.put, sa_, sb_, sc_, i64_w, i32_w]
                      rfl
                    refine one_ (i := 13) (N := some 69) #[true, true, true, true, true, true, true, true, true, true, true, true, true, true, false, false, false, false, false, false, false, false, false, false, false, false, false, false, false] rfl rfl (one_of HT_.out (by kernel_rfl)) (by decide) (fun K hK => ?_)
                    refine goes_ Try.func16 (by kernel_rfl) rfl #[.string a2, .string a3, .int .i64 1] (by rfl) rfl rfl (by (try simp only [List.map_toArray, List.map_cons, List.map_nil]); first | done | rfl | (simp only [List.length_drop, List.length_take]; rfl)) ?_
                    with_reducible refine (signalboxref34_With.calls k2 a2 a3 1 t251 _ A82.out).mono ?_
                    rintro e w94 ⟨rfl, hb⟩
                    refine ⟨_, rfl, ?_⟩
                    have n0_ := Aside0.mk (Kd.R_below (by (with_reducible repeat (first | apply Kd.R_alloc | apply Kd.R_drewN | apply Kd.R_drew)); exact HO245.out) hb)
                    have n1_ := Aside0.mk (Kd.R_below (by (with_reducible repeat (first | apply Kd.R_alloc | apply Kd.R_drewN | apply Kd.R_drew)); exact HO248.out) hb)
                    have n2_ := Aside0.mk (blk_below (g := gb226) (o := .cells #[.int .i64 a1_0, .int .i64 a1_1, .int .i64 a1_2, .string a1_3] 27 (0, 0)) (by (with_reducible repeat (first | refine kd_ ?_ _ | refine ke_ ?_ | refine ka_ ?_ _)); exact BK226.out) hb)
                    have n3_ := Aside0.mk (below_step (by repeat (first | (with_reducible first | exact HB.out | apply ba_ | apply bd_ | apply be_ | refine below_set ?_ GE226.out) | exact HB.out)) hb)
                    clear HO245; clear HO248; clear BK226; clear HB; have HO245 := n0_
                    have HO248 := n1_
                    have BK226 := n2_
                    have HB := n3_
                    clear n0_ n1_ n2_ n3_; (try clear hb); (try clear hb2); (try clear hk); (try clear hi); refine hK.out _ _ ⟨(blk_cell BK226.out 0).trans rfl, (blk_cell BK226.out 1).trans rfl, (blk_cell BK226.out 2).trans rfl, (blk_cell BK226.out 3).trans rfl⟩ (fun hHeld => ?_)
                    clear hK K; refine norm_ (a' := ?_) ?_ ?_
                    rotate_left
                    · show Act.put _ (some 69) _ = _
                      simp only [Act.put, sa_, sb_, sc_, i64_w, i32_w]
                      rfl
                    refine pure_ (i := 14) (N := some 70) (v := ?_) (a' := ?_) #[true, true, true, true, true, true, true, true, true, true, true, true, true, true, true, false, false, false, false, false, false, false, false, false, false, false, false, false, false] rfl rfl (any_of HT_.out (by kernel_rfl)) (fun _ _ _ h => h) (Or.inl ⟨by rfl, ?_⟩) ?_ ?_
                    rotate_left
                    · intro w'
                      go_simp
                      with_reducible rfl
                    rotate_left
                    · simp only [Act.put, sa_, sb_, sc_, i64_w, i32_w]; rfl
                    refine pure_ (i := 15) (N := some 71) (v := ?_) (a' := ?_) #[true, true, true, true, true, true, true, true, true, true, true, true, true, true, true, true, false, false, false, false, false, false, false, false, false, false, false, false, false] rfl rfl (any_of HT_.out (by kernel_rfl)) (fun _ _ _ h => h) (Or.inl ⟨by rfl, ?_⟩) ?_ ?_
                    rotate_left
                    · intro w'
                      go_simp
                      with_reducible rfl
                    rotate_left
                    · simp only [Act.put, sa_, sb_, sc_, i64_w, i32_w]; rfl
                    refine pure_ (i := 16) (N := some 72) (v := ?_) (a' := ?_) #[true, true, true, true, true, true, true, true, true, true, true, true, true, true, true, true, true, false, false, false, false, false, false, false, false, false, false, false, false] rfl rfl (any_of HT_.out (by kernel_rfl)) (fun _ _ _ h => h) (Or.inl ⟨by rfl, ?_⟩) ?_ ?_
                    rotate_left
                    · intro w'
                      go_simp
                      with_reducible rfl
                    rotate_left
                    · simp only [Act.put, sa_, sb_, sc_, i64_w, i32_w]; rfl
                    refine pure_ (i := 17) (N := some 73) (v := ?_) (a' := ?_) #[true, true, true, true, true, true, true, true, true, true, true, true, true, true, true, true, true, true, false, false, false, false, false, false, false, false, false, false, false] rfl rfl (any_of HT_.out (by kernel_rfl)) (fun _ _ _ h => h) (Or.inl ⟨by rfl, ?_⟩) ?_ ?_
                    rotate_left
                    · intro w'
                      go_simp
                      with_reducible rfl
                    rotate_left
                    · simp only [Act.put, sa_, sb_, sc_, i64_w, i32_w]; rfl
                    refine pure_ (i := 18) (N := some 74) (v := ?_) (a' := ?_) #[true, true, true, true, true, true, true, true, true, true, true, true, true, true, true, true, true, true, true, false, false, false, false, false, false, false, false, false, false] rfl rfl (any_of HT_.out (by kernel_rfl)) (fun _ _ _ h => h) (Or.inl ⟨by rfl, ?_⟩) ?_ ?_
                    rotate_left
                    · intro w'
                      go_simp
                      with_reducible rfl
                    rotate_left
                    · simp only [Act.put, sa_, sb_, sc_, i64_w, i32_w]; rfl
                    refine pure_ (i := 20) (N := some 76) (v := ?_) (a' := ?_) #[true, true, true, true, true, true, true, true, true, true, true, true, true, true, true, true, true, true, true, false, true, false, false, false, false, false, false, false, false] rfl rfl (any_of HT_.out (by kernel_rfl)) (fun _ _ _ h => h) (Or.inl ⟨by rfl, ?_⟩) ?_ ?_
                    rotate_left
                    · intro w'
                      go_simp
                      with_reducible rfl
                    rotate_left
                    · simp only [Act.put, sa_, sb_, sc_, i64_w, i32_w]; rfl
                    refine pure_ (i := 21) (N := some 77) (v := ?_) (a' := ?_) #[true, true, true, true, true, true, true, true, true, true, true, true, true, true, true, true, true, true, true, false, true, true, false, false, false, false, false, false, false] rfl rfl (any_of HT_.out (by kernel_rfl)) (fun _ _ _ h => h) (Or.inl ⟨by rfl, ?_⟩) ?_ ?_
                    rotate_left
                    · intro w'
                      go_simp
                      with_reducible rfl
                    rotate_left
                    · simp only [Act.put, sa_, sb_, sc_, i64_w, i32_w]; rfl
                    refine one_ (i := 19) (N := some 75) #[true, true, true, true, true, true, true, true, true, true, true, true, true, true, true, true, true, true, true, true, true, true, false, false, false, false, false, false, false] rfl rfl (one_of HT_.out (by kernel_rfl)) (by decide) (fun K hK => ?_)
                    refine goes_ Try.func8 (by kernel_rfl) rfl #[.string a2, .string a3] (by rfl) rfl rfl (by (try simp only [List.map_toArray, List.map_cons, List.map_nil]); first | done | rfl | (simp only [List.length_drop, List.length_take]; rfl)) ?_
                    with_reducible refine (gate_Xor.calls a2 a3 t252 _ A84.out).mono ?_
                    rintro e w95 ⟨rfl, hb⟩
                    refine ⟨_, rfl, ?_⟩
                    have n0_ := Aside0.mk (Kd.R_below (by (with_reducible repeat (first | apply Kd.R_alloc | apply Kd.R_drewN | apply Kd.R_drew)); exact HO245.out) hb)
                    have n1_ := Aside0.mk (Kd.R_below (by (with_reducible repeat (first | apply Kd.R_alloc | apply Kd.R_drewN | apply Kd.R_drew)); exact HO248.out) hb)
                    have n2_ := Aside0.mk (blk_below (g := gb226) (o := .cells #[.int .i64 a1_0, .int .i64 a1_1, .int .i64 a1_2, .string a1_3] 27 (0, 0)) (by (with_reducible repeat (first | refine kd_ ?_ _ | refine ke_ ?_ | refine ka_ ?_ _)); exact BK226.out) hb)
                    have n3_ := Aside0.mk (below_step (by repeat (first | (with_reducible first | exact HB.out | apply ba_ | apply bd_ | apply be_ | refine below_set ?_ GE226.out) | exact HB.out)) hb)
                    clear HO245; clear HO248; clear BK226; clear HB; have HO245 := n0_
                    have HO248 := n1_
                    have BK226 := n2_
                    have HB := n3_
                    clear n0_ n1_ n2_ n3_; (try clear hb); (try clear hb2); (try clear hk); (try clear hi); refine hK.out _ _ ⟨(blk_cell BK226.out 0).trans rfl, (blk_cell BK226.out 1).trans rfl, (blk_cell BK226.out 2).trans rfl, (blk_cell BK226.out 3).trans rfl⟩ (fun hHeld => ?_)
                    clear hK K; refine norm_ (a' := ?_) ?_ ?_
                    rotate_left
                    · show Act.put _ (some 75) _ = _
                      simp only [Act.put, sa_, sb_, sc_, i64_w, i32_w]
                      rfl
                    refine one_ (i := 22) (N := some 78) #[true, true, true, true, true, true, true, true, true, true, true, true, true, true, true, true, true, true, true, true, true, true, true, false, false, false, false, false, false] rfl rfl (one_of HT_.out (by kernel_rfl)) (by decide) (fun K hK => ?_)
                    refine goes_ Try.func16 (by kernel_rfl) rfl #[.string a2, .string a3, .int .i64 2] (by rfl) rfl rfl (by (try simp only [List.map_toArray, List.map_cons, List.map_nil]); first | done | rfl | (simp only [List.length_drop, List.length_take]; rfl)) ?_
                    with_reducible refine (signalboxref34_With.calls k2 a2 a3 2 t253 _ A85.out).mono ?_
                    rintro e w96 ⟨rfl, hb⟩
                    refine ⟨_, rfl, ?_⟩
                    have n0_ := Aside0.mk (Kd.R_below (by (with_reducible repeat (first | apply Kd.R_alloc | apply Kd.R_drewN | apply Kd.R_drew)); exact HO245.out) hb)
                    have n1_ := Aside0.mk (Kd.R_below (by (with_reducible repeat (first | apply Kd.R_alloc | apply Kd.R_drewN | apply Kd.R_drew)); exact HO248.out) hb)
                    have n2_ := Aside0.mk (blk_below (g := gb226) (o := .cells #[.int .i64 a1_0, .int .i64 a1_1, .int .i64 a1_2, .string a1_3] 27 (0, 0)) (by (with_reducible repeat (first | refine kd_ ?_ _ | refine ke_ ?_ | refine ka_ ?_ _)); exact BK226.out) hb)
                    have n3_ := Aside0.mk (below_step (by repeat (first | (with_reducible first | exact HB.out | apply ba_ | apply bd_ | apply be_ | refine below_set ?_ GE226.out) | exact HB.out)) hb)
                    clear HO245; clear HO248; clear BK226; clear HB; have HO245 := n0_
                    have HO248 := n1_
                    have BK226 := n2_
                    have HB := n3_
                    clear n0_ n1_ n2_ n3_; (try clear hb); (try clear hb2); (try clear hk); (try clear hi); refine hK.out _ _ ⟨(blk_cell BK226.out 0).trans rfl, (blk_cell BK226.out 1).trans rfl, (blk_cell BK226.out 2).trans rfl, (blk_cell BK226.out 3).trans rfl⟩ (fun hHeld => ?_)
                    clear hK K; refine norm_ (a' := ?_) ?_ ?_
                    rotate_left
                    · show Act.put _ (some 78) _ = _
                      simp only [Act.put, sa_, sb_, sc_, i64_w, i32_w]
                      rfl
                    refine pure_ (i := 23) (N := some 79) (v := ?_) (a' := ?_) #[true, true, true, true, true, true, true, true, true, true, true, true, true, true, true, true, true, true, true, true, true, true, true, true, false, false, false, false, false] rfl rfl (any_of HT_.out (by kernel_rfl)) (fun _ _ _ h => h) (Or.inl ⟨by rfl, ?_⟩) ?_ ?_
                    rotate_left
                    · intro w'
                      go_simp
                      with_reducible rfl
                    rotate_left
                    · simp only [Act.put, sa_, sb_, sc_, i64_w, i32_w]; rfl
                    refine pure_ (i := 24) (N := some 80) (v := ?_) (a' := ?_) #[true, true, true, true, true, true, true, true, true, true, true, true, true, true, true, true, true, true, true, true, true, true, true, true, true, false, false, false, false] rfl rfl (any_of HT_.out (by kernel_rfl)) (fun _ _ _ h => h) (Or.inl ⟨by rfl, ?_⟩) ?_ ?_
                    rotate_left
                    · intro w'
                      go_simp
                      with_reducible rfl
                    rotate_left
                    · simp only [Act.put, sa_, sb_, sc_, i64_w, i32_w]; rfl
                    refine pure_ (i := 25) (N := some 81) (v := ?_) (a' := ?_) #[true, true, true, true, true, true, true, true, true, true, true, true, true, true, true, true, true, true, true, true, true, true, true, true, true, true, false, false, false] rfl rfl (any_of HT_.out (by kernel_rfl)) (fun _ _ _ h => h) (Or.inl ⟨by rfl, ?_⟩) ?_ ?_
                    rotate_left
                    · intro w'
                      go_simp
                      with_reducible rfl
                    rotate_left
                    · simp only [Act.put, sa_, sb_, sc_, i64_w, i32_w]; rfl
                    refine one_ (i := 26) (N := some 82) #[true, true, true, true, true, true, true, true, true, true, true, true, true, true, true, true, true, true, true, true, true, true, true, true, true, true, true, false, false] rfl rfl (one_of HT_.out (by kernel_rfl)) (by decide) (fun K hK => ?_)
                    refine goes_ Try.func7 (by kernel_rfl) rfl #[] (by rfl) rfl rfl (by (try simp only [List.map_toArray, List.map_cons, List.map_nil]); first | done | rfl | (simp only [List.length_drop, List.length_take]; rfl)) ?_
                    with_reducible refine (signalboxlaw34_alive.calls k2  t254 _ A87.out).mono ?_
                    rintro e w97 ⟨rfl, hb⟩
                    refine ⟨_, rfl, ?_⟩
                    have n0_ := Aside0.mk (Kd.R_below (by (with_reducible repeat (first | apply Kd.R_alloc | apply Kd.R_drewN | apply Kd.R_drew)); exact HO245.out) hb)
                    have n1_ := Aside0.mk (Kd.R_below (by (with_reducible repeat (first | apply Kd.R_alloc | apply Kd.R_drewN | apply Kd.R_drew)); exact HO248.out) hb)
                    have n2_ := Aside0.mk (blk_below (g := gb226) (o := .cells #[.int .i64 a1_0, .int .i64 a1_1, .int .i64 a1_2, .string a1_3] 27 (0, 0)) (by (with_reducible repeat (first | refine kd_ ?_ _ | refine ke_ ?_ | refine ka_ ?_ _)); exact BK226.out) hb)
                    have n3_ := Aside0.mk (below_step (by repeat (first | (with_reducible first | exact HB.out | apply ba_ | apply bd_ | apply be_ | refine below_set ?_ GE226.out) | exact HB.out)) hb)
                    clear HO245; clear HO248; clear BK226; clear HB; have HO245 := n0_
                    have HO248 := n1_
                    have BK226 := n2_
                    have HB := n3_
                    clear n0_ n1_ n2_ n3_; (try clear hb); (try clear hb2); (try clear hk); (try clear hi); refine hK.out _ _ ⟨(blk_cell BK226.out 0).trans rfl, (blk_cell BK226.out 1).trans rfl, (blk_cell BK226.out 2).trans rfl, (blk_cell BK226.out 3).trans rfl⟩ (fun hHeld => ?_)
                    clear hK K; refine norm_ (a' := ?_) ?_ ?_
                    rotate_left
                    · show Act.put _ (some 82) _ = _
                      simp only [Act.put, sa_, sb_, sc_, i64_w, i32_w]
                      rfl
                    refine pure_ (i := 27) (N := some 83) (v := ?_) (a' := ?_) #[true, true, true, true, true, true, true, true, true, true, true, true, true, true, true, true, true, true, true, true, true, true, true, true, true, true, true, true, false] rfl rfl (any_of HT_.out (by kernel_rfl)) (fun _ _ _ h => h) (Or.inl ⟨by rfl, ?_⟩) ?_ ?_
                    rotate_left
                    · intro w'
                      go_simp
                      with_reducible rfl
                    rotate_left
                    · simp only [Act.put, sa_, sb_, sc_, i64_w, i32_w]; rfl
                    refine pure_ (i := 28) (N := some 8) (v := ?_) (a' := ?_) #[true, true, true, true, true, true, true, true, true, true, true, true, true, true, true, true, true, true, true, true, true, true, true, true, true, true, true, true, true] rfl rfl (any_of HT_.out (by kernel_rfl)) (fun _ _ _ h => h) (Or.inl ⟨by rfl, ?_⟩) ?_ ?_
                    rotate_left
                    · intro w'
                      go_simp
                      with_reducible rfl
                    rotate_left
                    · simp only [Act.put, sa_, sb_, sc_, i64_w, i32_w]; rfl
                    refine done_ (done_of HT_.out (by kernel_rfl)) ?_
                    try go_wp2
                    go_ret
                    exact ⟨by first | rfl | (simp [errW_none, errW_some] <;> rfl) | (simp [*, errW_none, errW_some] <;> rfl), by repeat (first | (with_reducible first | exact HB.out | apply ba_ | apply bd_ | apply be_ | refine below_set ?_ GE226.out) | exact HB.out)⟩
                  · rw [if_neg c86] at H
                    have c86b0 : (t252.toList == t253.toList) = false := beq_eq_false_iff_ne.mpr c86
                    have c86b1 : (t252.toList != t253.toList) = true := bne_iff_ne.mpr c86
                    obtain rfl := Option.some.inj H
                    try go_wp2
                    have n0_ := Aside0.mk (blk_drew BK226.out)
                    have n1_ := Aside0.mk (below_drew1 HB.out)
                    clear BK226; clear HB; have BK226 := n0_
                    have HB := n1_
                    clear n0_ n1_; refine start_ (n := 29) (S := fun w' => w'.cell? ⟨gb226, 0, none⟩ = some (.int .i64 a1_0) ∧ w'.cell? ⟨gb226, 1, none⟩ = some (.int .i64 a1_1) ∧ w'.cell? ⟨gb226, 2, none⟩ = some (.int .i64 a1_2) ∧ w'.cell? ⟨gb226, 3, none⟩ = some (.string a1_3)) (ds := []) #[false, false, false, false, false, false, false, false, false, false, false, false, false, false, false, false, false, false, false, false, false, false, false, false, false, false, false, false, false] (by kernel_rfl) rfl rfl ⟨(blk_cell BK226.out 0).trans rfl, (blk_cell BK226.out 1).trans rfl, (blk_cell BK226.out 2).trans rfl, (blk_cell BK226.out 3).trans rfl⟩ (fun hHeld => ?_); refine with_tabW signalboxlaw34_GateTurns.tab11 signalboxlaw34_GateTurns.bits11 (fun HT_ HW_ => ?_)
                    generalize wr.drew = w98 at BK226 HB hHeld ⊢
                    refine pure_ (i := 0) (N := some 56) (v := ?_) (a' := ?_) #[true, false, false, false, false, false, false, false, false, false, false, false, false, false, false, false, false, false, false, false, false, false, false, false, false, false, false, false, false] rfl rfl (any_of HT_.out (by kernel_rfl)) (fun _ _ _ h => h) (Or.inl ⟨by rfl, ?_⟩) ?_ ?_
                    rotate_left
                    · intro w'
                      go_simp
                      with_reducible rfl
                    rotate_left
                    · simp only [Act.put, sa_, sb_, sc_, i64_w, i32_w]; rfl
                    refine pure_ (i := 3) (N := some 59) (v := ?_) (a' := ?_) #[true, false, false, true, false, false, false, false, false, false, false, false, false, false, false, false, false, false, false, false, false, false, false, false, false, false, false, false, false] rfl rfl (any_of HT_.out (by kernel_rfl)) (fun _ _ _ h => h) (Or.inl ⟨by rfl, ?_⟩) ?_ ?_
                    rotate_left
                    · intro w'
                      go_simp
                      with_reducible rfl
                    rotate_left
                    · simp only [Act.put, sa_, sb_, sc_, i64_w, i32_w]; rfl
                    refine take_ (i := 1) (N := some 57) (v := ?_) (a' := ?_) #[true, true, false, true, false, false, false, false, false, false, false, false, false, false, false, false, false, false, false, false, false, false, false, false, false, false, false, false, false] rfl rfl (take_ofW HT_.out HW_.out (by kernel_rfl)) (fun _ _ _ h => h) (Or.inl ⟨by rfl, ?_⟩) hHeld ?_ ?_
                    rotate_left
                    · rintro w' ⟨s0, s1, s2, s3⟩
                      go_simp
                      with_reducible rfl
                    rotate_left
                    · simp only [Act.put, sa_, sb_, sc_, i64_w, i32_w]; rfl
                    refine take_ (i := 4) (N := some 60) (v := ?_) (a' := ?_) #[true, true, false, true, true, false, false, false, false, false, false, false, false, false, false, false, false, false, false, false, false, false, false, false, false, false, false, false, false] rfl rfl (take_ofW HT_.out HW_.out (by kernel_rfl)) (fun _ _ _ h => h) (Or.inl ⟨by rfl, ?_⟩) hHeld ?_ ?_
                    rotate_left
                    · rintro w' ⟨s0, s1, s2, s3⟩
                      go_simp
                      with_reducible rfl
                    rotate_left
                    · simp only [Act.put, sa_, sb_, sc_, i64_w, i32_w]; rfl
                    refine one_ (i := 2) (N := some 58) #[true, true, true, true, true, false, false, false, false, false, false, false, false, false, false, false, false, false, false, false, false, false, false, false, false, false, false, false, false] rfl rfl (one_of HT_.out (by kernel_rfl)) (by decide) (fun K hK => ?_)
                    refine goes_ Try.func14 (by kernel_rfl) rfl #[.slice A0 l0.length c0, .agg #[.int .i64 a1_0, .int .i64 a1_1, .int .i64 a1_2, .string a1_3]] (by rfl) rfl rfl (by (try simp only [List.map_toArray, List.map_cons, List.map_nil]); first | done | rfl | (simp only [List.length_drop, List.length_take]; rfl)) ?_
                    with_reducible refine (gate_Route.calls k2 _ _ l0 a1_0 a1_1 a1_2 a1_3 t243 _ ?side1 ?side2 A77.out).mono ?_
                    (case side1 => repeat (first | exact (Kd.C_below HR0.out HB.out) | (with_reducible refine Kd.C_alloc ?_ _) | (with_reducible refine Kd.C_drewN ?_ _) | (with_reducible refine Kd.C_drew ?_)))
                    (case side2 => exact HC0.out)
                    rintro e w99 ⟨v244, rfl, ho0, hb⟩
                    refine ⟨_, rfl, ?_⟩
                    have n0_ := Aside0.mk (Kd.R_lower (Kd.R_newB ho0 (g := gb226) (o := .cells #[.int .i64 a1_0, .int .i64 a1_1, .int .i64 a1_2, .string a1_3] 27 (0, 0)) (by (with_reducible repeat (first | refine kd_ ?_ _ | refine ke_ ?_ | refine ka_ ?_ _)); exact BK226.out)) (below_size (by repeat (first | (with_reducible first | exact HB.out | apply ba_ | apply bd_ | apply be_ | refine below_set ?_ GE226.out) | exact HB.out))))
                    have n1_ := Aside0.mk (blk_below (g := gb226) (o := .cells #[.int .i64 a1_0, .int .i64 a1_1, .int .i64 a1_2, .string a1_3] 27 (0, 0)) (by (with_reducible repeat (first | refine kd_ ?_ _ | refine ke_ ?_ | refine ka_ ?_ _)); exact BK226.out) hb)
                    have n2_ := Aside0.mk (below_step (by repeat (first | (with_reducible first | exact HB.out | apply ba_ | apply bd_ | apply be_ | refine below_set ?_ GE226.out) | exact HB.out)) hb)
                    clear BK226; clear HB; have HO245 := n0_
                    have BK226 := n1_
                    have HB := n2_
                    clear n0_ n1_ n2_; (try clear hb); (try clear hb2); (try clear hk); (try clear hi); (try clear ho0); refine hK.out _ _ ⟨(blk_cell BK226.out 0).trans rfl, (blk_cell BK226.out 1).trans rfl, (blk_cell BK226.out 2).trans rfl, (blk_cell BK226.out 3).trans rfl⟩ (fun hHeld => ?_)
                    clear hK K; refine norm_ (a' := ?_) ?_ ?_
                    rotate_left
                    · show Act.put _ (some 58) _ = _
                      simp only [Act.put, sa_, sb_, sc_, i64_w, i32_w]
                      rfl
                    refine one_ (i := 5) (N := some 61) #[true, true, true, true, true, true, false, false, false, false, false, false, false, false, false, false, false, false, false, false, false, false, false, false, false, false, false, false, false] rfl rfl (one_of HT_.out (by kernel_rfl)) (by decide) (fun K hK => ?_)
                    refine goes_ Try.func15 (by kernel_rfl) rfl #[.slice A0 l0.length c0, .agg #[.int .i64 a1_0, .int .i64 a1_1, .int .i64 a1_2, .string a1_3]] (by rfl) rfl rfl (by (try simp only [List.map_toArray, List.map_cons, List.map_nil]); first | done | rfl | (simp only [List.length_drop, List.length_take]; rfl)) ?_
                    with_reducible refine (signalboxref34_Route.calls k2 _ _ l0 a1_0 a1_1 a1_2 a1_3 t246 _ ?side1 ?side2 A78.out).mono ?_
                    (case side1 => repeat (first | exact (Kd.C_below HR0.out HB.out) | (with_reducible refine Kd.C_alloc ?_ _) | (with_reducible refine Kd.C_drewN ?_ _) | (with_reducible refine Kd.C_drew ?_)))
                    (case side2 => exact HC0.out)
                    rintro e w100 ⟨v247, rfl, ho0, hb⟩
                    refine ⟨_, rfl, ?_⟩
                    have n0_ := Aside0.mk (Kd.R_elder' (by (with_reducible repeat (first | apply Kd.R_alloc | apply Kd.R_drewN | apply Kd.R_drew)); exact HO245.out) (Kd.R_base ho0) hb)
                    have n1_ := Aside0.mk (Kd.R_lower (Kd.R_newB (Kd.R_new' ho0 (Kd.R_lt (by (with_reducible repeat (first | apply Kd.R_alloc | apply Kd.R_drewN | apply Kd.R_drew)); exact HO245.out))) (g := gb226) (o := .cells #[.int .i64 a1_0, .int .i64 a1_1, .int .i64 a1_2, .string a1_3] 27 (0, 0)) (by (with_reducible repeat (first | refine kd_ ?_ _ | refine ke_ ?_ | refine ka_ ?_ _)); exact BK226.out)) (below_size (by repeat (first | (with_reducible first | exact HB.out | apply ba_ | apply bd_ | apply be_ | refine below_set ?_ GE226.out) | exact HB.out))))
                    have n2_ := Aside0.mk (blk_below (g := gb226) (o := .cells #[.int .i64 a1_0, .int .i64 a1_1, .int .i64 a1_2, .string a1_3] 27 (0, 0)) (by (with_reducible repeat (first | refine kd_ ?_ _ | refine ke_ ?_ | refine ka_ ?_ _)); exact BK226.out) hb)
                    have n3_ := Aside0.mk (below_step (by repeat (first | (with_reducible first | exact HB.out | apply ba_ | apply bd_ | apply be_ | refine below_set ?_ GE226.out) | exact HB.out)) hb)
                    clear HO245; clear BK226; clear HB; have HO245 := n0_
                    have HO248 := n1_
                    have BK226 := n2_
                    have HB := n3_
                    clear n0_ n1_ n2_ n3_; (try clear hb); (try clear hb2); (try clear hk); (try clear hi); (try clear ho0); obtain ⟨Ao101, co101, eo101⟩ := Kd.R_slice HO245.out
                    (first | subst eo101 | (injection eo101 with f1_ f2_ f3_; have f4_ := f1_.symm; have f5_ := f3_.symm; clear f1_ f2_ f3_; subst f4_; subst f5_))
                    obtain ⟨Ao102, co102, eo102⟩ := Kd.R_slice HO248.out
                    (first | subst eo102 | (injection eo102 with f1_ f2_ f3_; have f4_ := f1_.symm; have f5_ := f3_.symm; clear f1_ f2_ f3_; subst f4_; subst f5_))
                    refine hK.out _ _ ⟨(blk_cell BK226.out 0).trans rfl, (blk_cell BK226.out 1).trans rfl, (blk_cell BK226.out 2).trans rfl, (blk_cell BK226.out 3).trans rfl⟩ (fun hHeld => ?_)
                    clear hK K; refine norm_ (a' := ?_) ?_ ?_
                    rotate_left
                    · show Act.put _ (some 61) _ = _
                      simp only [Act.put, sa_, sb_, sc_, i64_w, i32_w]
                      rfl
                    refine one_ (i := 6) (N := some 62) #[true, true, true, true, true, true, true, false, false, false, false, false, false, false, false, false, false, false, false, false, false, false, false, false, false, false, false, false, false] rfl rfl (one_of HT_.out (by kernel_rfl)) (by decide) (fun K hK => ?_)
                    refine goes_ Try.func13 (by kernel_rfl) rfl #[.slice Ao101 t243.length co101, .slice Ao102 t246.length co102] (by rfl) rfl rfl (by (try simp only [List.map_toArray, List.map_cons, List.map_nil]); first | done | rfl | (simp only [List.length_drop, List.length_take]; rfl)) ?_
                    with_reducible refine (signalboxref03_Same.calls k2 _ _ t243 _ _ t246 true _ ?side1 ?side2 ?side3 ?side4 A79.out).mono ?_
                    (case side1 => repeat (first | exact (Kd.R_reads' HO245.out).2.2 | (with_reducible refine Kd.C_alloc ?_ _) | (with_reducible refine Kd.C_drewN ?_ _) | (with_reducible refine Kd.C_drew ?_)))
                    (case side2 => exact (Kd.R_reads' HO245.out).2.1)
                    (case side3 => repeat (first | exact (Kd.R_reads' HO248.out).2.2 | (with_reducible refine Kd.C_alloc ?_ _) | (with_reducible refine Kd.C_drewN ?_ _) | (with_reducible refine Kd.C_drew ?_)))
                    (case side4 => exact (Kd.R_reads' HO248.out).2.1)
                    rintro e w' ⟨rfl, ⟨nd, rfl⟩⟩
                    refine ⟨_, rfl, ?_⟩
                    refine hK.out _ _ ⟨(blk_cell BK226.out 0).trans rfl, (blk_cell BK226.out 1).trans rfl, (blk_cell BK226.out 2).trans rfl, (blk_cell BK226.out 3).trans rfl⟩ (fun hHeld => ?_)
                    clear hK K; refine norm_ (a' := ?_) ?_ ?_
                    rotate_left
                    · show Act.put _ (some 62) _ = _
                      simp only [Act.put, sa_, sb_, sc_, i64_w, i32_w]
                      rfl
                    refine pure_ (i := 7) (N := some 63) (v := ?_) (a' := ?_) #[true, true, true, true, true, true, true, true, false, false, false, false, false, false, false, false, false, false, false, false, false, false, false, false, false, false, false, false, false] rfl rfl (any_of HT_.out (by kernel_rfl)) (fun _ _ _ h => h) (Or.inl ⟨by rfl, ?_⟩) ?_ ?_
                    rotate_left
                    · intro w'
                      go_simp
                      with_reducible rfl
                    rotate_left
                    · simp only [Act.put, sa_, sb_, sc_, i64_w, i32_w]; rfl
                    refine pure_ (i := 8) (N := some 64) (v := ?_) (a' := ?_) #[true, true, true, true, true, true, true, true, true, false, false, false, false, false, false, false, false, false, false, false, false, false, false, false, false, false, false, false, false] rfl rfl (any_of HT_.out (by kernel_rfl)) (fun _ _ _ h => h) (Or.inl ⟨by rfl, ?_⟩) ?_ ?_
                    rotate_left
                    · intro w'
                      go_simp
                      with_reducible rfl
                    rotate_left
                    · simp only [Act.put, sa_, sb_, sc_, i64_w, i32_w]; rfl
                    refine pure_ (i := 9) (N := some 65) (v := ?_) (a' := ?_) #[true, true, true, true, true, true, true, true, true, true, false, false, false, false, false, false, false, false, false, false, false, false, false, false, false, false, false, false, false] rfl rfl (any_of HT_.out (by kernel_rfl)) (fun _ _ _ h => h) (Or.inl ⟨by rfl, ?_⟩) ?_ ?_
                    rotate_left
                    · intro w'
                      go_simp
                      with_reducible rfl
                    rotate_left
                    · simp only [Act.put, sa_, sb_, sc_, i64_w, i32_w]; rfl
                    refine pure_ (i := 11) (N := some 67) (v := ?_) (a' := ?_) #[true, true, true, true, true, true, true, true, true, true, false, true, false, false, false, false, false, false, false, false, false, false, false, false, false, false, false, false, false] rfl rfl (any_of HT_.out (by kernel_rfl)) (fun _ _ _ h => h) (Or.inl ⟨by rfl, ?_⟩) ?_ ?_
                    rotate_left
                    · intro w'
                      go_simp
                      with_reducible rfl
                    rotate_left
                    · simp only [Act.put, sa_, sb_, sc_, i64_w, i32_w]; rfl
                    refine pure_ (i := 12) (N := some 68) (v := ?_) (a' := ?_) #[true, true, true, true, true, true, true, true, true, true, false, true, true, false, false, false, false, false, false, false, false, false, false, false, false, false, false, false, false] rfl rfl (any_of HT_.out (by kernel_rfl)) (fun _ _ _ h => h) (Or.inl ⟨by rfl, ?_⟩) ?_ ?_
                    rotate_left
                    · intro w'
                      go_simp
                      with_reducible rfl
                    rotate_left
                    · simp only [Act.put, sa_, sb_, sc_, i64_w, i32_w]; rfl
                    refine one_ (i := 10) (N := some 66) #[true, true, true, true, true, true, true, true, true, true, true, true, true, false, false, false, false, false, false, false, false, false, false, false, false, false, false, false, false] rfl rfl (one_of HT_.out (by kernel_rfl)) (by decide) (fun K hK => ?_)
                    refine goes_ Try.func9 (by kernel_rfl) rfl #[.string a2, .string a3] (by rfl) rfl rfl (by (try simp only [List.map_toArray, List.map_cons, List.map_nil]); first | done | rfl | (simp only [List.length_drop, List.length_take]; rfl)) ?_
                    with_reducible refine (gate_Or.calls a2 a3 t250 _ A81.out).mono ?_
                    rintro e w103 ⟨rfl, hb⟩
                    refine ⟨_, rfl, ?_⟩
                    have n0_ := Aside0.mk (Kd.R_below (by (with_reducible repeat (first | apply Kd.R_alloc | apply Kd.R_drewN | apply Kd.R_drew)); exact HO245.out) hb)
                    have n1_ := Aside0.mk (Kd.R_below (by (with_reducible repeat (first | apply Kd.R_alloc | apply Kd.R_drewN | apply Kd.R_drew)); exact HO248.out) hb)
                    have n2_ := Aside0.mk (blk_below (g := gb226) (o := .cells #[.int .i64 a1_0, .int .i64 a1_1, .int .i64 a1_2, .string a1_3] 27 (0, 0)) (by (with_reducible repeat (first | refine kd_ ?_ _ | refine ke_ ?_ | refine ka_ ?_ _)); exact BK226.out) hb)
                    have n3_ := Aside0.mk (below_step (by repeat (first | (with_reducible first | exact HB.out | apply ba_ | apply bd_ | apply be_ | refine below_set ?_ GE226.out) | exact HB.out)) hb)
                    clear HO245; clear HO248; clear BK226; clear HB; have HO245 := n0_
                    have HO248 := n1_
                    have BK226 := n2_
                    have HB := n3_
                    clear n0_ n1_ n2_ n3_; (try clear hb); (try clear hb2); (try clear hk); (try clear hi); refine hK.out _ _ ⟨(blk_cell BK226.out 0).trans rfl, (blk_cell BK226.out 1).trans rfl, (blk_cell BK226.out 2).trans rfl, (blk_cell BK226.out 3).trans rfl⟩ (fun hHeld => ?_)
                    clear hK K; refine norm_ (a' := ?_) ?_ ?_
                    rotate_left
                    · show Act.put _ (some 66) _ = _
                      simp only [Act.put, sa_, sb_, sc_, i64_w, i32_w]
                      rfl
                    refine one_ (i := 13) (N := some 69) #[true, true, true, true, true, true, true, true, true, true, true, true, true, true, false, false, false, false, false, false, false, false, false, false, false, false, false, false, false] rfl rfl (one_of HT_.out (by kernel_rfl)) (by decide) (fun K hK => ?_)
                    refine goes_ Try.func16 (by kernel_rfl) rfl #[.string a2, .string a3, .int .i64 1] (by rfl) rfl rfl (by (try simp only [List.map_toArray, List.map_cons, List.map_nil]); first | done | rfl | (simp only [List.length_drop, List.length_take]; rfl)) ?_
                    with_reducible refine (signalboxref34_With.calls k2 a2 a3 1 t251 _ A82.out).mono ?_
                    rintro e w104 ⟨rfl, hb⟩
                    refine ⟨_, rfl, ?_⟩
                    have n0_ := Aside0.mk (Kd.R_below (by (with_reducible repeat (first | apply Kd.R_alloc | apply Kd.R_drewN | apply Kd.R_drew)); exact HO245.out) hb)
                    have n1_ := Aside0.mk (Kd.R_below (by (with_reducible repeat (first | apply Kd.R_alloc | apply Kd.R_drewN | apply Kd.R_drew)); exact HO248.out) hb)
                    have n2_ := Aside0.mk (blk_below (g := gb226) (o := .cells #[.int .i64 a1_0, .int .i64 a1_1, .int .i64 a1_2, .string a1_3] 27 (0, 0)) (by (with_reducible repeat (first | refine kd_ ?_ _ | refine ke_ ?_ | refine ka_ ?_ _)); exact BK226.out) hb)
                    have n3_ := Aside0.mk (below_step (by repeat (first | (with_reducible first | exact HB.out | apply ba_ | apply bd_ | apply be_ | refine below_set ?_ GE226.out) | exact HB.out)) hb)
                    clear HO245; clear HO248; clear BK226; clear HB; have HO245 := n0_
                    have HO248 := n1_
                    have BK226 := n2_
                    have HB := n3_
                    clear n0_ n1_ n2_ n3_; (try clear hb); (try clear hb2); (try clear hk); (try clear hi); refine hK.out _ _ ⟨(blk_cell BK226.out 0).trans rfl, (blk_cell BK226.out 1).trans rfl, (blk_cell BK226.out 2).trans rfl, (blk_cell BK226.out 3).trans rfl⟩ (fun hHeld => ?_)
                    clear hK K; refine norm_ (a' := ?_) ?_ ?_
                    rotate_left
                    · show Act.put _ (some 69) _ = _
                      simp only [Act.put, sa_, sb_, sc_, i64_w, i32_w]
                      rfl
                    refine pure_ (i := 14) (N := some 70) (v := ?_) (a' := ?_) #[true, true, true, true, true, true, true, true, true, true, true, true, true, true, true, false, false, false, false, false, false, false, false, false, false, false, false, false, false] rfl rfl (any_of HT_.out (by kernel_rfl)) (fun _ _ _ h => h) (Or.inl ⟨by rfl, ?_⟩) ?_ ?_
                    rotate_left
                    · intro w'
                      go_simp
                      with_reducible rfl
                    rotate_left
                    · simp only [Act.put, sa_, sb_, sc_, i64_w, i32_w]; rfl
                    refine pure_ (i := 15) (N := some 71) (v := ?_) (a' := ?_) #[true, true, true, true, true, true, true, true, true, true, true, true, true, true, true, true, false, false, false, false, false, false, false, false, false, false, false, false, false] rfl rfl (any_of HT_.out (by kernel_rfl)) (fun _ _ _ h => h) (Or.inl ⟨by rfl, ?_⟩) ?_ ?_
                    rotate_left
                    · intro w'
                      go_simp
                      with_reducible rfl
                    rotate_left
                    · simp only [Act.put, sa_, sb_, sc_, i64_w, i32_w]; rfl
                    refine pure_ (i := 16) (N := some 72) (v := ?_) (a' := ?_) #[true, true, true, true, true, true, true, true, true, true, true, true, true, true, true, true, true, false, false, false, false, false, false, false, false, false, false, false, false] rfl rfl (any_of HT_.out (by kernel_rfl)) (fun _ _ _ h => h) (Or.inl ⟨by rfl, ?_⟩) ?_ ?_
                    rotate_left
                    · intro w'
                      go_simp
                      with_reducible rfl
                    rotate_left
                    · simp only [Act.put, sa_, sb_, sc_, i64_w, i32_w]; rfl
                    refine pure_ (i := 17) (N := some 73) (v := ?_) (a' := ?_) #[true, true, true, true, true, true, true, true, true, true, true, true, true, true, true, true, true, true, false, false, false, false, false, false, false, false, false, false, false] rfl rfl (any_of HT_.out (by kernel_rfl)) (fun _ _ _ h => h) (Or.inl ⟨by rfl, ?_⟩) ?_ ?_
                    rotate_left
                    · intro w'
                      go_simp
                      with_reducible rfl
                    rotate_left
                    · simp only [Act.put, sa_, sb_, sc_, i64_w, i32_w]; rfl
                    refine pure_ (i := 18) (N := some 74) (v := ?_) (a' := ?_) #[true, true, true, true, true, true, true, true, true, true, true, true, true, true, true, true, true, true, true, false, false, false, false, false, false, false, false, false, false] rfl rfl (any_of HT_.out (by kernel_rfl)) (fun _ _ _ h => h) (Or.inl ⟨by rfl, ?_⟩) ?_ ?_
                    rotate_left
                    · intro w'
                      go_simp
                      with_reducible rfl
                    rotate_left
                    · simp only [Act.put, sa_, sb_, sc_, i64_w, i32_w]; rfl
                    refine pure_ (i := 20) (N := some 76) (v := ?_) (a' := ?_) #[true, true, true, true, true, true, true, true, true, true, true, true, true, true, true, true, true, true, true, false, true, false, false, false, false, false, false, false, false] rfl rfl (any_of HT_.out (by kernel_rfl)) (fun _ _ _ h => h) (Or.inl ⟨by rfl, ?_⟩) ?_ ?_
                    rotate_left
                    · intro w'
                      go_simp
                      with_reducible rfl
                    rotate_left
                    · simp only [Act.put, sa_, sb_, sc_, i64_w, i32_w]; rfl
                    refine pure_ (i := 21) (N := some 77) (v := ?_) (a' := ?_) #[true, true, true, true, true, true, true, true, true, true, true, true, true, true, true, true, true, true, true, false, true, true, false, false, false, false, false, false, false] rfl rfl (any_of HT_.out (by kernel_rfl)) (fun _ _ _ h => h) (Or.inl ⟨by rfl, ?_⟩) ?_ ?_
                    rotate_left
                    · intro w'
                      go_simp
                      with_reducible rfl
                    rotate_left
                    · simp only [Act.put, sa_, sb_, sc_, i64_w, i32_w]; rfl
                    refine one_ (i := 19) (N := some 75) #[true, true, true, true, true, true, true, true, true, true, true, true, true, true, true, true, true, true, true, true, true, true, false, false, false, false, false, false, false] rfl rfl (one_of HT_.out (by kernel_rfl)) (by decide) (fun K hK => ?_)
                    refine goes_ Try.func8 (by kernel_rfl) rfl #[.string a2, .string a3] (by rfl) rfl rfl (by (try simp only [List.map_toArray, List.map_cons, List.map_nil]); first | done | rfl | (simp only [List.length_drop, List.length_take]; rfl)) ?_
                    with_reducible refine (gate_Xor.calls a2 a3 t252 _ A84.out).mono ?_
                    rintro e w105 ⟨rfl, hb⟩
                    refine ⟨_, rfl, ?_⟩
                    have n0_ := Aside0.mk (Kd.R_below (by (with_reducible repeat (first | apply Kd.R_alloc | apply Kd.R_drewN | apply Kd.R_drew)); exact HO245.out) hb)
                    have n1_ := Aside0.mk (Kd.R_below (by (with_reducible repeat (first | apply Kd.R_alloc | apply Kd.R_drewN | apply Kd.R_drew)); exact HO248.out) hb)
                    have n2_ := Aside0.mk (blk_below (g := gb226) (o := .cells #[.int .i64 a1_0, .int .i64 a1_1, .int .i64 a1_2, .string a1_3] 27 (0, 0)) (by (with_reducible repeat (first | refine kd_ ?_ _ | refine ke_ ?_ | refine ka_ ?_ _)); exact BK226.out) hb)
                    have n3_ := Aside0.mk (below_step (by repeat (first | (with_reducible first | exact HB.out | apply ba_ | apply bd_ | apply be_ | refine below_set ?_ GE226.out) | exact HB.out)) hb)
                    clear HO245; clear HO248; clear BK226; clear HB; have HO245 := n0_
                    have HO248 := n1_
                    have BK226 := n2_
                    have HB := n3_
                    clear n0_ n1_ n2_ n3_; (try clear hb); (try clear hb2); (try clear hk); (try clear hi); refine hK.out _ _ ⟨(blk_cell BK226.out 0).trans rfl, (blk_cell BK226.out 1).trans rfl, (blk_cell BK226.out 2).trans rfl, (blk_cell BK226.out 3).trans rfl⟩ (fun hHeld => ?_)
                    clear hK K; refine norm_ (a' := ?_) ?_ ?_
                    rotate_left
                    · show Act.put _ (some 75) _ = _
                      simp only [Act.put, sa_, sb_, sc_, i64_w, i32_w]
                      rfl
                    refine one_ (i := 22) (N := some 78) #[true, true, true, true, true, true, true, true, true, true, true, true, true, true, true, true, true, true, true, true, true, true, true, false, false, false, false, false, false] rfl rfl (one_of HT_.out (by kernel_rfl)) (by decide) (fun K hK => ?_)
                    refine goes_ Try.func16 (by kernel_rfl) rfl #[.string a2, .string a3, .int .i64 2] (by rfl) rfl rfl (by (try simp only [List.map_toArray, List.map_cons, List.map_nil]); first | done | rfl | (simp only [List.length_drop, List.length_take]; rfl)) ?_
                    with_reducible refine (signalboxref34_With.calls k2 a2 a3 2 t253 _ A85.out).mono ?_
                    rintro e w106 ⟨rfl, hb⟩
                    refine ⟨_, rfl, ?_⟩
                    have n0_ := Aside0.mk (Kd.R_below (by (with_reducible repeat (first | apply Kd.R_alloc | apply Kd.R_drewN | apply Kd.R_drew)); exact HO245.out) hb)
                    have n1_ := Aside0.mk (Kd.R_below (by (with_reducible repeat (first | apply Kd.R_alloc | apply Kd.R_drewN | apply Kd.R_drew)); exact HO248.out) hb)
                    have n2_ := Aside0.mk (blk_below (g := gb226) (o := .cells #[.int .i64 a1_0, .int .i64 a1_1, .int .i64 a1_2, .string a1_3] 27 (0, 0)) (by (with_reducible repeat (first | refine kd_ ?_ _ | refine ke_ ?_ | refine ka_ ?_ _)); exact BK226.out) hb)
                    have n3_ := Aside0.mk (below_step (by repeat (first | (with_reducible first | exact HB.out | apply ba_ | apply bd_ | apply be_ | refine below_set ?_ GE226.out) | exact HB.out)) hb)
                    clear HO245; clear HO248; clear BK226; clear HB; have HO245 := n0_
                    have HO248 := n1_
                    have BK226 := n2_
                    have HB := n3_
                    clear n0_ n1_ n2_ n3_; (try clear hb); (try clear hb2); (try clear hk); (try clear hi); refine hK.out _ _ ⟨(blk_cell BK226.out 0).trans rfl, (blk_cell BK226.out 1).trans rfl, (blk_cell BK226.out 2).trans rfl, (blk_cell BK226.out 3).trans rfl⟩ (fun hHeld => ?_)
                    clear hK K; refine norm_ (a' := ?_) ?_ ?_
                    rotate_left
                    · show Act.put _ (some 78) _ = _
                      simp only [Act.put, sa_, sb_, sc_, i64_w, i32_w]
                      rfl
                    refine pure_ (i := 23) (N := some 79) (v := ?_) (a' := ?_) #[true, true, true, true, true, true, true, true, true, true, true, true, true, true, true, true, true, true, true, true, true, true, true, true, false, false, false, false, false] rfl rfl (any_of HT_.out (by kernel_rfl)) (fun _ _ _ h => h) (Or.inl ⟨by rfl, ?_⟩) ?_ ?_
                    rotate_left
                    · intro w'
                      go_simp
                      with_reducible rfl
                    rotate_left
                    · simp only [Act.put, sa_, sb_, sc_, i64_w, i32_w]; rfl
                    refine pure_ (i := 24) (N := some 80) (v := ?_) (a' := ?_) #[true, true, true, true, true, true, true, true, true, true, true, true, true, true, true, true, true, true, true, true, true, true, true, true, true, false, false, false, false] rfl rfl (any_of HT_.out (by kernel_rfl)) (fun _ _ _ h => h) (Or.inl ⟨by rfl, ?_⟩) ?_ ?_
                    rotate_left
                    · intro w'
                      go_simp
                      with_reducible rfl
                    rotate_left
                    · simp only [Act.put, sa_, sb_, sc_, i64_w, i32_w]; rfl
                    refine pure_ (i := 25) (N := some 81) (v := ?_) (a' := ?_) #[true, true, true, true, true, true, true, true, true, true, true, true, true, true, true, true, true, true, true, true, true, true, true, true, true, true, false, false, false] rfl rfl (any_of HT_.out (by kernel_rfl)) (fun _ _ _ h => h) (Or.inl ⟨by rfl, ?_⟩) ?_ ?_
                    rotate_left
                    · intro w'
                      go_simp
                      with_reducible rfl
                    rotate_left
                    · simp only [Act.put, sa_, sb_, sc_, i64_w, i32_w]; rfl
                    refine pure_ (i := 26) (N := some 82) (v := undef) (a' := ?_) #[true, true, true, true, true, true, true, true, true, true, true, true, true, true, true, true, true, true, true, true, true, true, true, true, true, true, true, false, false] rfl rfl (any_of HT_.out (by kernel_rfl)) (fun _ _ _ h => h) (Or.inr ⟨by rfl, rfl⟩) ?_ ?_
                    rotate_left
                    · simp only [Act.put, sa_, sb_, sc_, i64_w, i32_w]; rfl
                    refine pure_ (i := 27) (N := some 83) (v := ?_) (a' := ?_) #[true, true, true, true, true, true, true, true, true, true, true, true, true, true, true, true, true, true, true, true, true, true, true, true, true, true, true, true, false] rfl rfl (any_of HT_.out (by kernel_rfl)) (fun _ _ _ h => h) (Or.inl ⟨by rfl, ?_⟩) ?_ ?_
                    rotate_left
                    · intro w'
                      go_simp
                      with_reducible rfl
                    rotate_left
                    · simp only [Act.put, sa_, sb_, sc_, i64_w, i32_w]; rfl
                    refine pure_ (i := 28) (N := some 8) (v := ?_) (a' := ?_) #[true, true, true, true, true, true, true, true, true, true, true, true, true, true, true, true, true, true, true, true, true, true, true, true, true, true, true, true, true] rfl rfl (any_of HT_.out (by kernel_rfl)) (fun _ _ _ h => h) (Or.inl ⟨by rfl, ?_⟩) ?_ ?_
                    rotate_left
                    · intro w'
                      go_simp
                      with_reducible rfl
                    rotate_left
                    · simp only [Act.put, sa_, sb_, sc_, i64_w, i32_w]; rfl
                    refine done_ (done_of HT_.out (by kernel_rfl)) ?_
                    try go_wp2
                    go_ret
                    exact ⟨by first | rfl | (simp [errW_none, errW_some] <;> rfl) | (simp [*, errW_none, errW_some] <;> rfl), by repeat (first | (with_reducible first | exact HB.out | apply ba_ | apply bd_ | apply be_ | refine below_set ?_ GE226.out) | exact HB.out)⟩
                · rw [if_neg c83] at H
                  have c83b0 : (t250.toList == t251.toList) = false := beq_eq_false_iff_ne.mpr c83
                  have c83b1 : (t250.toList != t251.toList) = true := bne_iff_ne.mpr c83
                  obtain rfl := Option.some.inj H
                  try go_wp2
                  have n0_ := Aside0.mk (blk_drew BK226.out)
                  have n1_ := Aside0.mk (below_drew1 HB.out)
                  clear BK226; clear HB; have BK226 := n0_
                  have HB := n1_
                  clear n0_ n1_; refine start_ (n := 29) (S := fun w' => w'.cell? ⟨gb226, 0, none⟩ = some (.int .i64 a1_0) ∧ w'.cell? ⟨gb226, 1, none⟩ = some (.int .i64 a1_1) ∧ w'.cell? ⟨gb226, 2, none⟩ = some (.int .i64 a1_2) ∧ w'.cell? ⟨gb226, 3, none⟩ = some (.string a1_3)) (ds := []) #[false, false, false, false, false, false, false, false, false, false, false, false, false, false, false, false, false, false, false, false, false, false, false, false, false, false, false, false, false] (by kernel_rfl) rfl rfl ⟨(blk_cell BK226.out 0).trans rfl, (blk_cell BK226.out 1).trans rfl, (blk_cell BK226.out 2).trans rfl, (blk_cell BK226.out 3).trans rfl⟩ (fun hHeld => ?_); refine with_tabW signalboxlaw34_GateTurns.tab11 signalboxlaw34_GateTurns.bits11 (fun HT_ HW_ => ?_)
                  generalize wr.drew = w107 at BK226 HB hHeld ⊢
                  refine pure_ (i := 0) (N := some 56) (v := ?_) (a' := ?_) #[true, false, false, false, false, false, false, false, false, false, false, false, false, false, false, false, false, false, false, false, false, false, false, false, false, false, false, false, false] rfl rfl (any_of HT_.out (by kernel_rfl)) (fun _ _ _ h => h) (Or.inl ⟨by rfl, ?_⟩) ?_ ?_
                  rotate_left
                  · intro w'
                    go_simp
                    with_reducible rfl
                  rotate_left
                  · simp only [Act.put, sa_, sb_, sc_, i64_w, i32_w]; rfl
                  refine pure_ (i := 3) (N := some 59) (v := ?_) (a' := ?_) #[true, false, false, true, false, false, false, false, false, false, false, false, false, false, false, false, false, false, false, false, false, false, false, false, false, false, false, false, false] rfl rfl (any_of HT_.out (by kernel_rfl)) (fun _ _ _ h => h) (Or.inl ⟨by rfl, ?_⟩) ?_ ?_
                  rotate_left
                  · intro w'
                    go_simp
                    with_reducible rfl
                  rotate_left
                  · simp only [Act.put, sa_, sb_, sc_, i64_w, i32_w]; rfl
                  refine take_ (i := 1) (N := some 57) (v := ?_) (a' := ?_) #[true, true, false, true, false, false, false, false, false, false, false, false, false, false, false, false, false, false, false, false, false, false, false, false, false, false, false, false, false] rfl rfl (take_ofW HT_.out HW_.out (by kernel_rfl)) (fun _ _ _ h => h) (Or.inl ⟨by rfl, ?_⟩) hHeld ?_ ?_
                  rotate_left
                  · rintro w' ⟨s0, s1, s2, s3⟩
                    go_simp
                    with_reducible rfl
                  rotate_left
                  · simp only [Act.put, sa_, sb_, sc_, i64_w, i32_w]; rfl
                  refine take_ (i := 4) (N := some 60) (v := ?_) (a' := ?_) #[true, true, false, true, true, false, false, false, false, false, false, false, false, false, false, false, false, false, false, false, false, false, false, false, false, false, false, false, false] rfl rfl (take_ofW HT_.out HW_.out (by kernel_rfl)) (fun _ _ _ h => h) (Or.inl ⟨by rfl, ?_⟩) hHeld ?_ ?_
                  rotate_left
                  · rintro w' ⟨s0, s1, s2, s3⟩
                    go_simp
                    with_reducible rfl
                  rotate_left
                  · simp only [Act.put, sa_, sb_, sc_, i64_w, i32_w]; rfl
                  refine one_ (i := 2) (N := some 58) #[true, true, true, true, true, false, false, false, false, false, false, false, false, false, false, false, false, false, false, false, false, false, false, false, false, false, false, false, false] rfl rfl (one_of HT_.out (by kernel_rfl)) (by decide) (fun K hK => ?_)
                  refine goes_ Try.func14 (by kernel_rfl) rfl #[.slice A0 l0.length c0, .agg #[.int .i64 a1_0, .int .i64 a1_1, .int .i64 a1_2, .string a1_3]] (by rfl) rfl rfl (by (try simp only [List.map_toArray, List.map_cons, List.map_nil]); first | done | rfl | (simp only [List.length_drop, List.length_take]; rfl)) ?_
                  with_reducible refine (gate_Route.calls k2 _ _ l0 a1_0 a1_1 a1_2 a1_3 t243 _ ?side1 ?side2 A77.out).mono ?_
                  (case side1 => repeat (first | exact (Kd.C_below HR0.out HB.out) | (with_reducible refine Kd.C_alloc ?_ _) | (with_reducible refine Kd.C_drewN ?_ _) | (with_reducible refine Kd.C_drew ?_)))
                  (case side2 => exact HC0.out)
                  rintro e w108 ⟨v244, rfl, ho0, hb⟩
                  refine ⟨_, rfl, ?_⟩
                  have n0_ := Aside0.mk (Kd.R_lower (Kd.R_newB ho0 (g := gb226) (o := .cells #[.int .i64 a1_0, .int .i64 a1_1, .int .i64 a1_2, .string a1_3] 27 (0, 0)) (by (with_reducible repeat (first | refine kd_ ?_ _ | refine ke_ ?_ | refine ka_ ?_ _)); exact BK226.out)) (below_size (by repeat (first | (with_reducible first | exact HB.out | apply ba_ | apply bd_ | apply be_ | refine below_set ?_ GE226.out) | exact HB.out))))
                  have n1_ := Aside0.mk (blk_below (g := gb226) (o := .cells #[.int .i64 a1_0, .int .i64 a1_1, .int .i64 a1_2, .string a1_3] 27 (0, 0)) (by (with_reducible repeat (first | refine kd_ ?_ _ | refine ke_ ?_ | refine ka_ ?_ _)); exact BK226.out) hb)
                  have n2_ := Aside0.mk (below_step (by repeat (first | (with_reducible first | exact HB.out | apply ba_ | apply bd_ | apply be_ | refine below_set ?_ GE226.out) | exact HB.out)) hb)
                  clear BK226; clear HB; have HO245 := n0_
                  have BK226 := n1_
                  have HB := n2_
                  clear n0_ n1_ n2_; (try clear hb); (try clear hb2); (try clear hk); (try clear hi); (try clear ho0); refine hK.out _ _ ⟨(blk_cell BK226.out 0).trans rfl, (blk_cell BK226.out 1).trans rfl, (blk_cell BK226.out 2).trans rfl, (blk_cell BK226.out 3).trans rfl⟩ (fun hHeld => ?_)
                  clear hK K; refine norm_ (a' := ?_) ?_ ?_
                  rotate_left
                  · show Act.put _ (some 58) _ = _
                    simp only [Act.put, sa_, sb_, sc_, i64_w, i32_w]
                    rfl
                  refine one_ (i := 5) (N := some 61) #[true, true, true, true, true, true, false, false, false, false, false, false, false, false, false, false, false, false, false, false, false, false, false, false, false, false, false, false, false] rfl rfl (one_of HT_.out (by kernel_rfl)) (by decide) (fun K hK => ?_)
                  refine goes_ Try.func15 (by kernel_rfl) rfl #[.slice A0 l0.length c0, .agg #[.int .i64 a1_0, .int .i64 a1_1, .int .i64 a1_2, .string a1_3]] (by rfl) rfl rfl (by (try simp only [List.map_toArray, List.map_cons, List.map_nil]); first | done | rfl | (simp only [List.length_drop, List.length_take]; rfl)) ?_
                  with_reducible refine (signalboxref34_Route.calls k2 _ _ l0 a1_0 a1_1 a1_2 a1_3 t246 _ ?side1 ?side2 A78.out).mono ?_
                  (case side1 => repeat (first | exact (Kd.C_below HR0.out HB.out) | (with_reducible refine Kd.C_alloc ?_ _) | (with_reducible refine Kd.C_drewN ?_ _) | (with_reducible refine Kd.C_drew ?_)))
                  (case side2 => exact HC0.out)
                  rintro e w109 ⟨v247, rfl, ho0, hb⟩
                  refine ⟨_, rfl, ?_⟩
                  have n0_ := Aside0.mk (Kd.R_elder' (by (with_reducible repeat (first | apply Kd.R_alloc | apply Kd.R_drewN | apply Kd.R_drew)); exact HO245.out) (Kd.R_base ho0) hb)
                  have n1_ := Aside0.mk (Kd.R_lower (Kd.R_newB (Kd.R_new' ho0 (Kd.R_lt (by (with_reducible repeat (first | apply Kd.R_alloc | apply Kd.R_drewN | apply Kd.R_drew)); exact HO245.out))) (g := gb226) (o := .cells #[.int .i64 a1_0, .int .i64 a1_1, .int .i64 a1_2, .string a1_3] 27 (0, 0)) (by (with_reducible repeat (first | refine kd_ ?_ _ | refine ke_ ?_ | refine ka_ ?_ _)); exact BK226.out)) (below_size (by repeat (first | (with_reducible first | exact HB.out | apply ba_ | apply bd_ | apply be_ | refine below_set ?_ GE226.out) | exact HB.out))))
                  have n2_ := Aside0.mk (blk_below (g := gb226) (o := .cells #[.int .i64 a1_0, .int .i64 a1_1, .int .i64 a1_2, .string a1_3] 27 (0, 0)) (by (with_reducible repeat (first | refine kd_ ?_ _ | refine ke_ ?_ | refine ka_ ?_ _)); exact BK226.out) hb)
                  have n3_ := Aside0.mk (below_step (by repeat (first | (with_reducible first | exact HB.out | apply ba_ | apply bd_ | apply be_ | refine below_set ?_ GE226.out) | exact HB.out)) hb)
                  clear HO245; clear BK226; clear HB; have HO245 := n0_
                  have HO248 := n1_
                  have BK226 := n2_
                  have HB := n3_
                  clear n0_ n1_ n2_ n3_; (try clear hb); (try clear hb2); (try clear hk); (try clear hi); (try clear ho0); obtain ⟨Ao110, co110, eo110⟩ := Kd.R_slice HO245.out
                  (first | subst eo110 | (injection eo110 with f1_ f2_ f3_; have f4_ := f1_.symm; have f5_ := f3_.symm; clear f1_ f2_ f3_; subst f4_; subst f5_))
                  obtain ⟨Ao111, co111, eo111⟩ := Kd.R_slice HO248.out
                  (first | subst eo111 | (injection eo111 with f1_ f2_ f3_; have f4_ := f1_.symm; have f5_ := f3_.symm; clear f1_ f2_ f3_; subst f4_; subst f5_))
                  refine hK.out _ _ ⟨(blk_cell BK226.out 0).trans rfl, (blk_cell BK226.out 1).trans rfl, (blk_cell BK226.out 2).trans rfl, (blk_cell BK226.out 3).trans rfl⟩ (fun hHeld => ?_)
                  clear hK K; refine norm_ (a' := ?_) ?_ ?_
                  rotate_left
                  · show Act.put _ (some 61) _ = _
                    simp only [Act.put, sa_, sb_, sc_, i64_w, i32_w]
                    rfl
                  refine one_ (i := 6) (N := some 62) #[true, true, true, true, true, true, true, false, false, false, false, false, false, false, false, false, false, false, false, false, false, false, false, false, false, false, false, false, false] rfl rfl (one_of HT_.out (by kernel_rfl)) (by decide) (fun K hK => ?_)
                  refine goes_ Try.func13 (by kernel_rfl) rfl #[.slice Ao110 t243.length co110, .slice Ao111 t246.length co111] (by rfl) rfl rfl (by (try simp only [List.map_toArray, List.map_cons, List.map_nil]); first | done | rfl | (simp only [List.length_drop, List.length_take]; rfl)) ?_
                  with_reducible refine (signalboxref03_Same.calls k2 _ _ t243 _ _ t246 true _ ?side1 ?side2 ?side3 ?side4 A79.out).mono ?_
                  (case side1 => repeat (first | exact (Kd.R_reads' HO245.out).2.2 | (with_reducible refine Kd.C_alloc ?_ _) | (with_reducible refine Kd.C_drewN ?_ _) | (with_reducible refine Kd.C_drew ?_)))
                  (case side2 => exact (Kd.R_reads' HO245.out).2.1)
                  (case side3 => repeat (first | exact (Kd.R_reads' HO248.out).2.2 | (with_reducible refine Kd.C_alloc ?_ _) | (with_reducible refine Kd.C_drewN ?_ _) | (with_reducible refine Kd.C_drew ?_)))
                  (case side4 => exact (Kd.R_reads' HO248.out).2.1)
                  rintro e w' ⟨rfl, ⟨nd, rfl⟩⟩
                  refine ⟨_, rfl, ?_⟩
                  refine hK.out _ _ ⟨(blk_cell BK226.out 0).trans rfl, (blk_cell BK226.out 1).trans rfl, (blk_cell BK226.out 2).trans rfl, (blk_cell BK226.out 3).trans rfl⟩ (fun hHeld => ?_)
                  clear hK K; refine norm_ (a' := ?_) ?_ ?_
                  rotate_left
                  · show Act.put _ (some 62) _ = _
                    simp only [Act.put, sa_, sb_, sc_, i64_w, i32_w]
                    rfl
                  refine pure_ (i := 7) (N := some 63) (v := ?_) (a' := ?_) #[true, true, true, true, true, true, true, true, false, false, false, false, false, false, false, false, false, false, false, false, false, false, false, false, false, false, false, false, false] rfl rfl (any_of HT_.out (by kernel_rfl)) (fun _ _ _ h => h) (Or.inl ⟨by rfl, ?_⟩) ?_ ?_
                  rotate_left
                  · intro w'
                    go_simp
                    with_reducible rfl
                  rotate_left
                  · simp only [Act.put, sa_, sb_, sc_, i64_w, i32_w]; rfl
                  refine pure_ (i := 8) (N := some 64) (v := ?_) (a' := ?_) #[true, true, true, true, true, true, true, true, true, false, false, false, false, false, false, false, false, false, false, false, false, false, false, false, false, false, false, false, false] rfl rfl (any_of HT_.out (by kernel_rfl)) (fun _ _ _ h => h) (Or.inl ⟨by rfl, ?_⟩) ?_ ?_
                  rotate_left
                  · intro w'
                    go_simp
                    with_reducible rfl
                  rotate_left
                  · simp only [Act.put, sa_, sb_, sc_, i64_w, i32_w]; rfl
                  refine pure_ (i := 9) (N := some 65) (v := ?_) (a' := ?_) #[true, true, true, true, true, true, true, true, true, true, false, false, false, false, false, false, false, false, false, false, false, false, false, false, false, false, false, false, false] rfl rfl (any_of HT_.out (by kernel_rfl)) (fun _ _ _ h => h) (Or.inl ⟨by rfl, ?_⟩) ?_ ?_
                  rotate_left
                  · intro w'
                    go_simp
                    with_reducible rfl
                  rotate_left
                  · simp only [Act.put, sa_, sb_, sc_, i64_w, i32_w]; rfl
                  refine pure_ (i := 11) (N := some 67) (v := ?_) (a' := ?_) #[true, true, true, true, true, true, true, true, true, true, false, true, false, false, false, false, false, false, false, false, false, false, false, false, false, false, false, false, false] rfl rfl (any_of HT_.out (by kernel_rfl)) (fun _ _ _ h => h) (Or.inl ⟨by rfl, ?_⟩) ?_ ?_
                  rotate_left
                  · intro w'
                    go_simp
                    with_reducible rfl
                  rotate_left
                  · simp only [Act.put, sa_, sb_, sc_, i64_w, i32_w]; rfl
                  refine pure_ (i := 12) (N := some 68) (v := ?_) (a' := ?_) #[true, true, true, true, true, true, true, true, true, true, false, true, true, false, false, false, false, false, false, false, false, false, false, false, false, false, false, false, false] rfl rfl (any_of HT_.out (by kernel_rfl)) (fun _ _ _ h => h) (Or.inl ⟨by rfl, ?_⟩) ?_ ?_
                  rotate_left
                  · intro w'
                    go_simp
                    with_reducible rfl
                  rotate_left
                  · simp only [Act.put, sa_, sb_, sc_, i64_w, i32_w]; rfl
                  refine one_ (i := 10) (N := some 66) #[true, true, true, true, true, true, true, true, true, true, true, true, true, false, false, false, false, false, false, false, false, false, false, false, false, false, false, false, false] rfl rfl (one_of HT_.out (by kernel_rfl)) (by decide) (fun K hK => ?_)
                  refine goes_ Try.func9 (by kernel_rfl) rfl #[.string a2, .string a3] (by rfl) rfl rfl (by (try simp only [List.map_toArray, List.map_cons, List.map_nil]); first | done | rfl | (simp only [List.length_drop, List.length_take]; rfl)) ?_
                  with_reducible refine (gate_Or.calls a2 a3 t250 _ A81.out).mono ?_
                  rintro e w112 ⟨rfl, hb⟩
                  refine ⟨_, rfl, ?_⟩
                  have n0_ := Aside0.mk (Kd.R_below (by (with_reducible repeat (first | apply Kd.R_alloc | apply Kd.R_drewN | apply Kd.R_drew)); exact HO245.out) hb)
                  have n1_ := Aside0.mk (Kd.R_below (by (with_reducible repeat (first | apply Kd.R_alloc | apply Kd.R_drewN | apply Kd.R_drew)); exact HO248.out) hb)
                  have n2_ := Aside0.mk (blk_below (g := gb226) (o := .cells #[.int .i64 a1_0, .int .i64 a1_1, .int .i64 a1_2, .string a1_3] 27 (0, 0)) (by (with_reducible repeat (first | refine kd_ ?_ _ | refine ke_ ?_ | refine ka_ ?_ _)); exact BK226.out) hb)
                  have n3_ := Aside0.mk (below_step (by repeat (first | (with_reducible first | exact HB.out | apply ba_ | apply bd_ | apply be_ | refine below_set ?_ GE226.out) | exact HB.out)) hb)
                  clear HO245; clear HO248; clear BK226; clear HB; have HO245 := n0_
                  have HO248 := n1_
                  have BK226 := n2_
                  have HB := n3_
                  clear n0_ n1_ n2_ n3_; (try clear hb); (try clear hb2); (try clear hk); (try clear hi); refine hK.out _ _ ⟨(blk_cell BK226.out 0).trans rfl, (blk_cell BK226.out 1).trans rfl, (blk_cell BK226.out 2).trans rfl, (blk_cell BK226.out 3).trans rfl⟩ (fun hHeld => ?_)
                  clear hK K; refine norm_ (a' := ?_) ?_ ?_
                  rotate_left
                  · show Act.put _ (some 66) _ = _
                    simp only [Act.put, sa_, sb_, sc_, i64_w, i32_w]
                    rfl
                  refine one_ (i := 13) (N := some 69) #[true, true, true, true, true, true, true, true, true, true, true, true, true, true, false, false, false, false, false, false, false, false, false, false, false, false, false, false, false] rfl rfl (one_of HT_.out (by kernel_rfl)) (by decide) (fun K hK => ?_)
                  refine goes_ Try.func16 (by kernel_rfl) rfl #[.string a2, .string a3, .int .i64 1] (by rfl) rfl rfl (by (try simp only [List.map_toArray, List.map_cons, List.map_nil]); first | done | rfl | (simp only [List.length_drop, List.length_take]; rfl)) ?_
                  with_reducible refine (signalboxref34_With.calls k2 a2 a3 1 t251 _ A82.out).mono ?_
                  rintro e w113 ⟨rfl, hb⟩
                  refine ⟨_, rfl, ?_⟩
                  have n0_ := Aside0.mk (Kd.R_below (by (with_reducible repeat (first | apply Kd.R_alloc | apply Kd.R_drewN | apply Kd.R_drew)); exact HO245.out) hb)
                  have n1_ := Aside0.mk (Kd.R_below (by (with_reducible repeat (first | apply Kd.R_alloc | apply Kd.R_drewN | apply Kd.R_drew)); exact HO248.out) hb)
                  have n2_ := Aside0.mk (blk_below (g := gb226) (o := .cells #[.int .i64 a1_0, .int .i64 a1_1, .int .i64 a1_2, .string a1_3] 27 (0, 0)) (by (with_reducible repeat (first | refine kd_ ?_ _ | refine ke_ ?_ | refine ka_ ?_ _)); exact BK226.out) hb)
                  have n3_ := Aside0.mk (below_step (by repeat (first | (with_reducible first | exact HB.out | apply ba_ | apply bd_ | apply be_ | refine below_set ?_ GE226.out) | exact HB.out)) hb)
                  clear HO245; clear HO248; clear BK226; clear HB; have HO245 := n0_
                  have HO248 := n1_
                  have BK226 := n2_
                  have HB := n3_
                  clear n0_ n1_ n2_ n3_; (try clear hb); (try clear hb2); (try clear hk); (try clear hi); refine hK.out _ _ ⟨(blk_cell BK226.out 0).trans rfl, (blk_cell BK226.out 1).trans rfl, (blk_cell BK226.out 2).trans rfl, (blk_cell BK226.out 3).trans rfl⟩ (fun hHeld => ?_)
                  clear hK K; refine norm_ (a' := ?_) ?_ ?_
                  rotate_left
                  · show Act.put _ (some 69) _ = _
                    simp only [Act.put, sa_, sb_, sc_, i64_w, i32_w]
                    rfl
                  refine pure_ (i := 14) (N := some 70) (v := ?_) (a' := ?_) #[true, true, true, true, true, true, true, true, true, true, true, true, true, true, true, false, false, false, false, false, false, false, false, false, false, false, false, false, false] rfl rfl (any_of HT_.out (by kernel_rfl)) (fun _ _ _ h => h) (Or.inl ⟨by rfl, ?_⟩) ?_ ?_
                  rotate_left
                  · intro w'
                    go_simp
                    with_reducible rfl
                  rotate_left
                  · simp only [Act.put, sa_, sb_, sc_, i64_w, i32_w]; rfl
                  refine pure_ (i := 15) (N := some 71) (v := ?_) (a' := ?_) #[true, true, true, true, true, true, true, true, true, true, true, true, true, true, true, true, false, false, false, false, false, false, false, false, false, false, false, false, false] rfl rfl (any_of HT_.out (by kernel_rfl)) (fun _ _ _ h => h) (Or.inl ⟨by rfl, ?_⟩) ?_ ?_
                  rotate_left
                  · intro w'
                    go_simp
                    with_reducible rfl
                  rotate_left
                  · simp only [Act.put, sa_, sb_, sc_, i64_w, i32_w]; rfl
                  refine pure_ (i := 16) (N := some 72) (v := ?_) (a' := ?_) #[true, true, true, true, true, true, true, true, true, true, true, true, true, true, true, true, true, false, false, false, false, false, false, false, false, false, false, false, false] rfl rfl (any_of HT_.out (by kernel_rfl)) (fun _ _ _ h => h) (Or.inl ⟨by rfl, ?_⟩) ?_ ?_
                  rotate_left
                  · intro w'
                    go_simp
                    with_reducible rfl
                  rotate_left
                  · simp only [Act.put, sa_, sb_, sc_, i64_w, i32_w]; rfl
                  refine pure_ (i := 17) (N := some 73) (v := undef) (a' := ?_) #[true, true, true, true, true, true, true, true, true, true, true, true, true, true, true, true, true, true, false, false, false, false, false, false, false, false, false, false, false] rfl rfl (any_of HT_.out (by kernel_rfl)) (fun _ _ _ h => h) (Or.inr ⟨by rfl, rfl⟩) ?_ ?_
                  rotate_left
                  · simp only [Act.put, sa_, sb_, sc_, i64_w, i32_w]; rfl
                  refine pure_ (i := 18) (N := some 74) (v := undef) (a' := ?_) #[true, true, true, true, true, true, true, true, true, true, true, true, true, true, true, true, true, true, true, false, false, false, false, false, false, false, false, false, false] rfl rfl (any_of HT_.out (by kernel_rfl)) (fun _ _ _ h => h) (Or.inr ⟨by rfl, rfl⟩) ?_ ?_
                  rotate_left
                  · simp only [Act.put, sa_, sb_, sc_, i64_w, i32_w]; rfl
                  refine pure_ (i := 19) (N := some 75) (v := undef) (a' := ?_) #[true, true, true, true, true, true, true, true, true, true, true, true, true, true, true, true, true, true, true, true, false, false, false, false, false, false, false, false, false] rfl rfl (any_of HT_.out (by kernel_rfl)) (fun _ _ _ h => h) (Or.inr ⟨by rfl, rfl⟩) ?_ ?_
                  rotate_left
                  · simp only [Act.put, sa_, sb_, sc_, i64_w, i32_w]; rfl
                  refine pure_ (i := 20) (N := some 76) (v := undef) (a' := ?_) #[true, true, true, true, true, true, true, true, true, true, true, true, true, true, true, true, true, true, true, true, true, false, false, false, false, false, false, false, false] rfl rfl (any_of HT_.out (by kernel_rfl)) (fun _ _ _ h => h) (Or.inr ⟨by rfl, rfl⟩) ?_ ?_
                  rotate_left
                  · simp only [Act.put, sa_, sb_, sc_, i64_w, i32_w]; rfl
                  refine pure_ (i := 21) (N := some 77) (v := undef) (a' := ?_) #[true, true, true, true, true, true, true, true, true, true, true, true, true, true, true, true, true, true, true, true, true, true, false, false, false, false, false, false, false] rfl rfl (any_of HT_.out (by kernel_rfl)) (fun _ _ _ h => h) (Or.inr ⟨by rfl, rfl⟩) ?_ ?_
                  rotate_left
                  · simp only [Act.put, sa_, sb_, sc_, i64_w, i32_w]; rfl
                  refine pure_ (i := 22) (N := some 78) (v := undef) (a' := ?_) #[true, true, true, true, true, true, true, true, true, true, true, true, true, true, true, true, true, true, true, true, true, true, true, false, false, false, false, false, false] rfl rfl (any_of HT_.out (by kernel_rfl)) (fun _ _ _ h => h) (Or.inr ⟨by rfl, rfl⟩) ?_ ?_
                  rotate_left
                  · simp only [Act.put, sa_, sb_, sc_, i64_w, i32_w]; rfl
                  refine pure_ (i := 23) (N := some 79) (v := undef) (a' := ?_) #[true, true, true, true, true, true, true, true, true, true, true, true, true, true, true, true, true, true, true, true, true, true, true, true, false, false, false, false, false] rfl rfl (any_of HT_.out (by kernel_rfl)) (fun _ _ _ h => h) (Or.inr ⟨by rfl, rfl⟩) ?_ ?_
                  rotate_left
                  · simp only [Act.put, sa_, sb_, sc_, i64_w, i32_w]; rfl
                  refine pure_ (i := 24) (N := some 80) (v := ?_) (a' := ?_) #[true, true, true, true, true, true, true, true, true, true, true, true, true, true, true, true, true, true, true, true, true, true, true, true, true, false, false, false, false] rfl rfl (any_of HT_.out (by kernel_rfl)) (fun _ _ _ h => h) (Or.inl ⟨by rfl, ?_⟩) ?_ ?_
                  rotate_left
                  · intro w'
                    go_simp
                    with_reducible rfl
                  rotate_left
                  · simp only [Act.put, sa_, sb_, sc_, i64_w, i32_w]; rfl
                  refine pure_ (i := 25) (N := some 81) (v := ?_) (a' := ?_) #[true, true, true, true, true, true, true, true, true, true, true, true, true, true, true, true, true, true, true, true, true, true, true, true, true, true, false, false, false] rfl rfl (any_of HT_.out (by kernel_rfl)) (fun _ _ _ h => h) (Or.inl ⟨by rfl, ?_⟩) ?_ ?_
                  rotate_left
                  · intro w'
                    go_simp
                    with_reducible rfl
                  rotate_left
                  · simp only [Act.put, sa_, sb_, sc_, i64_w, i32_w]; rfl
                  refine pure_ (i := 26) (N := some 82) (v := undef) (a' := ?_) #[true, true, true, true, true, true, true, true, true, true, true, true, true, true, true, true, true, true, true, true, true, true, true, true, true, true, true, false, false] rfl rfl (any_of HT_.out (by kernel_rfl)) (fun _ _ _ h => h) (Or.inr ⟨by rfl, rfl⟩) ?_ ?_
                  rotate_left
                  · simp only [Act.put, sa_, sb_, sc_, i64_w, i32_w]; rfl
                  refine pure_ (i := 27) (N := some 83) (v := ?_) (a' := ?_) #[true, true, true, true, true, true, true, true, true, true, true, true, true, true, true, true, true, true, true, true, true, true, true, true, true, true, true, true, false] rfl rfl (any_of HT_.out (by kernel_rfl)) (fun _ _ _ h => h) (Or.inl ⟨by rfl, ?_⟩) ?_ ?_
                  rotate_left
                  · intro w'
                    go_simp
                    with_reducible rfl
                  rotate_left
                  · simp only [Act.put, sa_, sb_, sc_, i64_w, i32_w]; rfl
                  refine pure_ (i := 28) (N := some 8) (v := ?_) (a' := ?_) #[true, true, true, true, true, true, true, true, true, true, true, true, true, true, true, true, true, true, true, true, true, true, true, true, true, true, true, true, true] rfl rfl (any_of HT_.out (by kernel_rfl)) (fun _ _ _ h => h) (Or.inl ⟨by rfl, ?_⟩) ?_ ?_
                  rotate_left
                  · intro w'
                    go_simp
                    with_reducible rfl
                  rotate_left
                  · simp only [Act.put, sa_, sb_, sc_, i64_w, i32_w]; rfl
                  refine done_ (done_of HT_.out (by kernel_rfl)) ?_
                  try go_wp2
                  go_ret
                  exact ⟨by first | rfl | (simp [errW_none, errW_some] <;> rfl) | (simp [*, errW_none, errW_some] <;> rfl), by repeat (first | (with_reducible first | exact HB.out | apply ba_ | apply bd_ | apply be_ | refine below_set ?_ GE226.out) | exact HB.out)⟩
              · replace c80 := Bool.eq_false_iff.mpr c80
                subst c80; have H1 : (some false) = some r := by rw [if_neg (show ¬ (false = true) by decide)] at H; exact H
                clear H; have H := H1
                clear H1; obtain rfl := Option.some.inj H
                try go_wp2
                have n0_ := Aside0.mk (blk_drew BK226.out)
                have n1_ := Aside0.mk (below_drew1 HB.out)
                clear BK226; clear HB; have BK226 := n0_
                have HB := n1_
                clear n0_ n1_; refine start_ (n := 29) (S := fun w' => w'.cell? ⟨gb226, 0, none⟩ = some (.int .i64 a1_0) ∧ w'.cell? ⟨gb226, 1, none⟩ = some (.int .i64 a1_1) ∧ w'.cell? ⟨gb226, 2, none⟩ = some (.int .i64 a1_2) ∧ w'.cell? ⟨gb226, 3, none⟩ = some (.string a1_3)) (ds := []) #[false, false, false, false, false, false, false, false, false, false, false, false, false, false, false, false, false, false, false, false, false, false, false, false, false, false, false, false, false] (by kernel_rfl) rfl rfl ⟨(blk_cell BK226.out 0).trans rfl, (blk_cell BK226.out 1).trans rfl, (blk_cell BK226.out 2).trans rfl, (blk_cell BK226.out 3).trans rfl⟩ (fun hHeld => ?_); refine with_tabW signalboxlaw34_GateTurns.tab11 signalboxlaw34_GateTurns.bits11 (fun HT_ HW_ => ?_)
                generalize wr.drew = w114 at BK226 HB hHeld ⊢
                refine pure_ (i := 0) (N := some 56) (v := ?_) (a' := ?_) #[true, false, false, false, false, false, false, false, false, false, false, false, false, false, false, false, false, false, false, false, false, false, false, false, false, false, false, false, false] rfl rfl (any_of HT_.out (by kernel_rfl)) (fun _ _ _ h => h) (Or.inl ⟨by rfl, ?_⟩) ?_ ?_
                rotate_left
                · intro w'
                  go_simp
                  with_reducible rfl
                rotate_left
                · simp only [Act.put, sa_, sb_, sc_, i64_w, i32_w]; rfl
                refine pure_ (i := 3) (N := some 59) (v := ?_) (a' := ?_) #[true, false, false, true, false, false, false, false, false, false, false, false, false, false, false, false, false, false, false, false, false, false, false, false, false, false, false, false, false] rfl rfl (any_of HT_.out (by kernel_rfl)) (fun _ _ _ h => h) (Or.inl ⟨by rfl, ?_⟩) ?_ ?_
                rotate_left
                · intro w'
                  go_simp
                  with_reducible rfl
                rotate_left
                · simp only [Act.put, sa_, sb_, sc_, i64_w, i32_w]; rfl
                refine take_ (i := 1) (N := some 57) (v := ?_) (a' := ?_) #[true, true, false, true, false, false, false, false, false, false, false, false, false, false, false, false, false, false, false, false, false, false, false, false, false, false, false, false, false] rfl rfl (take_ofW HT_.out HW_.out (by kernel_rfl)) (fun _ _ _ h => h) (Or.inl ⟨by rfl, ?_⟩) hHeld ?_ ?_
                rotate_left
                · rintro w' ⟨s0, s1, s2, s3⟩
                  go_simp
                  with_reducible rfl
                rotate_left
                · simp only [Act.put, sa_, sb_, sc_, i64_w, i32_w]; rfl
                refine take_ (i := 4) (N := some 60) (v := ?_) (a' := ?_) #[true, true, false, true, true, false, false, false, false, false, false, false, false, false, false, false, false, false, false, false, false, false, false, false, false, false, false, false, false] rfl rfl (take_ofW HT_.out HW_.out (by kernel_rfl)) (fun _ _ _ h => h) (Or.inl ⟨by rfl, ?_⟩) hHeld ?_ ?_
                rotate_left
                · rintro w' ⟨s0, s1, s2, s3⟩
                  go_simp
                  with_reducible rfl
                rotate_left
                · simp only [Act.put, sa_, sb_, sc_, i64_w, i32_w]; rfl
                refine one_ (i := 2) (N := some 58) #[true, true, true, true, true, false, false, false, false, false, false, false, false, false, false, false, false, false, false, false, false, false, false, false, false, false, false, false, false] rfl rfl (one_of HT_.out (by kernel_rfl)) (by decide) (fun K hK => ?_)
                refine goes_ Try.func14 (by kernel_rfl) rfl #[.slice A0 l0.length c0, .agg #[.int .i64 a1_0, .int .i64 a1_1, .int .i64 a1_2, .string a1_3]] (by rfl) rfl rfl (by (try simp only [List.map_toArray, List.map_cons, List.map_nil]); first | done | rfl | (simp only [List.length_drop, List.length_take]; rfl)) ?_
                with_reducible refine (gate_Route.calls k2 _ _ l0 a1_0 a1_1 a1_2 a1_3 t243 _ ?side1 ?side2 A77.out).mono ?_
                (case side1 => repeat (first | exact (Kd.C_below HR0.out HB.out) | (with_reducible refine Kd.C_alloc ?_ _) | (with_reducible refine Kd.C_drewN ?_ _) | (with_reducible refine Kd.C_drew ?_)))
                (case side2 => exact HC0.out)
                rintro e w115 ⟨v244, rfl, ho0, hb⟩
                refine ⟨_, rfl, ?_⟩
                have n0_ := Aside0.mk (Kd.R_lower (Kd.R_newB ho0 (g := gb226) (o := .cells #[.int .i64 a1_0, .int .i64 a1_1, .int .i64 a1_2, .string a1_3] 27 (0, 0)) (by (with_reducible repeat (first | refine kd_ ?_ _ | refine ke_ ?_ | refine ka_ ?_ _)); exact BK226.out)) (below_size (by repeat (first | (with_reducible first | exact HB.out | apply ba_ | apply bd_ | apply be_ | refine below_set ?_ GE226.out) | exact HB.out))))
                have n1_ := Aside0.mk (blk_below (g := gb226) (o := .cells #[.int .i64 a1_0, .int .i64 a1_1, .int .i64 a1_2, .string a1_3] 27 (0, 0)) (by (with_reducible repeat (first | refine kd_ ?_ _ | refine ke_ ?_ | refine ka_ ?_ _)); exact BK226.out) hb)
                have n2_ := Aside0.mk (below_step (by repeat (first | (with_reducible first | exact HB.out | apply ba_ | apply bd_ | apply be_ | refine below_set ?_ GE226.out) | exact HB.out)) hb)
                clear BK226; clear HB; have HO245 := n0_
                have BK226 := n1_
                have HB := n2_
                clear n0_ n1_ n2_; (try clear hb); (try clear hb2); (try clear hk); (try clear hi); (try clear ho0); refine hK.out _ _ ⟨(blk_cell BK226.out 0).trans rfl, (blk_cell BK226.out 1).trans rfl, (blk_cell BK226.out 2).trans rfl, (blk_cell BK226.out 3).trans rfl⟩ (fun hHeld => ?_)
                clear hK K; refine norm_ (a' := ?_) ?_ ?_
                rotate_left
                · show Act.put _ (some 58) _ = _
                  simp only [Act.put, sa_, sb_, sc_, i64_w, i32_w]
                  rfl
                refine one_ (i := 5) (N := some 61) #[true, true, true, true, true, true, false, false, false, false, false, false, false, false, false, false, false, false, false, false, false, false, false, false, false, false, false, false, false] rfl rfl (one_of HT_.out (by kernel_rfl)) (by decide) (fun K hK => ?_)
                refine goes_ Try.func15 (by kernel_rfl) rfl #[.slice A0 l0.length c0, .agg #[.int .i64 a1_0, .int .i64 a1_1, .int .i64 a1_2, .string a1_3]] (by rfl) rfl rfl (by (try simp only [List.map_toArray, List.map_cons, List.map_nil]); first | done | rfl | (simp only [List.length_drop, List.length_take]; rfl)) ?_
                with_reducible refine (signalboxref34_Route.calls k2 _ _ l0 a1_0 a1_1 a1_2 a1_3 t246 _ ?side1 ?side2 A78.out).mono ?_
                (case side1 => repeat (first | exact (Kd.C_below HR0.out HB.out) | (with_reducible refine Kd.C_alloc ?_ _) | (with_reducible refine Kd.C_drewN ?_ _) | (with_reducible refine Kd.C_drew ?_)))
                (case side2 => exact HC0.out)
                rintro e w116 ⟨v247, rfl, ho0, hb⟩
                refine ⟨_, rfl, ?_⟩
                have n0_ := Aside0.mk (Kd.R_elder' (by (with_reducible repeat (first | apply Kd.R_alloc | apply Kd.R_drewN | apply Kd.R_drew)); exact HO245.out) (Kd.R_base ho0) hb)
                have n1_ := Aside0.mk (Kd.R_lower (Kd.R_newB (Kd.R_new' ho0 (Kd.R_lt (by (with_reducible repeat (first | apply Kd.R_alloc | apply Kd.R_drewN | apply Kd.R_drew)); exact HO245.out))) (g := gb226) (o := .cells #[.int .i64 a1_0, .int .i64 a1_1, .int .i64 a1_2, .string a1_3] 27 (0, 0)) (by (with_reducible repeat (first | refine kd_ ?_ _ | refine ke_ ?_ | refine ka_ ?_ _)); exact BK226.out)) (below_size (by repeat (first | (with_reducible first | exact HB.out | apply ba_ | apply bd_ | apply be_ | refine below_set ?_ GE226.out) | exact HB.out))))
                have n2_ := Aside0.mk (blk_below (g := gb226) (o := .cells #[.int .i64 a1_0, .int .i64 a1_1, .int .i64 a1_2, .string a1_3] 27 (0, 0)) (by (with_reducible repeat (first | refine kd_ ?_ _ | refine ke_ ?_ | refine ka_ ?_ _)); exact BK226.out) hb)
                have n3_ := Aside0.mk (below_step (by repeat (first | (with_reducible first | exact HB.out | apply ba_ | apply bd_ | apply be_ | refine below_set ?_ GE226.out) | exact HB.out)) hb)
                clear HO245; clear BK226; clear HB; have HO245 := n0_
                have HO248 := n1_
                have BK226 := n2_
                have HB := n3_
                clear n0_ n1_ n2_ n3_; (try clear hb); (try clear hb2); (try clear hk); (try clear hi); (try clear ho0); obtain ⟨Ao117, co117, eo117⟩ := Kd.R_slice HO245.out
                (first | subst eo117 | (injection eo117 with f1_ f2_ f3_; have f4_ := f1_.symm; have f5_ := f3_.symm; clear f1_ f2_ f3_; subst f4_; subst f5_))
                obtain ⟨Ao118, co118, eo118⟩ := Kd.R_slice HO248.out
                (first | subst eo118 | (injection eo118 with f1_ f2_ f3_; have f4_ := f1_.symm; have f5_ := f3_.symm; clear f1_ f2_ f3_; subst f4_; subst f5_))
                refine hK.out _ _ ⟨(blk_cell BK226.out 0).trans rfl, (blk_cell BK226.out 1).trans rfl, (blk_cell BK226.out 2).trans rfl, (blk_cell BK226.out 3).trans rfl⟩ (fun hHeld => ?_)
                clear hK K; refine norm_ (a' := ?_) ?_ ?_
                rotate_left
                · show Act.put _ (some 61) _ = _
                  simp only [Act.put, sa_, sb_, sc_, i64_w, i32_w]
                  rfl
                refine one_ (i := 6) (N := some 62) #[true, true, true, true, true, true, true, false, false, false, false, false, false, false, false, false, false, false, false, false, false, false, false, false, false, false, false, false, false] rfl rfl (one_of HT_.out (by kernel_rfl)) (by decide) (fun K hK => ?_)
                refine goes_ Try.func13 (by kernel_rfl) rfl #[.slice Ao117 t243.length co117, .slice Ao118 t246.length co118] (by rfl) rfl rfl (by (try simp only [List.map_toArray, List.map_cons, List.map_nil]); first | done | rfl | (simp only [List.length_drop, List.length_take]; rfl)) ?_
                with_reducible refine (signalboxref03_Same.calls k2 _ _ t243 _ _ t246 false _ ?side1 ?side2 ?side3 ?side4 A79.out).mono ?_
                (case side1 => repeat (first | exact (Kd.R_reads' HO245.out).2.2 | (with_reducible refine Kd.C_alloc ?_ _) | (with_reducible refine Kd.C_drewN ?_ _) | (with_reducible refine Kd.C_drew ?_)))
                (case side2 => exact (Kd.R_reads' HO245.out).2.1)
                (case side3 => repeat (first | exact (Kd.R_reads' HO248.out).2.2 | (with_reducible refine Kd.C_alloc ?_ _) | (with_reducible refine Kd.C_drewN ?_ _) | (with_reducible refine Kd.C_drew ?_)))
                (case side4 => exact (Kd.R_reads' HO248.out).2.1)
                rintro e w' ⟨rfl, ⟨nd, rfl⟩⟩
                refine ⟨_, rfl, ?_⟩
                refine hK.out _ _ ⟨(blk_cell BK226.out 0).trans rfl, (blk_cell BK226.out 1).trans rfl, (blk_cell BK226.out 2).trans rfl, (blk_cell BK226.out 3).trans rfl⟩ (fun hHeld => ?_)
                clear hK K; refine norm_ (a' := ?_) ?_ ?_
                rotate_left
                · show Act.put _ (some 62) _ = _
                  simp only [Act.put, sa_, sb_, sc_, i64_w, i32_w]
                  rfl
                refine pure_ (i := 7) (N := some 63) (v := ?_) (a' := ?_) #[true, true, true, true, true, true, true, true, false, false, false, false, false, false, false, false, false, false, false, false, false, false, false, false, false, false, false, false, false] rfl rfl (any_of HT_.out (by kernel_rfl)) (fun _ _ _ h => h) (Or.inl ⟨by rfl, ?_⟩) ?_ ?_
                rotate_left
                · intro w'
                  go_simp
                  with_reducible rfl
                rotate_left
                · simp only [Act.put, sa_, sb_, sc_, i64_w, i32_w]; rfl
                refine pure_ (i := 8) (N := some 64) (v := undef) (a' := ?_) #[true, true, true, true, true, true, true, true, true, false, false, false, false, false, false, false, false, false, false, false, false, false, false, false, false, false, false, false, false] rfl rfl (any_of HT_.out (by kernel_rfl)) (fun _ _ _ h => h) (Or.inr ⟨by rfl, rfl⟩) ?_ ?_
                rotate_left
                · simp only [Act.put, sa_, sb_, sc_, i64_w, i32_w]; rfl
                refine pure_ (i := 9) (N := some 65) (v := undef) (a' := ?_) #[true, true, true, true, true, true, true, true, true, true, false, false, false, false, false, false, false, false, false, false, false, false, false, false, false, false, false, false, false] rfl rfl (any_of HT_.out (by kernel_rfl)) (fun _ _ _ h => h) (Or.inr ⟨by rfl, rfl⟩) ?_ ?_
                rotate_left
                · simp only [Act.put, sa_, sb_, sc_, i64_w, i32_w]; rfl
                refine pure_ (i := 10) (N := some 66) (v := undef) (a' := ?_) #[true, true, true, true, true, true, true, true, true, true, true, false, false, false, false, false, false, false, false, false, false, false, false, false, false, false, false, false, false] rfl rfl (any_of HT_.out (by kernel_rfl)) (fun _ _ _ h => h) (Or.inr ⟨by rfl, rfl⟩) ?_ ?_
                rotate_left
                · simp only [Act.put, sa_, sb_, sc_, i64_w, i32_w]; rfl
                refine pure_ (i := 11) (N := some 67) (v := undef) (a' := ?_) #[true, true, true, true, true, true, true, true, true, true, true, true, false, false, false, false, false, false, false, false, false, false, false, false, false, false, false, false, false] rfl rfl (any_of HT_.out (by kernel_rfl)) (fun _ _ _ h => h) (Or.inr ⟨by rfl, rfl⟩) ?_ ?_
                rotate_left
                · simp only [Act.put, sa_, sb_, sc_, i64_w, i32_w]; rfl
                refine pure_ (i := 12) (N := some 68) (v := undef) (a' := ?_) #[true, true, true, true, true, true, true, true, true, true, true, true, true, false, false, false, false, false, false, false, false, false, false, false, false, false, false, false, false] rfl rfl (any_of HT_.out (by kernel_rfl)) (fun _ _ _ h => h) (Or.inr ⟨by rfl, rfl⟩) ?_ ?_
                rotate_left
                · simp only [Act.put, sa_, sb_, sc_, i64_w, i32_w]; rfl
                refine pure_ (i := 13) (N := some 69) (v := undef) (a' := ?_) #[true, true, true, true, true, true, true, true, true, true, true, true, true, true, false, false, false, false, false, false, false, false, false, false, false, false, false, false, false] rfl rfl (any_of HT_.out (by kernel_rfl)) (fun _ _ _ h => h) (Or.inr ⟨by rfl, rfl⟩) ?_ ?_
                rotate_left
                · simp only [Act.put, sa_, sb_, sc_, i64_w, i32_w]; rfl
                refine pure_ (i := 14) (N := some 70) (v := undef) (a' := ?_) #[true, true, true, true, true, true, true, true, true, true, true, true, true, true, true, false, false, false, false, false, false, false, false, false, false, false, false, false, false] rfl rfl (any_of HT_.out (by kernel_rfl)) (fun _ _ _ h => h) (Or.inr ⟨by rfl, rfl⟩) ?_ ?_
                rotate_left
                · simp only [Act.put, sa_, sb_, sc_, i64_w, i32_w]; rfl
                refine pure_ (i := 15) (N := some 71) (v := ?_) (a' := ?_) #[true, true, true, true, true, true, true, true, true, true, true, true, true, true, true, true, false, false, false, false, false, false, false, false, false, false, false, false, false] rfl rfl (any_of HT_.out (by kernel_rfl)) (fun _ _ _ h => h) (Or.inl ⟨by rfl, ?_⟩) ?_ ?_
                rotate_left
                · intro w'
                  go_simp
                  with_reducible rfl
                rotate_left
                · simp only [Act.put, sa_, sb_, sc_, i64_w, i32_w]; rfl
                refine pure_ (i := 16) (N := some 72) (v := ?_) (a' := ?_) #[true, true, true, true, true, true, true, true, true, true, true, true, true, true, true, true, true, false, false, false, false, false, false, false, false, false, false, false, false] rfl rfl (any_of HT_.out (by kernel_rfl)) (fun _ _ _ h => h) (Or.inl ⟨by rfl, ?_⟩) ?_ ?_
                rotate_left
                · intro w'
                  go_simp
                  with_reducible rfl
                rotate_left
                · simp only [Act.put, sa_, sb_, sc_, i64_w, i32_w]; rfl
                refine pure_ (i := 17) (N := some 73) (v := undef) (a' := ?_) #[true, true, true, true, true, true, true, true, true, true, true, true, true, true, true, true, true, true, false, false, false, false, false, false, false, false, false, false, false] rfl rfl (any_of HT_.out (by kernel_rfl)) (fun _ _ _ h => h) (Or.inr ⟨by rfl, rfl⟩) ?_ ?_
                rotate_left
                · simp only [Act.put, sa_, sb_, sc_, i64_w, i32_w]; rfl
                refine pure_ (i := 18) (N := some 74) (v := undef) (a' := ?_) #[true, true, true, true, true, true, true, true, true, true, true, true, true, true, true, true, true, true, true, false, false, false, false, false, false, false, false, false, false] rfl rfl (any_of HT_.out (by kernel_rfl)) (fun _ _ _ h => h) (Or.inr ⟨by rfl, rfl⟩) ?_ ?_
                rotate_left
                · simp only [Act.put, sa_, sb_, sc_, i64_w, i32_w]; rfl
                refine pure_ (i := 19) (N := some 75) (v := undef) (a' := ?_) #[true, true, true, true, true, true, true, true, true, true, true, true, true, true, true, true, true, true, true, true, false, false, false, false, false, false, false, false, false] rfl rfl (any_of HT_.out (by kernel_rfl)) (fun _ _ _ h => h) (Or.inr ⟨by rfl, rfl⟩) ?_ ?_
                rotate_left
                · simp only [Act.put, sa_, sb_, sc_, i64_w, i32_w]; rfl
                refine pure_ (i := 20) (N := some 76) (v := undef) (a' := ?_) #[true, true, true, true, true, true, true, true, true, true, true, true, true, true, true, true, true, true, true, true, true, false, false, false, false, false, false, false, false] rfl rfl (any_of HT_.out (by kernel_rfl)) (fun _ _ _ h => h) (Or.inr ⟨by rfl, rfl⟩) ?_ ?_
                rotate_left
                · simp only [Act.put, sa_, sb_, sc_, i64_w, i32_w]; rfl
                refine pure_ (i := 21) (N := some 77) (v := undef) (a' := ?_) #[true, true, true, true, true, true, true, true, true, true, true, true, true, true, true, true, true, true, true, true, true, true, false, false, false, false, false, false, false] rfl rfl (any_of HT_.out (by kernel_rfl)) (fun _ _ _ h => h) (Or.inr ⟨by rfl, rfl⟩) ?_ ?_
                rotate_left
                · simp only [Act.put, sa_, sb_, sc_, i64_w, i32_w]; rfl
                refine pure_ (i := 22) (N := some 78) (v := undef) (a' := ?_) #[true, true, true, true, true, true, true, true, true, true, true, true, true, true, true, true, true, true, true, true, true, true, true, false, false, false, false, false, false] rfl rfl (any_of HT_.out (by kernel_rfl)) (fun _ _ _ h => h) (Or.inr ⟨by rfl, rfl⟩) ?_ ?_
                rotate_left
                · simp only [Act.put, sa_, sb_, sc_, i64_w, i32_w]; rfl
                refine pure_ (i := 23) (N := some 79) (v := undef) (a' := ?_) #[true, true, true, true, true, true, true, true, true, true, true, true, true, true, true, true, true, true, true, true, true, true, true, true, false, false, false, false, false] rfl rfl (any_of HT_.out (by kernel_rfl)) (fun _ _ _ h => h) (Or.inr ⟨by rfl, rfl⟩) ?_ ?_
                rotate_left
                · simp only [Act.put, sa_, sb_, sc_, i64_w, i32_w]; rfl
                refine pure_ (i := 24) (N := some 80) (v := ?_) (a' := ?_) #[true, true, true, true, true, true, true, true, true, true, true, true, true, true, true, true, true, true, true, true, true, true, true, true, true, false, false, false, false] rfl rfl (any_of HT_.out (by kernel_rfl)) (fun _ _ _ h => h) (Or.inl ⟨by rfl, ?_⟩) ?_ ?_
                rotate_left
                · intro w'
                  go_simp
                  with_reducible rfl
                rotate_left
                · simp only [Act.put, sa_, sb_, sc_, i64_w, i32_w]; rfl
                refine pure_ (i := 25) (N := some 81) (v := ?_) (a' := ?_) #[true, true, true, true, true, true, true, true, true, true, true, true, true, true, true, true, true, true, true, true, true, true, true, true, true, true, false, false, false] rfl rfl (any_of HT_.out (by kernel_rfl)) (fun _ _ _ h => h) (Or.inl ⟨by rfl, ?_⟩) ?_ ?_
                rotate_left
                · intro w'
                  go_simp
                  with_reducible rfl
                rotate_left
                · simp only [Act.put, sa_, sb_, sc_, i64_w, i32_w]; rfl
                refine pure_ (i := 26) (N := some 82) (v := undef) (a' := ?_) #[true, true, true, true, true, true, true, true, true, true, true, true, true, true, true, true, true, true, true, true, true, true, true, true, true, true, true, false, false] rfl rfl (any_of HT_.out (by kernel_rfl)) (fun _ _ _ h => h) (Or.inr ⟨by rfl, rfl⟩) ?_ ?_
                rotate_left
                · simp only [Act.put, sa_, sb_, sc_, i64_w, i32_w]; rfl
                refine pure_ (i := 27) (N := some 83) (v := ?_) (a' := ?_) #[true, true, true, true, true, true, true, true, true, true, true, true, true, true, true, true, true, true, true, true, true, true, true, true, true, true, true, true, false] rfl rfl (any_of HT_.out (by kernel_rfl)) (fun _ _ _ h => h) (Or.inl ⟨by rfl, ?_⟩) ?_ ?_
                rotate_left
                · intro w'
                  go_simp
                  with_reducible rfl
                rotate_left
                · simp only [Act.put, sa_, sb_, sc_, i64_w, i32_w]; rfl
                refine pure_ (i := 28) (N := some 8) (v := ?_) (a' := ?_) #[true, true, true, true, true, true, true, true, true, true, true, true, true, true, true, true, true, true, true, true, true, true, true, true, true, true, true, true, true] rfl rfl (any_of HT_.out (by kernel_rfl)) (fun _ _ _ h => h) (Or.inl ⟨by rfl, ?_⟩) ?_ ?_
                rotate_left
                · intro w'
                  go_simp
                  with_reducible rfl
                rotate_left
                · simp only [Act.put, sa_, sb_, sc_, i64_w, i32_w]; rfl
                refine done_ (done_of HT_.out (by kernel_rfl)) ?_
                try go_wp2
                go_ret
                exact ⟨by first | rfl | (simp [errW_none, errW_some] <;> rfl) | (simp [*, errW_none, errW_some] <;> rfl), by repeat (first | (with_reducible first | exact HB.out | apply ba_ | apply bd_ | apply be_ | refine below_set ?_ GE226.out) | exact HB.out)⟩
def ok31 (x : S31) : Prop := ((Lit.int .u32 x.f0).wf = true) ∧ ((Lit.int .u32 x.f1).wf = true) ∧ (True)
def ok33 (x : S33) : Prop := (ok31 x.f0) ∧ ((Lit.int .i64 x.f1).wf = true) ∧ (x.f2.size ≤ 140737488351232) ∧ (x.f3.size ≤ 140737488351232) ∧ (x.f4.size ≤ 140737488351232)
def ok27 (x : S27) : Prop := ((Lit.int .i64 x.f0).wf = true) ∧ ((Lit.int .i64 x.f1).wf = true) ∧ ((Lit.int .i64 x.f2).wf = true) ∧ (x.f3.size ≤ 140737488351232)
def signalboxlaw34_GateTurns.Pure : Prop := ∀ (l0 : List (S33)) (a1_0 : Int) (a1_1 : Int) (a1_2 : Int) (a1_3 : ByteArray) (a2 : ByteArray) (a3 : ByteArray), l0.length ≤ maxLen → l0.length * 72 ≤ 140737488351232 → ((∀ x ∈ l0, (ok33 x))) → (Lit.int .i64 a1_0).wf = true → (Lit.int .i64 a1_1).wf = true → (Lit.int .i64 a1_2).wf = true → a1_3.size ≤ 140737488351232 → a2.size ≤ 140737488351232 → a3.size ≤ 140737488351232 → ∃ k, signalboxlaw34_GateTurns.f k l0 a1_0 a1_1 a1_2 a1_3 a2 a3 = some true

end Go.Proofs.Ytbgfailobnbehaa.PGateTurns
