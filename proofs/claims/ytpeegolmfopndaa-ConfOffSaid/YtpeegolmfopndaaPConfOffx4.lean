-- Laid by a program of the session over the kit's print. Not trusted: Lean checks it.
import Derived.Test.YtpeegolmfopndaaPConfOffx0
import Derived.Test.YtpeegolmfopndaaPConfOffx1
import Derived.Test.YtpeegolmfopndaaPConfOffx2
import Derived.Test.YtpeegolmfopndaaPConfOffx3
namespace Go.Proofs.Ytpeegolmfopndaa.PConfOff
open Go.RowKit Go.Proofs.YtpeegolmfopndaaW.PrintWords Go.Proofs.YtpeegolmfopndaaW.PrintLast Go.Proofs.YtpeegolmfopndaaW.PrintMore
attribute [local go_sem] max2_int min2_int max_two min_two max_three min_three max_four min_four   -- for this text's walks alone
set_option linter.unusedVariables false
set_option linter.unusedSimpArgs false

attribute [local go_sem high] eqA23
/-! ### signalboxlaw10_ConfOff: function 4 -/
mutual
def signalboxlaw10_ConfOff.j0 : Nat → Int → Int → Bool → Option (Bool)
  | 0, _, _, _ => none
  | k + 1, x0, x1, x20 => if x20 = true then ((signalboxlaw10_alive.f k).bind fun t126 => (some t126)) else (signalboxlaw10_ConfOff.l0 k x0 x1 x0 0 0 0 false 0)
def signalboxlaw10_ConfOff.l0 : Nat → Int → Int → Int → Int → Int → Int → Bool → Int → Option (Bool)
  | 0, _, _, _, _, _, _, _, _ => none
  | k + 1, x0, x1, x22, x23, x128000, x128001, x128002, x128003 => if x23 < x22 then ((conf_Failed.f k x128000 x128001 x128002 x128003).bind fun bt128 => (signalboxlaw10_ConfOff.l0 k x0 x1 x22 (wrap64 (x23 + 1)) bt128.1 bt128.2.1 bt128.2.2.1 bt128.2.2.2)) else ((conf_State.f k x128000 x128001 x128002 x128003).bind fun t132 => (if ((decide (t132 ≥ 2)) != (decide (x0 ≥ 16))) = true then (signalboxlaw10_ConfOff.j2 k x0 x1 true x128000 x128001 x128002 x128003) else (signalboxlaw10_ConfOff.j2 k x0 x1 (x128002 != (decide (x0 ≥ 32))) x128000 x128001 x128002 x128003)))
def signalboxlaw10_ConfOff.j2 : Nat → Int → Int → Bool → Int → Int → Bool → Int → Option (Bool)
  | 0, _, _, _, _, _, _, _ => none
  | k + 1, x0, x1, x40, x128000, x128001, x128002, x128003 => if x40 = true then (some false) else (signalboxlaw10_ConfOff.l1 k x0 x1 1 x128000 x128001 x128002 x128003)
def signalboxlaw10_ConfOff.l1 : Nat → Int → Int → Int → Int → Int → Bool → Int → Option (Bool)
  | 0, _, _, _, _, _, _, _ => none
  | k + 1, x0, x1, x6, x128000, x128001, x128002, x128003 => if x6 ≤ x1 then ((conf_Idle.f k x128000 x128001 x128002 x128003 x1).bind fun bt133 => (if x0 ≥ 32 then (if (bt133.2.2.1 != (decide (x6 < x1))) = true then (some false) else (signalboxlaw10_ConfOff.l1 k x0 x1 (wrap64 (x6 + 1)) bt133.1 bt133.2.1 bt133.2.2.1 bt133.2.2.2)) else (if (bt133.2.2.1 != false) = true then (some false) else (signalboxlaw10_ConfOff.l1 k x0 x1 (wrap64 (x6 + 1)) bt133.1 bt133.2.1 bt133.2.2.1 bt133.2.2.2)))) else (if x0 < 32 then ((signalboxlaw10_alive.f k).bind fun t137 => (some t137)) else (if (x128000 == 0 && (x128001 == 0 && (!x128002 && (x128003 == 0)))) = true then ((signalboxlaw10_alive.f k).bind fun t138 => (some t138)) else (some false)))
end
def signalboxlaw10_ConfOff.f (k : Nat) (a0 : Int) (a1 : Int) : Option (Bool) := if a0 < 0 then (signalboxlaw10_ConfOff.j0 k a0 a1 true) else (if a0 > 60 then (signalboxlaw10_ConfOff.j0 k a0 a1 true) else (if a1 < 1 then (signalboxlaw10_ConfOff.j0 k a0 a1 true) else (signalboxlaw10_ConfOff.j0 k a0 a1 (decide (a1 > 60)))))
theorem signalboxlaw10_ConfOff.mono_l : ∀ k, (∀ y0 y1 y2, LeO (signalboxlaw10_ConfOff.j0 k y0 y1 y2) (signalboxlaw10_ConfOff.j0 (k + 1) y0 y1 y2)) ∧ (∀ y0 y1 y2 y3 y4 y5 y6 y7, LeO (signalboxlaw10_ConfOff.l0 k y0 y1 y2 y3 y4 y5 y6 y7) (signalboxlaw10_ConfOff.l0 (k + 1) y0 y1 y2 y3 y4 y5 y6 y7)) ∧ (∀ y0 y1 y2 y3 y4 y5 y6, LeO (signalboxlaw10_ConfOff.j2 k y0 y1 y2 y3 y4 y5 y6) (signalboxlaw10_ConfOff.j2 (k + 1) y0 y1 y2 y3 y4 y5 y6)) ∧ (∀ y0 y1 y2 y3 y4 y5 y6, LeO (signalboxlaw10_ConfOff.l1 k y0 y1 y2 y3 y4 y5 y6) (signalboxlaw10_ConfOff.l1 (k + 1) y0 y1 y2 y3 y4 y5 y6))
  | 0 => ⟨fun _ _ _ r h => by simp [signalboxlaw10_ConfOff.j0] at h, fun _ _ _ _ _ _ _ _ r h => by simp [signalboxlaw10_ConfOff.l0] at h, fun _ _ _ _ _ _ _ r h => by simp [signalboxlaw10_ConfOff.j2] at h, fun _ _ _ _ _ _ _ r h => by simp [signalboxlaw10_ConfOff.l1] at h⟩
  | k + 1 => by
    obtain ⟨ih0, ih1, ih2, ih3⟩ := signalboxlaw10_ConfOff.mono_l k
    refine ⟨?_, ?_, ?_, ?_⟩
    · intro y0 y1 y2
      unfold signalboxlaw10_ConfOff.j0
      repeat' first
      | (with_reducible exact ih0 _ _ _)
      | (with_reducible exact ih1 _ _ _ _ _ _ _ _)
      | (with_reducible exact ih2 _ _ _ _ _ _ _)
      | (with_reducible exact ih3 _ _ _ _ _ _ _)
      | (with_reducible exact conf_Failed.mono _ _ _ _ _)
      | (with_reducible exact conf_Idle.mono _ _ _ _ _ _)
      | (with_reducible exact conf_State.mono _ _ _ _ _)
      | (with_reducible exact signalboxlaw10_alive.mono _)
      | (with_reducible exact LeO.refl _)
      | (with_reducible exact LeO.none _)
      | (with_reducible refine LeO.ite ?_ ?_)
      | (with_reducible refine LeO.bind ?_ (fun _ => ?_))
      | exact ih0 _ _ _
      | exact ih1 _ _ _ _ _ _ _ _
      | exact ih2 _ _ _ _ _ _ _
      | exact ih3 _ _ _ _ _ _ _
      | exact conf_Failed.mono _ _ _ _ _
      | exact conf_Idle.mono _ _ _ _ _ _
      | exact conf_State.mono _ _ _ _ _
      | exact signalboxlaw10_alive.mono _
      | exact LeO.none _
      | refine LeO.ite ?_ ?_
      | refine LeO.bind ?_ (fun _ => ?_)
    · intro y0 y1 y2 y3 y4 y5 y6 y7
      unfold signalboxlaw10_ConfOff.l0
      repeat' first
      | (with_reducible exact ih0 _ _ _)
      | (with_reducible exact ih1 _ _ _ _ _ _ _ _)
      | (with_reducible exact ih2 _ _ _ _ _ _ _)
      | (with_reducible exact ih3 _ _ _ _ _ _ _)
      | (with_reducible exact conf_Failed.mono _ _ _ _ _)
      | (with_reducible exact conf_Idle.mono _ _ _ _ _ _)
      | (with_reducible exact conf_State.mono _ _ _ _ _)
      | (with_reducible exact signalboxlaw10_alive.mono _)
      | (with_reducible exact LeO.refl _)
      | (with_reducible exact LeO.none _)
      | (with_reducible refine LeO.ite ?_ ?_)
      | (with_reducible refine LeO.bind ?_ (fun _ => ?_))
      | exact ih0 _ _ _
      | exact ih1 _ _ _ _ _ _ _ _
      | exact ih2 _ _ _ _ _ _ _
      | exact ih3 _ _ _ _ _ _ _
      | exact conf_Failed.mono _ _ _ _ _
      | exact conf_Idle.mono _ _ _ _ _ _
      | exact conf_State.mono _ _ _ _ _
      | exact signalboxlaw10_alive.mono _
      | exact LeO.none _
      | refine LeO.ite ?_ ?_
      | refine LeO.bind ?_ (fun _ => ?_)
    · intro y0 y1 y2 y3 y4 y5 y6
      unfold signalboxlaw10_ConfOff.j2
      repeat' first
      | (with_reducible exact ih0 _ _ _)
      | (with_reducible exact ih1 _ _ _ _ _ _ _ _)
      | (with_reducible exact ih2 _ _ _ _ _ _ _)
      | (with_reducible exact ih3 _ _ _ _ _ _ _)
      | (with_reducible exact conf_Failed.mono _ _ _ _ _)
      | (with_reducible exact conf_Idle.mono _ _ _ _ _ _)
      | (with_reducible exact conf_State.mono _ _ _ _ _)
      | (with_reducible exact signalboxlaw10_alive.mono _)
      | (with_reducible exact LeO.refl _)
      | (with_reducible exact LeO.none _)
      | (with_reducible refine LeO.ite ?_ ?_)
      | (with_reducible refine LeO.bind ?_ (fun _ => ?_))
      | exact ih0 _ _ _
      | exact ih1 _ _ _ _ _ _ _ _
      | exact ih2 _ _ _ _ _ _ _
      | exact ih3 _ _ _ _ _ _ _
      | exact conf_Failed.mono _ _ _ _ _
      | exact conf_Idle.mono _ _ _ _ _ _
      | exact conf_State.mono _ _ _ _ _
      | exact signalboxlaw10_alive.mono _
      | exact LeO.none _
      | refine LeO.ite ?_ ?_
      | refine LeO.bind ?_ (fun _ => ?_)
    · intro y0 y1 y2 y3 y4 y5 y6
      unfold signalboxlaw10_ConfOff.l1
      repeat' first
      | (with_reducible exact ih0 _ _ _)
      | (with_reducible exact ih1 _ _ _ _ _ _ _ _)
      | (with_reducible exact ih2 _ _ _ _ _ _ _)
      | (with_reducible exact ih3 _ _ _ _ _ _ _)
      | (with_reducible exact conf_Failed.mono _ _ _ _ _)
      | (with_reducible exact conf_Idle.mono _ _ _ _ _ _)
      | (with_reducible exact conf_State.mono _ _ _ _ _)
      | (with_reducible exact signalboxlaw10_alive.mono _)
      | (with_reducible exact LeO.refl _)
      | (with_reducible exact LeO.none _)
      | (with_reducible refine LeO.ite ?_ ?_)
      | (with_reducible refine LeO.bind ?_ (fun _ => ?_))
      | exact ih0 _ _ _
      | exact ih1 _ _ _ _ _ _ _ _
      | exact ih2 _ _ _ _ _ _ _
      | exact ih3 _ _ _ _ _ _ _
      | exact conf_Failed.mono _ _ _ _ _
      | exact conf_Idle.mono _ _ _ _ _ _
      | exact conf_State.mono _ _ _ _ _
      | exact signalboxlaw10_alive.mono _
      | exact LeO.none _
      | refine LeO.ite ?_ ?_
      | refine LeO.bind ?_ (fun _ => ?_)
theorem signalboxlaw10_ConfOff.mono : ∀ a0 a1 k, LeO (signalboxlaw10_ConfOff.f k a0 a1) (signalboxlaw10_ConfOff.f (k + 1) a0 a1) := by
  intro a0 a1 k
  obtain ⟨ih0, ih1, ih2, ih3⟩ := signalboxlaw10_ConfOff.mono_l k
  unfold signalboxlaw10_ConfOff.f
  repeat' first
      | (with_reducible exact ih0 _ _ _)
      | (with_reducible exact ih1 _ _ _ _ _ _ _ _)
      | (with_reducible exact ih2 _ _ _ _ _ _ _)
      | (with_reducible exact ih3 _ _ _ _ _ _ _)
      | (with_reducible exact conf_Failed.mono _ _ _ _ _)
      | (with_reducible exact conf_Idle.mono _ _ _ _ _ _)
      | (with_reducible exact conf_State.mono _ _ _ _ _)
      | (with_reducible exact signalboxlaw10_alive.mono _)
      | (with_reducible exact LeO.refl _)
      | (with_reducible exact LeO.none _)
      | (with_reducible refine LeO.ite ?_ ?_)
      | (with_reducible refine LeO.bind ?_ (fun _ => ?_))
      | exact ih0 _ _ _
      | exact ih1 _ _ _ _ _ _ _ _
      | exact ih2 _ _ _ _ _ _ _
      | exact ih3 _ _ _ _ _ _ _
      | exact conf_Failed.mono _ _ _ _ _
      | exact conf_Idle.mono _ _ _ _ _ _
      | exact conf_State.mono _ _ _ _ _
      | exact signalboxlaw10_alive.mono _
      | exact LeO.none _
      | refine LeO.ite ?_ ?_
      | refine LeO.bind ?_ (fun _ => ?_)
set_option maxHeartbeats 8000000 in
set_option maxRecDepth 100000 in
theorem signalboxlaw10_ConfOff.calls (k : Nat) (a0 : Int) (a1 : Int) (r : Bool) (w : World) (h : signalboxlaw10_ConfOff.f k a0 a1 = some r) :
    Calls Try.prog 4 #[.int .i64 a0, .int .i64 a1] w fun e w' => e = .returned (.bool r) ∧ Below w.heap.size w w' := by
  have hu23 := Try.underlying23
  have HB := Aside0.mk (Below.refl w.heap.size w)
  have H : (if a0 < 0 then (signalboxlaw10_ConfOff.j0 k a0 a1 true) else (if a0 > 60 then (signalboxlaw10_ConfOff.j0 k a0 a1 true) else (if a1 < 1 then (signalboxlaw10_ConfOff.j0 k a0 a1 true) else (signalboxlaw10_ConfOff.j0 k a0 a1 (decide (a1 > 60)))))) = some r := h
  clear h
  have HC3 := Aside0.mk H
  clear H
  go_enter Try.func4, Try.ntmps4
  go_upto_region 1 with (fail)
  go_cut [20] (fun v20 wc => ∃ (kq : Nat) (x20_2 : Bool), v20 = .bool x20_2 ∧ Aside0 (signalboxlaw10_ConfOff.j0 kq a0 a1 x20_2 = some r) ∧ Aside0 (kq ≤ k) ∧ Aside0 (Below w.heap.size w wc))
  case first =>
    have H := HC3.out
    clear HC3
    by_cases c4 : a0 < 0
    · rw [if_pos c4] at H
      have c4b0 : decide (a0 < 0) = true := decide_eq_true c4
      clear c4
      (first | rw [c4b0] | (simp only [i64_w, i32_w]; rw [c4b0]) | skip)
      have H' := Aside0.mk H
      clear H
      go_wp2
      go_meet
      case rel => exact ⟨_, (true), (by first | rfl | (simp; done) | (simp [*]; done)), H', ⟨by first | omega | exact Nat.le_refl _⟩, ⟨by repeat (first | (with_reducible first | exact HB.out | apply below_alloc | apply pw_below_drewN | apply below_drew1) | exact HB.out)⟩⟩
    · rw [if_neg c4] at H
      have c4b0 : decide (a0 < 0) = false := decide_eq_false c4
      clear c4
      (first | rw [c4b0] | (simp only [i64_w, i32_w]; rw [c4b0]) | skip)
      by_cases c5 : a0 > 60
      · rw [if_pos c5] at H
        have c5b0 : decide (60 < a0) = true := decide_eq_true c5
        clear c5
        have H' := Aside0.mk H
        clear H
        go_wp2
        go_meet
        case rel => exact ⟨_, (true), (by first | rfl | (simp; done) | (simp [*]; done)), H', ⟨by first | omega | exact Nat.le_refl _⟩, ⟨by repeat (first | (with_reducible first | exact HB.out | apply below_alloc | apply pw_below_drewN | apply below_drew1) | exact HB.out)⟩⟩
      · rw [if_neg c5] at H
        have c5b0 : decide (60 < a0) = false := decide_eq_false c5
        clear c5
        by_cases c6 : a1 < 1
        · rw [if_pos c6] at H
          have c6b0 : decide (a1 < 1) = true := decide_eq_true c6
          clear c6
          have H' := Aside0.mk H
          clear H
          go_wp2
          go_meet
          case rel => exact ⟨_, (true), (by first | rfl | (simp; done) | (simp [*]; done)), H', ⟨by first | omega | exact Nat.le_refl _⟩, ⟨by repeat (first | (with_reducible first | exact HB.out | apply below_alloc | apply pw_below_drewN | apply below_drew1) | exact HB.out)⟩⟩
        · rw [if_neg c6] at H
          have c6b0 : decide (a1 < 1) = false := decide_eq_false c6
          clear c6
          have H' := Aside0.mk H
          clear H
          go_wp2
          go_meet
          case rel => exact ⟨_, (decide (a1 > 60)), (by first | rfl | (simp; done) | (simp [*]; done)), H', ⟨by first | omega | exact Nat.le_refl _⟩, ⟨by repeat (first | (with_reducible first | exact HB.out | apply below_alloc | apply pw_below_drewN | apply below_drew1) | exact HB.out)⟩⟩
  case rest =>
    clear HC3
    try clear p2
    try clear c4
    try clear c4b0
    try clear c5
    try clear c5b0
    try clear c6
    try clear c6b0
    obtain ⟨kq, x20_2, rfl, HA, HJ2, HB⟩ := hcut
    cases kq with
    | zero => exact absurd HA.out (by simp [signalboxlaw10_ConfOff.j0])
    | succ kj2 =>
      have H := HA.out
      clear HA
      simp only [signalboxlaw10_ConfOff.j0] at H
      by_cases c7 : x20_2 = true
      · subst c7
        have H1 : ((signalboxlaw10_alive.f kj2).bind fun t126 => (some t126)) = some r := by rw [if_pos rfl] at H; exact H
        clear H
        have H := H1
        clear H1
        replace H := Option.bind_eq_some_iff.mp H
        obtain ⟨t126, A80, H⟩ := H
        replace H : (some t126) = some r := H
        have A8 := Aside0.mk A80
        clear A80
        obtain rfl := Option.some.inj H
        go_wp2_with (first | ((with_reducible refine gate_callee (f := 12) rfl ?_); refine goesL_ (some 21) rfl rfl Try.func12 (by kernel_rfl) rfl #[] rfl (by (try simp only [List.map_toArray, List.map_cons, List.map_nil]); first | done | rfl | (simp only [List.length_drop, List.length_take]; rfl)) ?_; (with_reducible refine (signalboxlaw10_alive.calls kj2  t126 _ A8.out).mono ?_); rintro e w9 ⟨rfl, hb⟩; refine ⟨_, rfl, ?_⟩; have n0_ := Aside0.mk (below_step (by repeat (first | (with_reducible first | exact HB.out | apply below_alloc | apply pw_below_drewN | apply below_drew1) | exact HB.out)) hb); clear HB; have HB := n0_; clear n0_; (try clear hb); (try clear hb2); (try clear hk); (try clear hi)))
        go_ret
        exact ⟨by first | rfl | (simp [errW_none, errW_some] <;> rfl) | (simp [*, errW_none, errW_some] <;> rfl), by repeat (first | (with_reducible first | exact HB.out | apply below_alloc | apply pw_below_drewN | apply below_drew1) | exact HB.out)⟩
      · replace c7 := Bool.eq_false_iff.mpr c7
        subst c7
        have H1 : (signalboxlaw10_ConfOff.l0 kj2 a0 a1 a0 0 0 0 false 0) = some r := by rw [if_neg (show ¬ (false = true) by decide)] at H; exact H
        clear H
        have H := H1
        clear H1
        have H' := Aside0.mk H
        clear H
        go_wp2_with (first | ((with_reducible refine gate_dst (N := 5) rfl ?_); refine box_event ?hg (N := 5) ?hd (cs := #[.int .i64 0, .int .i64 0, .bool false, .int .i64 0]) (t := 23) ?hr ?_; (case hd => rfl); (case hg => rfl); (case hr => first | (go_simp; done) | (go_simp; rfl)); intro gb127 hg w10 hbox hb; have n0_ := Aside0.mk (below_step (by repeat (first | (with_reducible first | exact HB.out | apply below_alloc | apply pw_below_drewN | apply below_drew1) | exact HB.out)) hb); have n1_ := Aside0.mk (hbox); have n2_ := Aside0.mk ((by rw [hg]; exact (below_size (by repeat (first | (with_reducible first | exact HB.out | apply below_alloc | apply pw_below_drewN | apply below_drew1) | exact HB.out))) : w.heap.size ≤ gb127)); have n3_ := Aside0.mk ((by rw [hg]; exact (below_size (by repeat (first | (with_reducible first | exact HB.out | apply below_alloc | apply pw_below_drewN | apply below_drew1) | exact HB.out))) : w.heap.size ≤ gb127)); clear HB; have HB := n0_; have BK127 := n1_; have GW127 := n2_; have GE127 := n3_; clear n0_ n1_ n2_ n3_; clear hb hbox hg))
        go_loopg [23] kj2 (fun kq v23 w' => ∃ (x23_2 : Int) (x128000_2 : Int) (x128001_2 : Int) (x128002_2 : Bool) (x128003_2 : Int), v23 = .int .i64 x23_2 ∧ Aside0 (signalboxlaw10_ConfOff.l0 kq a0 a1 a0 x23_2 x128000_2 x128001_2 x128002_2 x128003_2 = some r) ∧ Aside0 (kq ≤ kj2) ∧ Aside0 (w'.heap[gb127]? = some (.cells #[.int .i64 x128000_2, .int .i64 x128001_2, .bool x128002_2, .int .i64 x128003_2] 23 (0, 0))) ∧ Aside0 (Below w.heap.size w w'))
        case atStart => exact ⟨(0), (0), (0), (false), (0), (by first | rfl | (simp; done) | (simp [*]; done)), H', ⟨Nat.le_refl _⟩, ⟨by (with_reducible repeat (first | refine blk_drewN ?_ _ | refine blk_drew ?_ | refine blk_alloc ?_ _)); exact BK127.out⟩, ⟨by repeat (first | (with_reducible first | exact HB.out | apply below_alloc | apply pw_below_drewN | apply below_drew1 | refine below_set ?_ GE127.out) | exact HB.out)⟩⟩
        case round =>
          clear H'
          try clear c1
          try clear p2
          try clear c4
          try clear c4b0
          try clear c5
          try clear c5b0
          try clear c6
          try clear c6b0
          try clear c7
          try clear p2
          obtain ⟨x23_2, x128000_2, x128001_2, x128002_2, x128003_2, rfl, HA, HK2, BK127, HB⟩ := hrel
          cases gk with
          | zero => exact absurd HA.out (by simp [signalboxlaw10_ConfOff.l0])
          | succ k2 =>
            have H := HA.out
            clear HA
            simp only [signalboxlaw10_ConfOff.l0] at H
            by_cases c11 : x23_2 < a0
            · rw [if_pos c11] at H
              have c11b0 : decide (x23_2 < a0) = true := decide_eq_true c11
              clear c11
              replace H := Option.bind_eq_some_iff.mp H
              obtain ⟨⟨t128, t129, t130, t131⟩, A120, H⟩ := H
              replace H : (signalboxlaw10_ConfOff.l0 k2 a0 a1 a0 (wrap64 (x23_2 + 1)) t128 t129 t130 t131) = some r := H
              have A12 := Aside0.mk A120
              clear A120
              have H' := Aside0.mk H
              clear H
              have hcz13_0 : wr.cell? ⟨gb127, 0, none⟩ = some (.int .i64 x128000_2) := (blk_cell BK127.out 0).trans rfl
              have hcz13_1 : wr.cell? ⟨gb127, 1, none⟩ = some (.int .i64 x128001_2) := (blk_cell BK127.out 1).trans rfl
              have hcz13_2 : wr.cell? ⟨gb127, 2, none⟩ = some (.bool x128002_2) := (blk_cell BK127.out 2).trans rfl
              have hcz13_3 : wr.cell? ⟨gb127, 3, none⟩ = some (.int .i64 x128003_2) := (blk_cell BK127.out 3).trans rfl
              have hfz13_0 := blk_frozen BK127.out 0
              have hfz13_1 := blk_frozen BK127.out 1
              have hfz13_2 := blk_frozen BK127.out 2
              have hfz13_3 := blk_frozen BK127.out 3
              go_wp2_with (first | ((with_reducible refine gate_callee (f := 13) rfl ?_); refine goesL_ (some 26) rfl rfl Try.func13 (by kernel_rfl) rfl #[.agg #[.int .i64 x128000_2, .int .i64 x128001_2, .bool x128002_2, .int .i64 x128003_2]] rfl (by (try simp only [List.map_toArray, List.map_cons, List.map_nil]); first | done | rfl | (simp only [List.length_drop, List.length_take]; rfl)) ?_; (with_reducible refine (conf_Failed.calls k2 x128000_2 x128001_2 x128002_2 x128003_2 t128 t129 t130 t131 _ A12.out).mono ?_); rintro e w14 ⟨rfl, hb⟩; refine ⟨_, rfl, ?_⟩; have n0_ := Aside0.mk (blk_below (g := gb127) (o := .cells #[.int .i64 x128000_2, .int .i64 x128001_2, .bool x128002_2, .int .i64 x128003_2] 23 (0, 0)) (by (with_reducible repeat (first | refine blk_drewN ?_ _ | refine blk_drew ?_ | refine blk_alloc ?_ _)); exact BK127.out) hb); have n1_ := Aside0.mk (below_step (by repeat (first | (with_reducible first | exact HB.out | apply below_alloc | apply pw_below_drewN | apply below_drew1 | refine below_set ?_ GE127.out) | exact HB.out)) hb); clear BK127; clear HB; have BK127 := n0_; have HB := n1_; clear n0_ n1_; (try clear hb); (try clear hb2); (try clear hk); (try clear hi); have hcz15_0 : w14.cell? ⟨gb127, 0, none⟩ = some (.int .i64 x128000_2) := (blk_cell BK127.out 0).trans rfl; have hcz15_1 : w14.cell? ⟨gb127, 1, none⟩ = some (.int .i64 x128001_2) := (blk_cell BK127.out 1).trans rfl; have hcz15_2 : w14.cell? ⟨gb127, 2, none⟩ = some (.bool x128002_2) := (blk_cell BK127.out 2).trans rfl; have hcz15_3 : w14.cell? ⟨gb127, 3, none⟩ = some (.int .i64 x128003_2) := (blk_cell BK127.out 3).trans rfl; have hfz15_0 := blk_frozen BK127.out 0; have hfz15_1 := blk_frozen BK127.out 1; have hfz15_2 := blk_frozen BK127.out 2; have hfz15_3 := blk_frozen BK127.out 3))
              go_roundg k2
              case measure => have := HJ2.out; have := HK2.out; omega
              case rel => exact ⟨(wrap64 (x23_2 + 1)), (t128), (t129), (t130), (t131), (by first | rfl | (simp; done) | (simp [*]; done)), H', ⟨by have := HJ2.out; have := HK2.out; omega⟩, ⟨by (with_reducible repeat (first | refine blk_drewN ?_ _ | refine blk_drew ?_ | refine blk_alloc ?_ _)); refine blk_put (cs := #[.int .i64 t128, .int .i64 t129, .bool t130, .int .i64 x128003_2]) ?_ 3 _ rfl; (with_reducible repeat (first | refine blk_drewN ?_ _ | refine blk_drew ?_ | refine blk_alloc ?_ _)); refine blk_put (cs := #[.int .i64 t128, .int .i64 t129, .bool x128002_2, .int .i64 x128003_2]) ?_ 2 _ rfl; (with_reducible repeat (first | refine blk_drewN ?_ _ | refine blk_drew ?_ | refine blk_alloc ?_ _)); refine blk_put (cs := #[.int .i64 t128, .int .i64 x128001_2, .bool x128002_2, .int .i64 x128003_2]) ?_ 1 _ rfl; (with_reducible repeat (first | refine blk_drewN ?_ _ | refine blk_drew ?_ | refine blk_alloc ?_ _)); refine blk_put (cs := #[.int .i64 x128000_2, .int .i64 x128001_2, .bool x128002_2, .int .i64 x128003_2]) ?_ 0 _ rfl; (with_reducible repeat (first | refine blk_drewN ?_ _ | refine blk_drew ?_ | refine blk_alloc ?_ _)); exact BK127.out⟩, ⟨by repeat (first | (with_reducible first | exact HB.out | apply below_alloc | apply pw_below_drewN | apply below_drew1 | refine below_set ?_ GE127.out) | exact HB.out)⟩⟩
            · rw [if_neg c11] at H
              have c11b0 : decide (x23_2 < a0) = false := decide_eq_false c11
              clear c11
              have HC16 := Aside0.mk H
              clear H
              go_upto_region 8 with (fail)
              go_cut [40] (fun v40 wc => ∃ (kq : Nat) (x40_15 : Bool), v40 = .bool x40_15 ∧ Aside0 (signalboxlaw10_ConfOff.j2 kq a0 a1 x40_15 x128000_2 x128001_2 x128002_2 x128003_2 = some r) ∧ Aside0 (kq ≤ k2) ∧ Aside0 (wc.heap[gb127]? = some (.cells #[.int .i64 x128000_2, .int .i64 x128001_2, .bool x128002_2, .int .i64 x128003_2] 23 (0, 0))) ∧ Aside0 (Below w.heap.size w wc))
              case first =>
                have H := HC16.out
                clear HC16
                replace H := Option.bind_eq_some_iff.mp H
                obtain ⟨t132, A170, H⟩ := H
                replace H : (if ((decide (t132 ≥ 2)) != (decide (a0 ≥ 16))) = true then (signalboxlaw10_ConfOff.j2 k2 a0 a1 true x128000_2 x128001_2 x128002_2 x128003_2) else (signalboxlaw10_ConfOff.j2 k2 a0 a1 (x128002_2 != (decide (a0 ≥ 32))) x128000_2 x128001_2 x128002_2 x128003_2)) = some r := H
                have A17 := Aside0.mk A170
                clear A170
                by_cases c18 : ((decide (t132 ≥ 2)) != (decide (a0 ≥ 16))) = true
                · rw [if_pos c18] at H
                  have c18b0 : ((decide (t132 ≥ 2)) != (decide (a0 ≥ 16))) = true := c18
                  (try (have c18b1 : decide ((decide (t132 ≥ 2)) = (decide (a0 ≥ 16))) = false := by simpa using c18))
                  (try (have c18b2 : ((decide (t132 ≥ 2)) == (decide (a0 ≥ 16))) = false := by simpa using c18))
                  (try (have c18b3 : ¬ ((decide (t132 ≥ 2)) = (decide (a0 ≥ 16))) := by simpa using c18))
                  clear c18
                  (first | rw [c18b0] | (simp only [i64_w, i32_w]; rw [c18b0]) | skip)
                  have H' := Aside0.mk H
                  clear H
                  have hcz19_0 : wr.cell? ⟨gb127, 0, none⟩ = some (.int .i64 x128000_2) := (blk_cell BK127.out 0).trans rfl
                  have hcz19_1 : wr.cell? ⟨gb127, 1, none⟩ = some (.int .i64 x128001_2) := (blk_cell BK127.out 1).trans rfl
                  have hcz19_2 : wr.cell? ⟨gb127, 2, none⟩ = some (.bool x128002_2) := (blk_cell BK127.out 2).trans rfl
                  have hcz19_3 : wr.cell? ⟨gb127, 3, none⟩ = some (.int .i64 x128003_2) := (blk_cell BK127.out 3).trans rfl
                  have hfz19_0 := blk_frozen BK127.out 0
                  have hfz19_1 := blk_frozen BK127.out 1
                  have hfz19_2 := blk_frozen BK127.out 2
                  have hfz19_3 := blk_frozen BK127.out 3
                  go_wp2_with (first | ((with_reducible refine gate_callee (f := 9) rfl ?_); refine goesL_ (some 29) rfl rfl Try.func9 (by kernel_rfl) rfl #[.agg #[.int .i64 x128000_2, .int .i64 x128001_2, .bool x128002_2, .int .i64 x128003_2]] rfl (by (try simp only [List.map_toArray, List.map_cons, List.map_nil]); first | done | rfl | (simp only [List.length_drop, List.length_take]; rfl)) ?_; (with_reducible refine (conf_State.calls k2 x128000_2 x128001_2 x128002_2 x128003_2 t132 _ A17.out).mono ?_); rintro e w20 ⟨rfl, hb⟩; refine ⟨_, rfl, ?_⟩; have n0_ := Aside0.mk (blk_below (g := gb127) (o := .cells #[.int .i64 x128000_2, .int .i64 x128001_2, .bool x128002_2, .int .i64 x128003_2] 23 (0, 0)) (by (with_reducible repeat (first | refine blk_drewN ?_ _ | refine blk_drew ?_ | refine blk_alloc ?_ _)); exact BK127.out) hb); have n1_ := Aside0.mk (below_step (by repeat (first | (with_reducible first | exact HB.out | apply below_alloc | apply pw_below_drewN | apply below_drew1 | refine below_set ?_ GE127.out) | exact HB.out)) hb); clear BK127; clear HB; have BK127 := n0_; have HB := n1_; clear n0_ n1_; (try clear hb); (try clear hb2); (try clear hk); (try clear hi)))
                  go_meet
                  case rel => exact ⟨_, (true), (by first | rfl | (simp; done) | (simp [*]; done)), H', ⟨by have := HJ2.out; have := HK2.out; first | omega | exact Nat.le_refl _⟩, ⟨by (with_reducible repeat (first | refine blk_drewN ?_ _ | refine blk_drew ?_ | refine blk_alloc ?_ _)); exact BK127.out⟩, ⟨by repeat (first | (with_reducible first | exact HB.out | apply below_alloc | apply pw_below_drewN | apply below_drew1 | refine below_set ?_ GE127.out) | exact HB.out)⟩⟩
                · rw [if_neg c18] at H
                  have c18b0 : ((decide (t132 ≥ 2)) != (decide (a0 ≥ 16))) = false := by simpa using c18
                  (try (have c18b1 : decide ((decide (t132 ≥ 2)) = (decide (a0 ≥ 16))) = true := by simpa using c18))
                  (try (have c18b2 : ((decide (t132 ≥ 2)) == (decide (a0 ≥ 16))) = true := by simpa using c18))
                  clear c18
                  (first | rw [c18b0] | (simp only [i64_w, i32_w]; rw [c18b0]) | skip)
                  have H' := Aside0.mk H
                  clear H
                  have hcz21_0 : wr.cell? ⟨gb127, 0, none⟩ = some (.int .i64 x128000_2) := (blk_cell BK127.out 0).trans rfl
                  have hcz21_1 : wr.cell? ⟨gb127, 1, none⟩ = some (.int .i64 x128001_2) := (blk_cell BK127.out 1).trans rfl
                  have hcz21_2 : wr.cell? ⟨gb127, 2, none⟩ = some (.bool x128002_2) := (blk_cell BK127.out 2).trans rfl
                  have hcz21_3 : wr.cell? ⟨gb127, 3, none⟩ = some (.int .i64 x128003_2) := (blk_cell BK127.out 3).trans rfl
                  have hfz21_0 := blk_frozen BK127.out 0
                  have hfz21_1 := blk_frozen BK127.out 1
                  have hfz21_2 := blk_frozen BK127.out 2
                  have hfz21_3 := blk_frozen BK127.out 3
                  go_wp2_with (first | ((with_reducible refine gate_callee (f := 9) rfl ?_); refine goesL_ (some 29) rfl rfl Try.func9 (by kernel_rfl) rfl #[.agg #[.int .i64 x128000_2, .int .i64 x128001_2, .bool x128002_2, .int .i64 x128003_2]] rfl (by (try simp only [List.map_toArray, List.map_cons, List.map_nil]); first | done | rfl | (simp only [List.length_drop, List.length_take]; rfl)) ?_; (with_reducible refine (conf_State.calls k2 x128000_2 x128001_2 x128002_2 x128003_2 t132 _ A17.out).mono ?_); rintro e w22 ⟨rfl, hb⟩; refine ⟨_, rfl, ?_⟩; have n0_ := Aside0.mk (blk_below (g := gb127) (o := .cells #[.int .i64 x128000_2, .int .i64 x128001_2, .bool x128002_2, .int .i64 x128003_2] 23 (0, 0)) (by (with_reducible repeat (first | refine blk_drewN ?_ _ | refine blk_drew ?_ | refine blk_alloc ?_ _)); exact BK127.out) hb); have n1_ := Aside0.mk (below_step (by repeat (first | (with_reducible first | exact HB.out | apply below_alloc | apply pw_below_drewN | apply below_drew1 | refine below_set ?_ GE127.out) | exact HB.out)) hb); clear BK127; clear HB; have BK127 := n0_; have HB := n1_; clear n0_ n1_; (try clear hb); (try clear hb2); (try clear hk); (try clear hi); have hcz23_0 : w22.cell? ⟨gb127, 0, none⟩ = some (.int .i64 x128000_2) := (blk_cell BK127.out 0).trans rfl; have hcz23_1 : w22.cell? ⟨gb127, 1, none⟩ = some (.int .i64 x128001_2) := (blk_cell BK127.out 1).trans rfl; have hcz23_2 : w22.cell? ⟨gb127, 2, none⟩ = some (.bool x128002_2) := (blk_cell BK127.out 2).trans rfl; have hcz23_3 : w22.cell? ⟨gb127, 3, none⟩ = some (.int .i64 x128003_2) := (blk_cell BK127.out 3).trans rfl; have hfz23_0 := blk_frozen BK127.out 0; have hfz23_1 := blk_frozen BK127.out 1; have hfz23_2 := blk_frozen BK127.out 2; have hfz23_3 := blk_frozen BK127.out 3))
                  go_meet
                  case rel => exact ⟨_, ((x128002_2 != (decide (a0 ≥ 32)))), (by first | rfl | (simp; done) | (simp [*]; done)), H', ⟨by have := HJ2.out; have := HK2.out; first | omega | exact Nat.le_refl _⟩, ⟨by (with_reducible repeat (first | refine blk_drewN ?_ _ | refine blk_drew ?_ | refine blk_alloc ?_ _)); exact BK127.out⟩, ⟨by repeat (first | (with_reducible first | exact HB.out | apply below_alloc | apply pw_below_drewN | apply below_drew1 | refine below_set ?_ GE127.out) | exact HB.out)⟩⟩
              case rest =>
                clear HC16
                try clear c1
                try clear p2
                try clear c4
                try clear c4b0
                try clear c5
                try clear c5b0
                try clear c6
                try clear c6b0
                try clear p6
                try clear c7
                try clear c9
                try clear c11
                try clear c11b0
                try clear c12
                try clear c13
                try clear c18
                try clear c18b0
                try clear c18b1
                try clear c18b2
                try clear hcz13_0
                try clear hcz13_1
                try clear hcz13_2
                try clear hcz13_3
                try clear hcz15_0
                try clear hcz15_1
                try clear hcz15_2
                try clear hcz15_3
                try clear hcz19_0
                try clear hcz19_1
                try clear hcz19_2
                try clear hcz19_3
                try clear hcz21_0
                try clear hcz21_1
                try clear hcz21_2
                try clear hcz21_3
                try clear hcz23_0
                try clear hcz23_1
                try clear hcz23_2
                try clear hcz23_3
                try clear hfz13_0
                try clear hfz13_1
                try clear hfz13_2
                try clear hfz13_3
                try clear hfz15_0
                try clear hfz15_1
                try clear hfz15_2
                try clear hfz15_3
                try clear hfz19_0
                try clear hfz19_1
                try clear hfz19_2
                try clear hfz19_3
                try clear hfz21_0
                try clear hfz21_1
                try clear hfz21_2
                try clear hfz21_3
                try clear hfz23_0
                try clear hfz23_1
                try clear hfz23_2
                try clear hfz23_3
                try clear p2
                obtain ⟨kq, x40_15, rfl, HA, HJ15, BK127, HB⟩ := hcut
                cases kq with
                | zero => exact absurd HA.out (by simp [signalboxlaw10_ConfOff.j2])
                | succ kj15 =>
                  have H := HA.out
                  clear HA
                  simp only [signalboxlaw10_ConfOff.j2] at H
                  by_cases c24 : x40_15 = true
                  · subst c24
                    have H1 : (some false) = some r := by rw [if_pos rfl] at H; exact H
                    clear H
                    have H := H1
                    clear H1
                    obtain rfl := Option.some.inj H
                    go_wp2
                    go_ret
                    exact ⟨by first | rfl | (simp [errW_none, errW_some] <;> rfl) | (simp [*, errW_none, errW_some] <;> rfl), by repeat (first | (with_reducible first | exact HB.out | apply below_alloc | apply pw_below_drewN | apply below_drew1 | refine below_set ?_ GE127.out) | exact HB.out)⟩
                  · replace c24 := Bool.eq_false_iff.mpr c24
                    subst c24
                    have H1 : (signalboxlaw10_ConfOff.l1 kj15 a0 a1 1 x128000_2 x128001_2 x128002_2 x128003_2) = some r := by rw [if_neg (show ¬ (false = true) by decide)] at H; exact H
                    clear H
                    have H := H1
                    clear H1
                    have H' := Aside0.mk H
                    clear H
                    go_wp2
                    go_loopg [6] kj15 (fun kq v6 w' => ∃ (x6_4 : Int) (x128000_4 : Int) (x128001_4 : Int) (x128002_4 : Bool) (x128003_4 : Int), v6 = .int .i64 x6_4 ∧ Aside0 (signalboxlaw10_ConfOff.l1 kq a0 a1 x6_4 x128000_4 x128001_4 x128002_4 x128003_4 = some r) ∧ Aside0 (kq ≤ kj15) ∧ Aside0 (w'.heap[gb127]? = some (.cells #[.int .i64 x128000_4, .int .i64 x128001_4, .bool x128002_4, .int .i64 x128003_4] 23 (0, 0))) ∧ Aside0 (Below w.heap.size w w'))
                    case atStart => exact ⟨(1), (x128000_2), (x128001_2), (x128002_2), (x128003_2), (by first | rfl | (simp; done) | (simp [*]; done)), H', ⟨Nat.le_refl _⟩, ⟨by (with_reducible repeat (first | refine blk_drewN ?_ _ | refine blk_drew ?_ | refine blk_alloc ?_ _)); exact BK127.out⟩, ⟨by repeat (first | (with_reducible first | exact HB.out | apply below_alloc | apply pw_below_drewN | apply below_drew1 | refine below_set ?_ GE127.out) | exact HB.out)⟩⟩
                    case round =>
                      clear H'
                      try clear c1
                      try clear c2
                      try clear p2
                      try clear c4
                      try clear c4b0
                      try clear c5
                      try clear c5b0
                      try clear c6
                      try clear c6b0
                      try clear p6
                      try clear c7
                      try clear c9
                      try clear c11
                      try clear c11b0
                      try clear c12
                      try clear c13
                      try clear c18
                      try clear c18b0
                      try clear c18b1
                      try clear c18b2
                      try clear c24
                      try clear hcz13_0
                      try clear hcz13_1
                      try clear hcz13_2
                      try clear hcz13_3
                      try clear hcz15_0
                      try clear hcz15_1
                      try clear hcz15_2
                      try clear hcz15_3
                      try clear hcz19_0
                      try clear hcz19_1
                      try clear hcz19_2
                      try clear hcz19_3
                      try clear hcz21_0
                      try clear hcz21_1
                      try clear hcz21_2
                      try clear hcz21_3
                      try clear hcz23_0
                      try clear hcz23_1
                      try clear hcz23_2
                      try clear hcz23_3
                      try clear hfz13_0
                      try clear hfz13_1
                      try clear hfz13_2
                      try clear hfz13_3
                      try clear hfz15_0
                      try clear hfz15_1
                      try clear hfz15_2
                      try clear hfz15_3
                      try clear hfz19_0
                      try clear hfz19_1
                      try clear hfz19_2
                      try clear hfz19_3
                      try clear hfz21_0
                      try clear hfz21_1
                      try clear hfz21_2
                      try clear hfz21_3
                      try clear hfz23_0
                      try clear hfz23_1
                      try clear hfz23_2
                      try clear hfz23_3
                      try clear p2
                      try clear p6
                      obtain ⟨x6_4, x128000_4, x128001_4, x128002_4, x128003_4, rfl, HA, HK4, BK127, HB⟩ := hrel
                      cases gk with
                      | zero => exact absurd HA.out (by simp [signalboxlaw10_ConfOff.l1])
                      | succ k4 =>
                        have H := HA.out
                        clear HA
                        simp only [signalboxlaw10_ConfOff.l1] at H
                        by_cases c25 : x6_4 ≤ a1
                        · rw [if_pos c25] at H
                          have c25b0 : decide (x6_4 ≤ a1) = true := decide_eq_true c25
                          clear c25
                          replace H := Option.bind_eq_some_iff.mp H
                          obtain ⟨⟨t133, t134, t135, t136⟩, A260, H⟩ := H
                          replace H : (if a0 ≥ 32 then (if (t135 != (decide (x6_4 < a1))) = true then (some false) else (signalboxlaw10_ConfOff.l1 k4 a0 a1 (wrap64 (x6_4 + 1)) t133 t134 t135 t136)) else (if (t135 != false) = true then (some false) else (signalboxlaw10_ConfOff.l1 k4 a0 a1 (wrap64 (x6_4 + 1)) t133 t134 t135 t136))) = some r := H
                          have A26 := Aside0.mk A260
                          clear A260
                          by_cases c27 : a0 ≥ 32
                          · rw [if_pos c27] at H
                            have c27b0 : decide (32 ≤ a0) = true := decide_eq_true c27
                            clear c27
                            by_cases c28 : (t135 != (decide (x6_4 < a1))) = true
                            · rw [if_pos c28] at H
                              have c28b0 : (t135 != (decide (x6_4 < a1))) = true := c28
                              (try (have c28b1 : decide (t135 = (decide (x6_4 < a1))) = false := by simpa using c28))
                              (try (have c28b2 : (t135 == (decide (x6_4 < a1))) = false := by simpa using c28))
                              (try (have c28b3 : ¬ (t135 = (decide (x6_4 < a1))) := by simpa using c28))
                              clear c28
                              obtain rfl := Option.some.inj H
                              have hcz29_0 : wr.cell? ⟨gb127, 0, none⟩ = some (.int .i64 x128000_4) := (blk_cell BK127.out 0).trans rfl
                              have hcz29_1 : wr.cell? ⟨gb127, 1, none⟩ = some (.int .i64 x128001_4) := (blk_cell BK127.out 1).trans rfl
                              have hcz29_2 : wr.cell? ⟨gb127, 2, none⟩ = some (.bool x128002_4) := (blk_cell BK127.out 2).trans rfl
                              have hcz29_3 : wr.cell? ⟨gb127, 3, none⟩ = some (.int .i64 x128003_4) := (blk_cell BK127.out 3).trans rfl
                              have hfz29_0 := blk_frozen BK127.out 0
                              have hfz29_1 := blk_frozen BK127.out 1
                              have hfz29_2 := blk_frozen BK127.out 2
                              have hfz29_3 := blk_frozen BK127.out 3
                              go_wp2_with (first | ((with_reducible refine gate_callee (f := 14) rfl ?_); refine goesL_ (some 48) rfl rfl Try.func14 (by kernel_rfl) rfl #[.agg #[.int .i64 x128000_4, .int .i64 x128001_4, .bool x128002_4, .int .i64 x128003_4], .int .i64 a1] rfl (by (try simp only [List.map_toArray, List.map_cons, List.map_nil]); first | done | rfl | (simp only [List.length_drop, List.length_take]; rfl)) ?_; (with_reducible refine (conf_Idle.calls k4 x128000_4 x128001_4 x128002_4 x128003_4 a1 t133 t134 t135 t136 _ A26.out).mono ?_); rintro e w30 ⟨rfl, hb⟩; refine ⟨_, rfl, ?_⟩; have n0_ := Aside0.mk (blk_below (g := gb127) (o := .cells #[.int .i64 x128000_4, .int .i64 x128001_4, .bool x128002_4, .int .i64 x128003_4] 23 (0, 0)) (by (with_reducible repeat (first | refine blk_drewN ?_ _ | refine blk_drew ?_ | refine blk_alloc ?_ _)); exact BK127.out) hb); have n1_ := Aside0.mk (below_step (by repeat (first | (with_reducible first | exact HB.out | apply below_alloc | apply pw_below_drewN | apply below_drew1 | refine below_set ?_ GE127.out) | exact HB.out)) hb); clear BK127; clear HB; have BK127 := n0_; have HB := n1_; clear n0_ n1_; (try clear hb); (try clear hb2); (try clear hk); (try clear hi); have hcz31_0 : w30.cell? ⟨gb127, 0, none⟩ = some (.int .i64 x128000_4) := (blk_cell BK127.out 0).trans rfl; have hcz31_1 : w30.cell? ⟨gb127, 1, none⟩ = some (.int .i64 x128001_4) := (blk_cell BK127.out 1).trans rfl; have hcz31_2 : w30.cell? ⟨gb127, 2, none⟩ = some (.bool x128002_4) := (blk_cell BK127.out 2).trans rfl; have hcz31_3 : w30.cell? ⟨gb127, 3, none⟩ = some (.int .i64 x128003_4) := (blk_cell BK127.out 3).trans rfl; have hfz31_0 := blk_frozen BK127.out 0; have hfz31_1 := blk_frozen BK127.out 1; have hfz31_2 := blk_frozen BK127.out 2; have hfz31_3 := blk_frozen BK127.out 3))
                              go_ret
                              exact ⟨by first | rfl | (simp [errW_none, errW_some] <;> rfl) | (simp [*, errW_none, errW_some] <;> rfl), by repeat (first | (with_reducible first | exact HB.out | apply below_alloc | apply pw_below_drewN | apply below_drew1 | refine below_set ?_ GE127.out) | exact HB.out)⟩
                            · rw [if_neg c28] at H
                              have c28b0 : (t135 != (decide (x6_4 < a1))) = false := by simpa using c28
                              (try (have c28b1 : decide (t135 = (decide (x6_4 < a1))) = true := by simpa using c28))
                              (try (have c28b2 : (t135 == (decide (x6_4 < a1))) = true := by simpa using c28))
                              clear c28
                              have H' := Aside0.mk H
                              clear H
                              have hcz32_0 : wr.cell? ⟨gb127, 0, none⟩ = some (.int .i64 x128000_4) := (blk_cell BK127.out 0).trans rfl
                              have hcz32_1 : wr.cell? ⟨gb127, 1, none⟩ = some (.int .i64 x128001_4) := (blk_cell BK127.out 1).trans rfl
                              have hcz32_2 : wr.cell? ⟨gb127, 2, none⟩ = some (.bool x128002_4) := (blk_cell BK127.out 2).trans rfl
                              have hcz32_3 : wr.cell? ⟨gb127, 3, none⟩ = some (.int .i64 x128003_4) := (blk_cell BK127.out 3).trans rfl
                              have hfz32_0 := blk_frozen BK127.out 0
                              have hfz32_1 := blk_frozen BK127.out 1
                              have hfz32_2 := blk_frozen BK127.out 2
                              have hfz32_3 := blk_frozen BK127.out 3
                              go_wp2_with (first | ((with_reducible refine gate_callee (f := 14) rfl ?_); refine goesL_ (some 48) rfl rfl Try.func14 (by kernel_rfl) rfl #[.agg #[.int .i64 x128000_4, .int .i64 x128001_4, .bool x128002_4, .int .i64 x128003_4], .int .i64 a1] rfl (by (try simp only [List.map_toArray, List.map_cons, List.map_nil]); first | done | rfl | (simp only [List.length_drop, List.length_take]; rfl)) ?_; (with_reducible refine (conf_Idle.calls k4 x128000_4 x128001_4 x128002_4 x128003_4 a1 t133 t134 t135 t136 _ A26.out).mono ?_); rintro e w33 ⟨rfl, hb⟩; refine ⟨_, rfl, ?_⟩; have n0_ := Aside0.mk (blk_below (g := gb127) (o := .cells #[.int .i64 x128000_4, .int .i64 x128001_4, .bool x128002_4, .int .i64 x128003_4] 23 (0, 0)) (by (with_reducible repeat (first | refine blk_drewN ?_ _ | refine blk_drew ?_ | refine blk_alloc ?_ _)); exact BK127.out) hb); have n1_ := Aside0.mk (below_step (by repeat (first | (with_reducible first | exact HB.out | apply below_alloc | apply pw_below_drewN | apply below_drew1 | refine below_set ?_ GE127.out) | exact HB.out)) hb); clear BK127; clear HB; have BK127 := n0_; have HB := n1_; clear n0_ n1_; (try clear hb); (try clear hb2); (try clear hk); (try clear hi); have hcz34_0 : w33.cell? ⟨gb127, 0, none⟩ = some (.int .i64 x128000_4) := (blk_cell BK127.out 0).trans rfl; have hcz34_1 : w33.cell? ⟨gb127, 1, none⟩ = some (.int .i64 x128001_4) := (blk_cell BK127.out 1).trans rfl; have hcz34_2 : w33.cell? ⟨gb127, 2, none⟩ = some (.bool x128002_4) := (blk_cell BK127.out 2).trans rfl; have hcz34_3 : w33.cell? ⟨gb127, 3, none⟩ = some (.int .i64 x128003_4) := (blk_cell BK127.out 3).trans rfl; have hfz34_0 := blk_frozen BK127.out 0; have hfz34_1 := blk_frozen BK127.out 1; have hfz34_2 := blk_frozen BK127.out 2; have hfz34_3 := blk_frozen BK127.out 3))
                              go_roundg k4
                              case measure => have := HJ2.out; have := HK2.out; have := HJ15.out; have := HK4.out; omega
                              case rel => exact ⟨(wrap64 (x6_4 + 1)), (t133), (t134), (t135), (t136), (by first | rfl | (simp; done) | (simp [*]; done)), H', ⟨by have := HJ2.out; have := HK2.out; have := HJ15.out; have := HK4.out; omega⟩, ⟨by (with_reducible repeat (first | refine blk_drewN ?_ _ | refine blk_drew ?_ | refine blk_alloc ?_ _)); refine blk_put (cs := #[.int .i64 t133, .int .i64 t134, .bool t135, .int .i64 x128003_4]) ?_ 3 _ rfl; (with_reducible repeat (first | refine blk_drewN ?_ _ | refine blk_drew ?_ | refine blk_alloc ?_ _)); refine blk_put (cs := #[.int .i64 t133, .int .i64 t134, .bool x128002_4, .int .i64 x128003_4]) ?_ 2 _ rfl; (with_reducible repeat (first | refine blk_drewN ?_ _ | refine blk_drew ?_ | refine blk_alloc ?_ _)); refine blk_put (cs := #[.int .i64 t133, .int .i64 x128001_4, .bool x128002_4, .int .i64 x128003_4]) ?_ 1 _ rfl; (with_reducible repeat (first | refine blk_drewN ?_ _ | refine blk_drew ?_ | refine blk_alloc ?_ _)); refine blk_put (cs := #[.int .i64 x128000_4, .int .i64 x128001_4, .bool x128002_4, .int .i64 x128003_4]) ?_ 0 _ rfl; (with_reducible repeat (first | refine blk_drewN ?_ _ | refine blk_drew ?_ | refine blk_alloc ?_ _)); exact BK127.out⟩, ⟨by repeat (first | (with_reducible first | exact HB.out | apply below_alloc | apply pw_below_drewN | apply below_drew1 | refine below_set ?_ GE127.out) | exact HB.out)⟩⟩
                          · rw [if_neg c27] at H
                            have c27b0 : decide (32 ≤ a0) = false := decide_eq_false c27
                            clear c27
                            by_cases c35 : (t135 != false) = true
                            · rw [if_pos c35] at H
                              have c35b0 : (t135 != false) = true := c35
                              (try (have c35b1 : decide (t135 = false) = false := by simpa using c35))
                              (try (have c35b2 : (t135 == false) = false := by simpa using c35))
                              (try (have c35b3 : ¬ (t135 = false) := by simpa using c35))
                              clear c35
                              obtain rfl := Option.some.inj H
                              have hcz36_0 : wr.cell? ⟨gb127, 0, none⟩ = some (.int .i64 x128000_4) := (blk_cell BK127.out 0).trans rfl
                              have hcz36_1 : wr.cell? ⟨gb127, 1, none⟩ = some (.int .i64 x128001_4) := (blk_cell BK127.out 1).trans rfl
                              have hcz36_2 : wr.cell? ⟨gb127, 2, none⟩ = some (.bool x128002_4) := (blk_cell BK127.out 2).trans rfl
                              have hcz36_3 : wr.cell? ⟨gb127, 3, none⟩ = some (.int .i64 x128003_4) := (blk_cell BK127.out 3).trans rfl
                              have hfz36_0 := blk_frozen BK127.out 0
                              have hfz36_1 := blk_frozen BK127.out 1
                              have hfz36_2 := blk_frozen BK127.out 2
                              have hfz36_3 := blk_frozen BK127.out 3
                              go_wp2_with (first | ((with_reducible refine gate_callee (f := 14) rfl ?_); refine goesL_ (some 48) rfl rfl Try.func14 (by kernel_rfl) rfl #[.agg #[.int .i64 x128000_4, .int .i64 x128001_4, .bool x128002_4, .int .i64 x128003_4], .int .i64 a1] rfl (by (try simp only [List.map_toArray, List.map_cons, List.map_nil]); first | done | rfl | (simp only [List.length_drop, List.length_take]; rfl)) ?_; (with_reducible refine (conf_Idle.calls k4 x128000_4 x128001_4 x128002_4 x128003_4 a1 t133 t134 t135 t136 _ A26.out).mono ?_); rintro e w37 ⟨rfl, hb⟩; refine ⟨_, rfl, ?_⟩; have n0_ := Aside0.mk (blk_below (g := gb127) (o := .cells #[.int .i64 x128000_4, .int .i64 x128001_4, .bool x128002_4, .int .i64 x128003_4] 23 (0, 0)) (by (with_reducible repeat (first | refine blk_drewN ?_ _ | refine blk_drew ?_ | refine blk_alloc ?_ _)); exact BK127.out) hb); have n1_ := Aside0.mk (below_step (by repeat (first | (with_reducible first | exact HB.out | apply below_alloc | apply pw_below_drewN | apply below_drew1 | refine below_set ?_ GE127.out) | exact HB.out)) hb); clear BK127; clear HB; have BK127 := n0_; have HB := n1_; clear n0_ n1_; (try clear hb); (try clear hb2); (try clear hk); (try clear hi); have hcz38_0 : w37.cell? ⟨gb127, 0, none⟩ = some (.int .i64 x128000_4) := (blk_cell BK127.out 0).trans rfl; have hcz38_1 : w37.cell? ⟨gb127, 1, none⟩ = some (.int .i64 x128001_4) := (blk_cell BK127.out 1).trans rfl; have hcz38_2 : w37.cell? ⟨gb127, 2, none⟩ = some (.bool x128002_4) := (blk_cell BK127.out 2).trans rfl; have hcz38_3 : w37.cell? ⟨gb127, 3, none⟩ = some (.int .i64 x128003_4) := (blk_cell BK127.out 3).trans rfl; have hfz38_0 := blk_frozen BK127.out 0; have hfz38_1 := blk_frozen BK127.out 1; have hfz38_2 := blk_frozen BK127.out 2; have hfz38_3 := blk_frozen BK127.out 3))
                              go_ret
                              exact ⟨by first | rfl | (simp [errW_none, errW_some] <;> rfl) | (simp [*, errW_none, errW_some] <;> rfl), by repeat (first | (with_reducible first | exact HB.out | apply below_alloc | apply pw_below_drewN | apply below_drew1 | refine below_set ?_ GE127.out) | exact HB.out)⟩
                            · rw [if_neg c35] at H
                              have c35b0 : (t135 != false) = false := by simpa using c35
                              (try (have c35b1 : decide (t135 = false) = true := by simpa using c35))
                              (try (have c35b2 : (t135 == false) = true := by simpa using c35))
                              clear c35
                              have H' := Aside0.mk H
                              clear H
                              have hcz39_0 : wr.cell? ⟨gb127, 0, none⟩ = some (.int .i64 x128000_4) := (blk_cell BK127.out 0).trans rfl
                              have hcz39_1 : wr.cell? ⟨gb127, 1, none⟩ = some (.int .i64 x128001_4) := (blk_cell BK127.out 1).trans rfl
                              have hcz39_2 : wr.cell? ⟨gb127, 2, none⟩ = some (.bool x128002_4) := (blk_cell BK127.out 2).trans rfl
                              have hcz39_3 : wr.cell? ⟨gb127, 3, none⟩ = some (.int .i64 x128003_4) := (blk_cell BK127.out 3).trans rfl
                              have hfz39_0 := blk_frozen BK127.out 0
                              have hfz39_1 := blk_frozen BK127.out 1
                              have hfz39_2 := blk_frozen BK127.out 2
                              have hfz39_3 := blk_frozen BK127.out 3
                              go_wp2_with (first | ((with_reducible refine gate_callee (f := 14) rfl ?_); refine goesL_ (some 48) rfl rfl Try.func14 (by kernel_rfl) rfl #[.agg #[.int .i64 x128000_4, .int .i64 x128001_4, .bool x128002_4, .int .i64 x128003_4], .int .i64 a1] rfl (by (try simp only [List.map_toArray, List.map_cons, List.map_nil]); first | done | rfl | (simp only [List.length_drop, List.length_take]; rfl)) ?_; (with_reducible refine (conf_Idle.calls k4 x128000_4 x128001_4 x128002_4 x128003_4 a1 t133 t134 t135 t136 _ A26.out).mono ?_); rintro e w40 ⟨rfl, hb⟩; refine ⟨_, rfl, ?_⟩; have n0_ := Aside0.mk (blk_below (g := gb127) (o := .cells #[.int .i64 x128000_4, .int .i64 x128001_4, .bool x128002_4, .int .i64 x128003_4] 23 (0, 0)) (by (with_reducible repeat (first | refine blk_drewN ?_ _ | refine blk_drew ?_ | refine blk_alloc ?_ _)); exact BK127.out) hb); have n1_ := Aside0.mk (below_step (by repeat (first | (with_reducible first | exact HB.out | apply below_alloc | apply pw_below_drewN | apply below_drew1 | refine below_set ?_ GE127.out) | exact HB.out)) hb); clear BK127; clear HB; have BK127 := n0_; have HB := n1_; clear n0_ n1_; (try clear hb); (try clear hb2); (try clear hk); (try clear hi); have hcz41_0 : w40.cell? ⟨gb127, 0, none⟩ = some (.int .i64 x128000_4) := (blk_cell BK127.out 0).trans rfl; have hcz41_1 : w40.cell? ⟨gb127, 1, none⟩ = some (.int .i64 x128001_4) := (blk_cell BK127.out 1).trans rfl; have hcz41_2 : w40.cell? ⟨gb127, 2, none⟩ = some (.bool x128002_4) := (blk_cell BK127.out 2).trans rfl; have hcz41_3 : w40.cell? ⟨gb127, 3, none⟩ = some (.int .i64 x128003_4) := (blk_cell BK127.out 3).trans rfl; have hfz41_0 := blk_frozen BK127.out 0; have hfz41_1 := blk_frozen BK127.out 1; have hfz41_2 := blk_frozen BK127.out 2; have hfz41_3 := blk_frozen BK127.out 3))
                              go_roundg k4
                              case measure => have := HJ2.out; have := HK2.out; have := HJ15.out; have := HK4.out; omega
                              case rel => exact ⟨(wrap64 (x6_4 + 1)), (t133), (t134), (t135), (t136), (by first | rfl | (simp; done) | (simp [*]; done)), H', ⟨by have := HJ2.out; have := HK2.out; have := HJ15.out; have := HK4.out; omega⟩, ⟨by (with_reducible repeat (first | refine blk_drewN ?_ _ | refine blk_drew ?_ | refine blk_alloc ?_ _)); refine blk_put (cs := #[.int .i64 t133, .int .i64 t134, .bool t135, .int .i64 x128003_4]) ?_ 3 _ rfl; (with_reducible repeat (first | refine blk_drewN ?_ _ | refine blk_drew ?_ | refine blk_alloc ?_ _)); refine blk_put (cs := #[.int .i64 t133, .int .i64 t134, .bool x128002_4, .int .i64 x128003_4]) ?_ 2 _ rfl; (with_reducible repeat (first | refine blk_drewN ?_ _ | refine blk_drew ?_ | refine blk_alloc ?_ _)); refine blk_put (cs := #[.int .i64 t133, .int .i64 x128001_4, .bool x128002_4, .int .i64 x128003_4]) ?_ 1 _ rfl; (with_reducible repeat (first | refine blk_drewN ?_ _ | refine blk_drew ?_ | refine blk_alloc ?_ _)); refine blk_put (cs := #[.int .i64 x128000_4, .int .i64 x128001_4, .bool x128002_4, .int .i64 x128003_4]) ?_ 0 _ rfl; (with_reducible repeat (first | refine blk_drewN ?_ _ | refine blk_drew ?_ | refine blk_alloc ?_ _)); exact BK127.out⟩, ⟨by repeat (first | (with_reducible first | exact HB.out | apply below_alloc | apply pw_below_drewN | apply below_drew1 | refine below_set ?_ GE127.out) | exact HB.out)⟩⟩
                        · rw [if_neg c25] at H
                          have c25b0 : decide (x6_4 ≤ a1) = false := decide_eq_false c25
                          clear c25
                          by_cases c42 : a0 < 32
                          · rw [if_pos c42] at H
                            have c42b0 : decide (a0 < 32) = true := decide_eq_true c42
                            clear c42
                            replace H := Option.bind_eq_some_iff.mp H
                            obtain ⟨t137, A430, H⟩ := H
                            replace H : (some t137) = some r := H
                            have A43 := Aside0.mk A430
                            clear A430
                            obtain rfl := Option.some.inj H
                            go_wp2_with (first | (go_at_call 12; (with_reducible refine (signalboxlaw10_alive.calls k4  t137 _ A43.out).mono ?_); rintro e w44 ⟨rfl, hb⟩; have n0_ := Aside0.mk (blk_below (g := gb127) (o := .cells #[.int .i64 x128000_4, .int .i64 x128001_4, .bool x128002_4, .int .i64 x128003_4] 23 (0, 0)) (by (with_reducible repeat (first | refine blk_drewN ?_ _ | refine blk_drew ?_ | refine blk_alloc ?_ _)); exact BK127.out) hb); have n1_ := Aside0.mk (below_step (by repeat (first | (with_reducible first | exact HB.out | apply below_alloc | apply pw_below_drewN | apply below_drew1 | refine below_set ?_ GE127.out) | exact HB.out)) hb); clear BK127; clear HB; have BK127 := n0_; have HB := n1_; clear n0_ n1_; (try clear hb); (try clear hb2); (try clear hk); (try clear hi)))
                            go_ret
                            exact ⟨by first | rfl | (simp [errW_none, errW_some] <;> rfl) | (simp [*, errW_none, errW_some] <;> rfl), by repeat (first | (with_reducible first | exact HB.out | apply below_alloc | apply pw_below_drewN | apply below_drew1 | refine below_set ?_ GE127.out) | exact HB.out)⟩
                          · rw [if_neg c42] at H
                            have c42b0 : decide (a0 < 32) = false := decide_eq_false c42
                            clear c42
                            by_cases c45 : (x128000_4 == 0 && (x128001_4 == 0 && (!x128002_4 && (x128003_4 == 0)))) = true
                            · rw [if_pos c45] at H
                              have c45b0 : (x128000_4 == 0 && (x128001_4 == 0 && (!x128002_4 && (x128003_4 == 0)))) = true := c45
                              (try (have c45b1 : decide (x128000_4 = 0 && (x128001_4 == 0 && (!x128002_4 && (x128003_4 == 0)))) = true := by simpa using c45))
                              (try (have c45b2 : (x128000_4 == 0 && (x128001_4 == 0 && (!x128002_4 && (x128003_4 == 0)))) = true := by simpa using c45))
                              clear c45
                              replace H := Option.bind_eq_some_iff.mp H
                              obtain ⟨t138, A460, H⟩ := H
                              replace H : (some t138) = some r := H
                              have A46 := Aside0.mk A460
                              clear A460
                              obtain rfl := Option.some.inj H
                              have hcz47_0 : wr.cell? ⟨gb127, 0, none⟩ = some (.int .i64 x128000_4) := (blk_cell BK127.out 0).trans rfl
                              have hcz47_1 : wr.cell? ⟨gb127, 1, none⟩ = some (.int .i64 x128001_4) := (blk_cell BK127.out 1).trans rfl
                              have hcz47_2 : wr.cell? ⟨gb127, 2, none⟩ = some (.bool x128002_4) := (blk_cell BK127.out 2).trans rfl
                              have hcz47_3 : wr.cell? ⟨gb127, 3, none⟩ = some (.int .i64 x128003_4) := (blk_cell BK127.out 3).trans rfl
                              have hfz47_0 := blk_frozen BK127.out 0
                              have hfz47_1 := blk_frozen BK127.out 1
                              have hfz47_2 := blk_frozen BK127.out 2
                              have hfz47_3 := blk_frozen BK127.out 3
                              go_wp2_with (first | (go_at_call 12; (with_reducible refine (signalboxlaw10_alive.calls k4  t138 _ A46.out).mono ?_); rintro e w48 ⟨rfl, hb⟩; have n0_ := Aside0.mk (blk_below (g := gb127) (o := .cells #[.int .i64 x128000_4, .int .i64 x128001_4, .bool x128002_4, .int .i64 x128003_4] 23 (0, 0)) (by (with_reducible repeat (first | refine blk_drewN ?_ _ | refine blk_drew ?_ | refine blk_alloc ?_ _)); exact BK127.out) hb); have n1_ := Aside0.mk (below_step (by repeat (first | (with_reducible first | exact HB.out | apply below_alloc | apply pw_below_drewN | apply below_drew1 | refine below_set ?_ GE127.out) | exact HB.out)) hb); clear BK127; clear HB; have BK127 := n0_; have HB := n1_; clear n0_ n1_; (try clear hb); (try clear hb2); (try clear hk); (try clear hi)))
                              go_ret
                              exact ⟨by first | rfl | (simp [errW_none, errW_some] <;> rfl) | (simp [*, errW_none, errW_some] <;> rfl), by repeat (first | (with_reducible first | exact HB.out | apply below_alloc | apply pw_below_drewN | apply below_drew1 | refine below_set ?_ GE127.out) | exact HB.out)⟩
                            · rw [if_neg c45] at H
                              have c45b0 : (x128000_4 == 0 && (x128001_4 == 0 && (!x128002_4 && (x128003_4 == 0)))) = false := by simpa using c45
                              (try (have c45b1 : decide (x128000_4 = 0 && (x128001_4 == 0 && (!x128002_4 && (x128003_4 == 0)))) = false := by simpa using c45))
                              (try (have c45b2 : (x128000_4 == 0 && (x128001_4 == 0 && (!x128002_4 && (x128003_4 == 0)))) = false := by simpa using c45))
                              (try (have c45b3 : ¬ (x128000_4 = 0 && (x128001_4 == 0 && (!x128002_4 && (x128003_4 == 0)))) := by simpa using c45))
                              clear c45
                              obtain rfl := Option.some.inj H
                              have hcz49_0 : wr.cell? ⟨gb127, 0, none⟩ = some (.int .i64 x128000_4) := (blk_cell BK127.out 0).trans rfl
                              have hcz49_1 : wr.cell? ⟨gb127, 1, none⟩ = some (.int .i64 x128001_4) := (blk_cell BK127.out 1).trans rfl
                              have hcz49_2 : wr.cell? ⟨gb127, 2, none⟩ = some (.bool x128002_4) := (blk_cell BK127.out 2).trans rfl
                              have hcz49_3 : wr.cell? ⟨gb127, 3, none⟩ = some (.int .i64 x128003_4) := (blk_cell BK127.out 3).trans rfl
                              have hfz49_0 := blk_frozen BK127.out 0
                              have hfz49_1 := blk_frozen BK127.out 1
                              have hfz49_2 := blk_frozen BK127.out 2
                              have hfz49_3 := blk_frozen BK127.out 3
                              go_wp2
                              go_ret
                              exact ⟨by first | rfl | (simp [errW_none, errW_some] <;> rfl) | (simp [*, errW_none, errW_some] <;> rfl), by repeat (first | (with_reducible first | exact HB.out | apply below_alloc | apply pw_below_drewN | apply below_drew1 | refine below_set ?_ GE127.out) | exact HB.out)⟩

/-- THE ONE PURE STATEMENT of signalboxlaw10_ConfOff: yours. -/
def signalboxlaw10_ConfOff.Pure : Prop := ∀ (a0 : Int) (a1 : Int), (Lit.int .i64 a0).wf = true → (Lit.int .i64 a1).wf = true → ∃ k, signalboxlaw10_ConfOff.f k a0 a1 = some true
theorem signalboxlaw10_ConfOff.walk (P : signalboxlaw10_ConfOff.Pure) (a0 : Int) (a1 : Int) (w : World) (w0 : (Lit.int .i64 a0).wf = true) (w1 : (Lit.int .i64 a1).wf = true) :
    Calls Try.prog 4 #[.int .i64 a0, .int .i64 a1] w fun e w' => e = .returned (.bool true) ∧ Below w.heap.size w w' := by
  obtain ⟨k, h⟩ := P a0 a1 w0 w1
  refine (signalboxlaw10_ConfOff.calls k a0 a1 true w h).mono ?_
  rintro e w' ⟨rfl, hd⟩
  exact ⟨rfl, hd⟩

end Go.Proofs.Ytpeegolmfopndaa.PConfOff
