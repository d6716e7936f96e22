-- Laid by a program of the session over the kit's print. Not trusted: Lean checks it.
import Derived.Test.YtpeegolmfopndaaPConfPlaysx0
import Derived.Test.YtpeegolmfopndaaPConfPlaysx1
import Derived.Test.YtpeegolmfopndaaPConfPlaysx2
import Derived.Test.YtpeegolmfopndaaPConfPlaysx3
import Derived.Test.YtpeegolmfopndaaPConfPlaysx4
namespace Go.Proofs.Ytpeegolmfopndaa.PConfPlays
open Go.RowKit Go.Proofs.YtpeegolmfopndaaW.PrintWords Go.Proofs.YtpeegolmfopndaaW.PrintLast Go.Proofs.YtpeegolmfopndaaW.PrintMore
attribute [local go_sem] max2_int min2_int max_two min_two max_three min_three max_four min_four   -- for this text's walks alone
set_option linter.unusedVariables false
set_option linter.unusedSimpArgs false

attribute [local go_sem high] eqA23
/-! ### signalboxlaw10_ConfPlays: function 6 -/
mutual
def signalboxlaw10_ConfPlays.l0 : Nat → Int → Int → List Int → Int → Int → Int → Int → Bool → Int → Int → Int → Bool → Int → Option (Bool)
  | 0, _, _, _, _, _, _, _, _, _, _, _, _, _ => none
  | k + 1, x1, x7, x16, x17, x18, x167000, x167001, x167002, x167003, x168000, x168001, x168002, x168003 => if x18 < x17 then (if 0 ≤ x18 then (if x18 < (x16.length : Int) then ((signalboxlaw10_do.f k x167000 x167001 x167002 x167003 (Int.tmod (wrap64 ((Int.tmod (rd x16 x18) 5) + 5)) 5) x1).bind fun bt170 => ((signalboxref10_Do.f k x168000 x168001 x168002 x168003 (Int.tmod (wrap64 ((Int.tmod (rd x16 x18) 5) + 5)) 5) x1).bind fun bt174 => (if (!(bt170.1 == bt174.1) || (!(bt170.2.1 == bt174.2.1) || (!(bt170.2.2.1 == bt174.2.2.1) || (!(bt170.2.2.2 == bt174.2.2.2))))) = true then (signalboxlaw10_ConfPlays.j1 k x1 x7 (Int.tmod (wrap64 ((Int.tmod (rd x16 x18) 5) + 5)) 5) x167002 x16 x17 x18 true bt170.1 bt170.2.1 bt170.2.2.1 bt170.2.2.2 bt174.1 bt174.2.1 bt174.2.2.1 bt174.2.2.2) else ((conf_Right.f k bt170.1 bt170.2.1 bt170.2.2.1 bt170.2.2.2).bind fun t178 => (if t178 = true then (if bt170.2.2.1 = true then (if x167002 = true then (signalboxlaw10_ConfPlays.j1 k x1 x7 (Int.tmod (wrap64 ((Int.tmod (rd x16 x18) 5) + 5)) 5) x167002 x16 x17 x18 false bt170.1 bt170.2.1 bt170.2.2.1 bt170.2.2.2 bt174.1 bt174.2.1 bt174.2.2.1 bt174.2.2.2) else (signalboxlaw10_ConfPlays.j1 k x1 x7 (Int.tmod (wrap64 ((Int.tmod (rd x16 x18) 5) + 5)) 5) x167002 x16 x17 x18 ((Int.tmod (wrap64 ((Int.tmod (rd x16 x18) 5) + 5)) 5) != 2) bt170.1 bt170.2.1 bt170.2.2.1 bt170.2.2.2 bt174.1 bt174.2.1 bt174.2.2.1 bt174.2.2.2)) else (signalboxlaw10_ConfPlays.j1 k x1 x7 (Int.tmod (wrap64 ((Int.tmod (rd x16 x18) 5) + 5)) 5) x167002 x16 x17 x18 false bt170.1 bt170.2.1 bt170.2.2.1 bt170.2.2.2 bt174.1 bt174.2.1 bt174.2.2.1 bt174.2.2.2)) else (signalboxlaw10_ConfPlays.j1 k x1 x7 (Int.tmod (wrap64 ((Int.tmod (rd x16 x18) 5) + 5)) 5) x167002 x16 x17 x18 true bt170.1 bt170.2.1 bt170.2.2.1 bt170.2.2.2 bt174.1 bt174.2.1 bt174.2.2.1 bt174.2.2.2)))))) else (none)) else (none)) else ((signalboxlaw10_alive.f k).bind fun t168 => (some t168))
def signalboxlaw10_ConfPlays.j1 : Nat → Int → Int → Int → Bool → List Int → Int → Int → Bool → Int → Int → Bool → Int → Int → Int → Bool → Int → Option (Bool)
  | 0, _, _, _, _, _, _, _, _, _, _, _, _, _, _, _, _ => none
  | k + 1, x1, x7, x10, x11, x16, x17, x18, x55, x167000, x167001, x167002, x167003, x168000, x168001, x168002, x168003 => if x55 = true then (some false) else (if x167002 = true then (if x11 = true then (signalboxlaw10_ConfPlays.j2 k x1 x7 x10 x11 x16 x17 x18 (x10 == 4) x167000 x167001 x167002 x167003 x168000 x168001 x168002 x168003) else (signalboxlaw10_ConfPlays.j2 k x1 x7 x10 x11 x16 x17 x18 false x167000 x167001 x167002 x167003 x168000 x168001 x168002 x168003)) else (signalboxlaw10_ConfPlays.j2 k x1 x7 x10 x11 x16 x17 x18 false x167000 x167001 x167002 x167003 x168000 x168001 x168002 x168003))
def signalboxlaw10_ConfPlays.j2 : Nat → Int → Int → Int → Bool → List Int → Int → Int → Bool → Int → Int → Bool → Int → Int → Int → Bool → Int → Option (Bool)
  | 0, _, _, _, _, _, _, _, _, _, _, _, _, _, _, _, _ => none
  | k + 1, x1, x7, x10, x11, x16, x17, x18, x64, x167000, x167001, x167002, x167003, x168000, x168001, x168002, x168003 => if x64 = true then (signalboxlaw10_ConfPlays.j3 k x1 (wrap64 (x7 + 1)) x10 x11 x16 x17 x18 x167000 x167001 x167002 x167003 x168000 x168001 x168002 x168003) else (signalboxlaw10_ConfPlays.j3 k x1 x7 x10 x11 x16 x17 x18 x167000 x167001 x167002 x167003 x168000 x168001 x168002 x168003)
def signalboxlaw10_ConfPlays.j3 : Nat → Int → Int → Int → Bool → List Int → Int → Int → Int → Int → Bool → Int → Int → Int → Bool → Int → Option (Bool)
  | 0, _, _, _, _, _, _, _, _, _, _, _, _, _, _, _ => none
  | k + 1, x1, x7, x10, x11, x16, x17, x18, x167000, x167001, x167002, x167003, x168000, x168001, x168002, x168003 => if x167002 = true then (signalboxlaw10_ConfPlays.l0 k x1 x7 x16 x17 (wrap64 (x18 + 1)) x167000 x167001 x167002 x167003 x168000 x168001 x168002 x168003) else (if x11 = true then (if x10 = 4 then (if x7 < (wrap64 ((mx x1 1) - 1)) then (some false) else (if (!(x167000 == 0) || (!(x167001 == 0) || (x167002 || (!(x167003 == 0))))) = true then (some false) else (signalboxlaw10_ConfPlays.l0 k x1 0 x16 x17 (wrap64 (x18 + 1)) x167000 x167001 x167002 x167003 x168000 x168001 x168002 x168003))) else (some false)) else (signalboxlaw10_ConfPlays.l0 k x1 0 x16 x17 (wrap64 (x18 + 1)) x167000 x167001 x167002 x167003 x168000 x168001 x168002 x168003))
end
def signalboxlaw10_ConfPlays.f (k : Nat) (l0 : List Int) (a1 : Int) : Option (Bool) := if (l0.length : Int) > 400 then ((signalboxlaw10_alive.f k).bind fun t165 => (some t165)) else (signalboxlaw10_ConfPlays.l0 k a1 0 l0 (l0.length : Int) 0 0 0 false 0 0 0 false 0)
theorem signalboxlaw10_ConfPlays.mono_l : ∀ k, (∀ y0 y1 y2 y3 y4 y5 y6 y7 y8 y9 y10 y11 y12, LeO (signalboxlaw10_ConfPlays.l0 k y0 y1 y2 y3 y4 y5 y6 y7 y8 y9 y10 y11 y12) (signalboxlaw10_ConfPlays.l0 (k + 1) y0 y1 y2 y3 y4 y5 y6 y7 y8 y9 y10 y11 y12)) ∧ (∀ y0 y1 y2 y3 y4 y5 y6 y7 y8 y9 y10 y11 y12 y13 y14 y15, LeO (signalboxlaw10_ConfPlays.j1 k y0 y1 y2 y3 y4 y5 y6 y7 y8 y9 y10 y11 y12 y13 y14 y15) (signalboxlaw10_ConfPlays.j1 (k + 1) y0 y1 y2 y3 y4 y5 y6 y7 y8 y9 y10 y11 y12 y13 y14 y15)) ∧ (∀ y0 y1 y2 y3 y4 y5 y6 y7 y8 y9 y10 y11 y12 y13 y14 y15, LeO (signalboxlaw10_ConfPlays.j2 k y0 y1 y2 y3 y4 y5 y6 y7 y8 y9 y10 y11 y12 y13 y14 y15) (signalboxlaw10_ConfPlays.j2 (k + 1) y0 y1 y2 y3 y4 y5 y6 y7 y8 y9 y10 y11 y12 y13 y14 y15)) ∧ (∀ y0 y1 y2 y3 y4 y5 y6 y7 y8 y9 y10 y11 y12 y13 y14, LeO (signalboxlaw10_ConfPlays.j3 k y0 y1 y2 y3 y4 y5 y6 y7 y8 y9 y10 y11 y12 y13 y14) (signalboxlaw10_ConfPlays.j3 (k + 1) y0 y1 y2 y3 y4 y5 y6 y7 y8 y9 y10 y11 y12 y13 y14))
  | 0 => ⟨fun _ _ _ _ _ _ _ _ _ _ _ _ _ r h => by simp [signalboxlaw10_ConfPlays.l0] at h, fun _ _ _ _ _ _ _ _ _ _ _ _ _ _ _ _ r h => by simp [signalboxlaw10_ConfPlays.j1] at h, fun _ _ _ _ _ _ _ _ _ _ _ _ _ _ _ _ r h => by simp [signalboxlaw10_ConfPlays.j2] at h, fun _ _ _ _ _ _ _ _ _ _ _ _ _ _ _ r h => by simp [signalboxlaw10_ConfPlays.j3] at h⟩
  | k + 1 => by
    obtain ⟨ih0, ih1, ih2, ih3⟩ := signalboxlaw10_ConfPlays.mono_l k
    refine ⟨?_, ?_, ?_, ?_⟩
    · intro y0 y1 y2 y3 y4 y5 y6 y7 y8 y9 y10 y11 y12
      unfold signalboxlaw10_ConfPlays.l0
      repeat' first
      | (with_reducible exact ih0 _ _ _ _ _ _ _ _ _ _ _ _ _)
      | (with_reducible exact ih1 _ _ _ _ _ _ _ _ _ _ _ _ _ _ _ _)
      | (with_reducible exact ih2 _ _ _ _ _ _ _ _ _ _ _ _ _ _ _ _)
      | (with_reducible exact ih3 _ _ _ _ _ _ _ _ _ _ _ _ _ _ _)
      | (with_reducible exact conf_Right.mono _ _ _ _ _)
      | (with_reducible exact signalboxlaw10_alive.mono _)
      | (with_reducible exact signalboxlaw10_do.mono _ _ _ _ _ _ _)
      | (with_reducible exact signalboxref10_Do.mono _ _ _ _ _ _ _)
      | (with_reducible exact LeO.refl _)
      | (with_reducible exact LeO.none _)
      | (with_reducible refine LeO.ite ?_ ?_)
      | (with_reducible refine LeO.bind ?_ (fun _ => ?_))
      | exact ih0 _ _ _ _ _ _ _ _ _ _ _ _ _
      | exact ih1 _ _ _ _ _ _ _ _ _ _ _ _ _ _ _ _
      | exact ih2 _ _ _ _ _ _ _ _ _ _ _ _ _ _ _ _
      | exact ih3 _ _ _ _ _ _ _ _ _ _ _ _ _ _ _
      | exact conf_Right.mono _ _ _ _ _
      | exact signalboxlaw10_alive.mono _
      | exact signalboxlaw10_do.mono _ _ _ _ _ _ _
      | exact signalboxref10_Do.mono _ _ _ _ _ _ _
      | exact LeO.none _
      | refine LeO.ite ?_ ?_
      | refine LeO.bind ?_ (fun _ => ?_)
    · intro y0 y1 y2 y3 y4 y5 y6 y7 y8 y9 y10 y11 y12 y13 y14 y15
      unfold signalboxlaw10_ConfPlays.j1
      repeat' first
      | (with_reducible exact ih0 _ _ _ _ _ _ _ _ _ _ _ _ _)
      | (with_reducible exact ih1 _ _ _ _ _ _ _ _ _ _ _ _ _ _ _ _)
      | (with_reducible exact ih2 _ _ _ _ _ _ _ _ _ _ _ _ _ _ _ _)
      | (with_reducible exact ih3 _ _ _ _ _ _ _ _ _ _ _ _ _ _ _)
      | (with_reducible exact conf_Right.mono _ _ _ _ _)
      | (with_reducible exact signalboxlaw10_alive.mono _)
      | (with_reducible exact signalboxlaw10_do.mono _ _ _ _ _ _ _)
      | (with_reducible exact signalboxref10_Do.mono _ _ _ _ _ _ _)
      | (with_reducible exact LeO.refl _)
      | (with_reducible exact LeO.none _)
      | (with_reducible refine LeO.ite ?_ ?_)
      | (with_reducible refine LeO.bind ?_ (fun _ => ?_))
      | exact ih0 _ _ _ _ _ _ _ _ _ _ _ _ _
      | exact ih1 _ _ _ _ _ _ _ _ _ _ _ _ _ _ _ _
      | exact ih2 _ _ _ _ _ _ _ _ _ _ _ _ _ _ _ _
      | exact ih3 _ _ _ _ _ _ _ _ _ _ _ _ _ _ _
      | exact conf_Right.mono _ _ _ _ _
      | exact signalboxlaw10_alive.mono _
      | exact signalboxlaw10_do.mono _ _ _ _ _ _ _
      | exact signalboxref10_Do.mono _ _ _ _ _ _ _
      | exact LeO.none _
      | refine LeO.ite ?_ ?_
      | refine LeO.bind ?_ (fun _ => ?_)
    · intro y0 y1 y2 y3 y4 y5 y6 y7 y8 y9 y10 y11 y12 y13 y14 y15
      unfold signalboxlaw10_ConfPlays.j2
      repeat' first
      | (with_reducible exact ih0 _ _ _ _ _ _ _ _ _ _ _ _ _)
      | (with_reducible exact ih1 _ _ _ _ _ _ _ _ _ _ _ _ _ _ _ _)
      | (with_reducible exact ih2 _ _ _ _ _ _ _ _ _ _ _ _ _ _ _ _)
      | (with_reducible exact ih3 _ _ _ _ _ _ _ _ _ _ _ _ _ _ _)
      | (with_reducible exact conf_Right.mono _ _ _ _ _)
      | (with_reducible exact signalboxlaw10_alive.mono _)
      | (with_reducible exact signalboxlaw10_do.mono _ _ _ _ _ _ _)
      | (with_reducible exact signalboxref10_Do.mono _ _ _ _ _ _ _)
      | (with_reducible exact LeO.refl _)
      | (with_reducible exact LeO.none _)
      | (with_reducible refine LeO.ite ?_ ?_)
      | (with_reducible refine LeO.bind ?_ (fun _ => ?_))
      | exact ih0 _ _ _ _ _ _ _ _ _ _ _ _ _
      | exact ih1 _ _ _ _ _ _ _ _ _ _ _ _ _ _ _ _
      | exact ih2 _ _ _ _ _ _ _ _ _ _ _ _ _ _ _ _
      | exact ih3 _ _ _ _ _ _ _ _ _ _ _ _ _ _ _
      | exact conf_Right.mono _ _ _ _ _
      | exact signalboxlaw10_alive.mono _
      | exact signalboxlaw10_do.mono _ _ _ _ _ _ _
      | exact signalboxref10_Do.mono _ _ _ _ _ _ _
      | exact LeO.none _
      | refine LeO.ite ?_ ?_
      | refine LeO.bind ?_ (fun _ => ?_)
    · intro y0 y1 y2 y3 y4 y5 y6 y7 y8 y9 y10 y11 y12 y13 y14
      unfold signalboxlaw10_ConfPlays.j3
      repeat' first
      | (with_reducible exact ih0 _ _ _ _ _ _ _ _ _ _ _ _ _)
      | (with_reducible exact ih1 _ _ _ _ _ _ _ _ _ _ _ _ _ _ _ _)
      | (with_reducible exact ih2 _ _ _ _ _ _ _ _ _ _ _ _ _ _ _ _)
      | (with_reducible exact ih3 _ _ _ _ _ _ _ _ _ _ _ _ _ _ _)
      | (with_reducible exact conf_Right.mono _ _ _ _ _)
      | (with_reducible exact signalboxlaw10_alive.mono _)
      | (with_reducible exact signalboxlaw10_do.mono _ _ _ _ _ _ _)
      | (with_reducible exact signalboxref10_Do.mono _ _ _ _ _ _ _)
      | (with_reducible exact LeO.refl _)
      | (with_reducible exact LeO.none _)
      | (with_reducible refine LeO.ite ?_ ?_)
      | (with_reducible refine LeO.bind ?_ (fun _ => ?_))
      | exact ih0 _ _ _ _ _ _ _ _ _ _ _ _ _
      | exact ih1 _ _ _ _ _ _ _ _ _ _ _ _ _ _ _ _
      | exact ih2 _ _ _ _ _ _ _ _ _ _ _ _ _ _ _ _
      | exact ih3 _ _ _ _ _ _ _ _ _ _ _ _ _ _ _
      | exact conf_Right.mono _ _ _ _ _
      | exact signalboxlaw10_alive.mono _
      | exact signalboxlaw10_do.mono _ _ _ _ _ _ _
      | exact signalboxref10_Do.mono _ _ _ _ _ _ _
      | exact LeO.none _
      | refine LeO.ite ?_ ?_
      | refine LeO.bind ?_ (fun _ => ?_)
theorem signalboxlaw10_ConfPlays.mono : ∀ a0 a1 k, LeO (signalboxlaw10_ConfPlays.f k a0 a1) (signalboxlaw10_ConfPlays.f (k + 1) a0 a1) := by
  intro a0 a1 k
  obtain ⟨ih0, ih1, ih2, ih3⟩ := signalboxlaw10_ConfPlays.mono_l k
  unfold signalboxlaw10_ConfPlays.f
  repeat' first
      | (with_reducible exact ih0 _ _ _ _ _ _ _ _ _ _ _ _ _)
      | (with_reducible exact ih1 _ _ _ _ _ _ _ _ _ _ _ _ _ _ _ _)
      | (with_reducible exact ih2 _ _ _ _ _ _ _ _ _ _ _ _ _ _ _ _)
      | (with_reducible exact ih3 _ _ _ _ _ _ _ _ _ _ _ _ _ _ _)
      | (with_reducible exact conf_Right.mono _ _ _ _ _)
      | (with_reducible exact signalboxlaw10_alive.mono _)
      | (with_reducible exact signalboxlaw10_do.mono _ _ _ _ _ _ _)
      | (with_reducible exact signalboxref10_Do.mono _ _ _ _ _ _ _)
      | (with_reducible exact LeO.refl _)
      | (with_reducible exact LeO.none _)
      | (with_reducible refine LeO.ite ?_ ?_)
      | (with_reducible refine LeO.bind ?_ (fun _ => ?_))
      | exact ih0 _ _ _ _ _ _ _ _ _ _ _ _ _
      | exact ih1 _ _ _ _ _ _ _ _ _ _ _ _ _ _ _ _
      | exact ih2 _ _ _ _ _ _ _ _ _ _ _ _ _ _ _ _
      | exact ih3 _ _ _ _ _ _ _ _ _ _ _ _ _ _ _
      | exact conf_Right.mono _ _ _ _ _
      | exact signalboxlaw10_alive.mono _
      | exact signalboxlaw10_do.mono _ _ _ _ _ _ _
      | exact signalboxref10_Do.mono _ _ _ _ _ _ _
      | exact LeO.none _
      | refine LeO.ite ?_ ?_
      | refine LeO.bind ?_ (fun _ => ?_)
def signalboxlaw10_ConfPlays.T10 : Bool × List (List Nat × List Nat) := (true, [([], []), ([], []), ([], []), ([0, 1, 2], [0, 1, 2]), ([], []), ([], []), ([], []), ([4, 5, 6, 3], [4, 5, 6]), ([3, 7, 0, 1, 2, 3], [3]), ([7, 8, 0, 1, 2, 3, 4, 5, 6, 7, 8], [7])])
def signalboxlaw10_ConfPlays.B10 : List Nat := [0, 0, 0, 7, 0, 0, 0, 127, 255, 511]
theorem signalboxlaw10_ConfPlays.tab10 : rtab .any (opsOf Try.f6 10) = signalboxlaw10_ConfPlays.T10 := by kernel_rfl
theorem signalboxlaw10_ConfPlays.bits10 : waitsOk signalboxlaw10_ConfPlays.T10.2 signalboxlaw10_ConfPlays.B10 = true := by kernel_rfl
set_option maxHeartbeats 8000000 in
set_option maxRecDepth 100000 in
theorem signalboxlaw10_ConfPlays.calls (k : Nat) (A0 : Option Addr) (c0 : Nat) (l0 : List Int) (a1 : Int) (r : Bool) (w : World) (hr0 : Kd.C (Kd.int .i64) w A0 l0.length l0) (hc0 : l0.length ≤ c0) (h : signalboxlaw10_ConfPlays.f k l0 a1 = some r) :
    Calls Try.prog 6 #[.slice A0 l0.length c0, .int .i64 a1] w fun e w' => e = .returned (.bool r) ∧ Below w.heap.size w w' := by
  have hu23 := Try.underlying23
  have HR0 := Aside0.mk hr0
  have HC0 := Aside0.mk hc0
  clear hr0 hc0
  have HB := Aside0.mk (Below.refl w.heap.size w)
  have H : (if (l0.length : Int) > 400 then ((signalboxlaw10_alive.f k).bind fun t165 => (some t165)) else (signalboxlaw10_ConfPlays.l0 k a1 0 l0 (l0.length : Int) 0 0 0 false 0 0 0 false 0)) = some r := h
  clear h
  by_cases c3 : (l0.length : Int) > 400
  · rw [if_pos c3] at H
    have c3b0 : decide (400 < (l0.length : Int)) = true := decide_eq_true c3
    have c3b1 : decide (400 < l0.length) = true := decide_eq_true (by omega)
    clear c3
    replace H := Option.bind_eq_some_iff.mp H
    obtain ⟨t165, A40, H⟩ := H
    replace H : (some t165) = some r := H
    have A4 := Aside0.mk A40
    clear A40
    obtain rfl := Option.some.inj H
    go_enter Try.func6, Try.ntmps6
    go_wp2_with (first | ((with_reducible refine gate_callee (f := 12) rfl ?_); refine goesL_ (some 15) rfl rfl Try.func12 (by kernel_rfl) rfl #[] rfl (by (try simp only [List.map_toArray, List.map_cons, List.map_nil]); first | done | rfl | (simp only [List.length_drop, List.length_take]; rfl)) ?_; (with_reducible refine (signalboxlaw10_alive.calls k  t165 _ A4.out).mono ?_); rintro e w5 ⟨rfl, hb⟩; refine ⟨_, rfl, ?_⟩; have n0_ := Aside0.mk (below_step (by repeat (first | (with_reducible first | exact HB.out | apply below_alloc | apply pw_below_drewN | apply below_drew1) | exact HB.out)) hb); clear HB; have HB := n0_; clear n0_; (try clear hb); (try clear hb2); (try clear hk); (try clear hi)))
    go_ret
    exact ⟨by first | rfl | (simp [errW_none, errW_some] <;> rfl) | (simp [*, errW_none, errW_some] <;> rfl), by repeat (first | (with_reducible first | exact HB.out | apply below_alloc | apply pw_below_drewN | apply below_drew1) | exact HB.out)⟩
  · rw [if_neg c3] at H
    have c3b0 : decide (400 < (l0.length : Int)) = false := decide_eq_false c3
    have c3b1 : decide (400 < l0.length) = false := decide_eq_false (by omega)
    clear c3
    have H' := Aside0.mk H
    clear H
    go_enter Try.func6, Try.ntmps6
    go_wp2_with (first | ((with_reducible refine gate_dst (N := 5) rfl ?_); (try (refine gate_guard (by rfl) ?_; dsimp only)); refine box_event ?hg (N := 5) ?hd (cs := #[.int .i64 0, .int .i64 0, .bool false, .int .i64 0]) (t := 23) ?hr ?_; (case hd => rfl); (case hg => rfl); (case hr => first | (go_simp; done) | (go_simp; rfl)); intro gb166 hg w6 hbox hb; have n0_ := Aside0.mk (below_step (by repeat (first | (with_reducible first | exact HB.out | apply below_alloc | apply pw_below_drewN | apply below_drew1) | exact HB.out)) hb); have n1_ := Aside0.mk (hbox); have n2_ := Aside0.mk ((by rw [hg]; exact (below_size (by repeat (first | (with_reducible first | exact HB.out | apply below_alloc | apply pw_below_drewN | apply below_drew1) | exact HB.out))) : w.heap.size ≤ gb166)); have n3_ := Aside0.mk ((by rw [hg]; exact (below_size (by repeat (first | (with_reducible first | exact HB.out | apply below_alloc | apply pw_below_drewN | apply below_drew1) | exact HB.out))) : w.heap.size ≤ gb166)); clear HB; have HB := n0_; have BK166 := n1_; have GW166 := n2_; have GE166 := n3_; clear n0_ n1_ n2_ n3_; clear hb hbox hg) | ((with_reducible refine gate_dst (N := 6) rfl ?_); (try (refine gate_guard (by rfl) ?_; dsimp only)); refine box_event ?hg (N := 6) ?hd (cs := #[.int .i64 0, .int .i64 0, .bool false, .int .i64 0]) (t := 23) ?hr ?_; (case hd => rfl); (case hg => rfl); (case hr => first | (go_simp; done) | (go_simp; rfl)); intro gb167 hg w7 hbox hb; have n0_ := Aside0.mk (blk_below (g := gb166) (o := .cells #[.int .i64 0, .int .i64 0, .bool false, .int .i64 0] 23 (0, 0)) (by (with_reducible repeat (first | refine blk_drewN ?_ _ | refine blk_drew ?_ | refine blk_alloc ?_ _)); exact BK166.out) hb); have n1_ := Aside0.mk (below_step (by repeat (first | (with_reducible first | exact HB.out | apply below_alloc | apply pw_below_drewN | apply below_drew1 | refine below_set ?_ GE166.out) | exact HB.out)) hb); have n2_ := Aside0.mk (hbox); have n3_ := Aside0.mk ((by rw [hg]; exact (below_size (by repeat (first | (with_reducible first | exact HB.out | apply below_alloc | apply pw_below_drewN | apply below_drew1 | refine below_set ?_ GE166.out) | exact HB.out))) : w.heap.size ≤ gb167)); have n4_ := Aside0.mk ((by rw [hg]; exact (below_size (by repeat (first | (with_reducible first | exact HB.out | apply below_alloc | apply pw_below_drewN | apply below_drew1 | refine below_set ?_ GE166.out) | exact HB.out))) : w.heap.size ≤ gb167)); have n5_ := Aside0.mk ((by rw [hg]; exact Nat.ne_of_lt (blk_lt (g := gb166) (o := .cells #[.int .i64 0, .int .i64 0, .bool false, .int .i64 0] 23 (0, 0)) (by (with_reducible repeat (first | refine blk_drewN ?_ _ | refine blk_drew ?_ | refine blk_alloc ?_ _)); exact BK166.out)) : gb166 ≠ gb167)); have n6_ := Aside0.mk ((by rw [hg]; exact Nat.ne_of_gt (blk_lt (g := gb166) (o := .cells #[.int .i64 0, .int .i64 0, .bool false, .int .i64 0] 23 (0, 0)) (by (with_reducible repeat (first | refine blk_drewN ?_ _ | refine blk_drew ?_ | refine blk_alloc ?_ _)); exact BK166.out)) : gb167 ≠ gb166)); clear BK166; clear HB; have BK166 := n0_; have HB := n1_; have BK167 := n2_; have GW167 := n3_; have GE167 := n4_; have NB166_167 := n5_; have NB167_166 := n6_; clear n0_ n1_ n2_ n3_ n4_ n5_ n6_; clear hb hbox hg))
    go_loopg [7, 18] k (fun kq v7 v18 w' => ∃ (x7_1 : Int) (x18_1 : Int) (x167000_1 : Int) (x167001_1 : Int) (x167002_1 : Bool) (x167003_1 : Int) (x168000_1 : Int) (x168001_1 : Int) (x168002_1 : Bool) (x168003_1 : Int), v7 = .int .i64 x7_1 ∧ v18 = .int .i64 x18_1 ∧ Aside0 (signalboxlaw10_ConfPlays.l0 kq a1 x7_1 l0 (l0.length : Int) x18_1 x167000_1 x167001_1 x167002_1 x167003_1 x168000_1 x168001_1 x168002_1 x168003_1 = some r) ∧ Aside0 (kq ≤ k) ∧ Aside0 (w'.heap[gb166]? = some (.cells #[.int .i64 x167000_1, .int .i64 x167001_1, .bool x167002_1, .int .i64 x167003_1] 23 (0, 0))) ∧ Aside0 (w'.heap[gb167]? = some (.cells #[.int .i64 x168000_1, .int .i64 x168001_1, .bool x168002_1, .int .i64 x168003_1] 23 (0, 0))) ∧ Aside0 (Below w.heap.size w w'))
    case atStart => exact ⟨(0), (0), (0), (0), (false), (0), (0), (0), (false), (0), (by first | rfl | (simp; done) | (simp [*]; done)), (by first | rfl | (simp; done) | (simp [*]; done)), H', ⟨Nat.le_refl _⟩, ⟨by (with_reducible repeat (first | refine blk_drewN ?_ _ | refine blk_drew ?_ | refine blk_alloc ?_ _)); exact BK166.out⟩, ⟨by (with_reducible repeat (first | refine blk_drewN ?_ _ | refine blk_drew ?_ | refine blk_alloc ?_ _)); exact BK167.out⟩, ⟨by repeat (first | (with_reducible first | exact HB.out | apply below_alloc | apply pw_below_drewN | apply below_drew1 | refine below_set ?_ GE166.out | refine below_set ?_ GE167.out) | exact HB.out)⟩⟩
    case round =>
      clear H'
      try clear c1
      try clear p2
      try clear c3
      try clear c3b0
      try clear c3b1
      try clear c6
      obtain ⟨x7_1, x18_1, x167000_1, x167001_1, x167002_1, x167003_1, x168000_1, x168001_1, x168002_1, x168003_1, rfl, rfl, HA, HK1, BK166, BK167, HB⟩ := hrel
      cases gk with
      | zero => exact absurd HA.out (by simp [signalboxlaw10_ConfPlays.l0])
      | succ k1 =>
        have H := HA.out
        clear HA
        simp only [signalboxlaw10_ConfPlays.l0] at H
        by_cases c8 : x18_1 < (l0.length : Int)
        · rw [if_pos c8] at H
          have c8b0 : decide (x18_1 < (l0.length : Int)) = true := decide_eq_true c8
          clear c8
          by_cases c9 : 0 ≤ x18_1
          · rw [if_pos c9] at H
            have c9b0 : decide (0 ≤ x18_1) = true := decide_eq_true c9
            clear c9
            by_cases c10 : x18_1 < (l0.length : Int)
            · rw [if_pos c10] at H
              have c10b0 : decide (x18_1 < (l0.length : Int)) = true := decide_eq_true c10
              clear c10
              replace H := Option.bind_eq_some_iff.mp H
              obtain ⟨⟨t170, t171, t172, t173⟩, A110, H⟩ := H
              replace H : ((signalboxref10_Do.f k1 x168000_1 x168001_1 x168002_1 x168003_1 (Int.tmod (wrap64 ((Int.tmod (rd l0 x18_1) 5) + 5)) 5) a1).bind fun bt174 => (if (!(t170 == bt174.1) || (!(t171 == bt174.2.1) || (!(t172 == bt174.2.2.1) || (!(t173 == bt174.2.2.2))))) = true then (signalboxlaw10_ConfPlays.j1 k1 a1 x7_1 (Int.tmod (wrap64 ((Int.tmod (rd l0 x18_1) 5) + 5)) 5) x167002_1 l0 (l0.length : Int) x18_1 true t170 t171 t172 t173 bt174.1 bt174.2.1 bt174.2.2.1 bt174.2.2.2) else ((conf_Right.f k1 t170 t171 t172 t173).bind fun t178 => (if t178 = true then (if t172 = true then (if x167002_1 = true then (signalboxlaw10_ConfPlays.j1 k1 a1 x7_1 (Int.tmod (wrap64 ((Int.tmod (rd l0 x18_1) 5) + 5)) 5) x167002_1 l0 (l0.length : Int) x18_1 false t170 t171 t172 t173 bt174.1 bt174.2.1 bt174.2.2.1 bt174.2.2.2) else (signalboxlaw10_ConfPlays.j1 k1 a1 x7_1 (Int.tmod (wrap64 ((Int.tmod (rd l0 x18_1) 5) + 5)) 5) x167002_1 l0 (l0.length : Int) x18_1 ((Int.tmod (wrap64 ((Int.tmod (rd l0 x18_1) 5) + 5)) 5) != 2) t170 t171 t172 t173 bt174.1 bt174.2.1 bt174.2.2.1 bt174.2.2.2)) else (signalboxlaw10_ConfPlays.j1 k1 a1 x7_1 (Int.tmod (wrap64 ((Int.tmod (rd l0 x18_1) 5) + 5)) 5) x167002_1 l0 (l0.length : Int) x18_1 false t170 t171 t172 t173 bt174.1 bt174.2.1 bt174.2.2.1 bt174.2.2.2)) else (signalboxlaw10_ConfPlays.j1 k1 a1 x7_1 (Int.tmod (wrap64 ((Int.tmod (rd l0 x18_1) 5) + 5)) 5) x167002_1 l0 (l0.length : Int) x18_1 true t170 t171 t172 t173 bt174.1 bt174.2.1 bt174.2.2.1 bt174.2.2.2))))) = some r := H
              have A11 := Aside0.mk A110
              clear A110
              replace H := Option.bind_eq_some_iff.mp H
              obtain ⟨⟨t174, t175, t176, t177⟩, A120, H⟩ := H
              replace H : (if (!(t170 == t174) || (!(t171 == t175) || (!(t172 == t176) || (!(t173 == t177))))) = true then (signalboxlaw10_ConfPlays.j1 k1 a1 x7_1 (Int.tmod (wrap64 ((Int.tmod (rd l0 x18_1) 5) + 5)) 5) x167002_1 l0 (l0.length : Int) x18_1 true t170 t171 t172 t173 t174 t175 t176 t177) else ((conf_Right.f k1 t170 t171 t172 t173).bind fun t178 => (if t178 = true then (if t172 = true then (if x167002_1 = true then (signalboxlaw10_ConfPlays.j1 k1 a1 x7_1 (Int.tmod (wrap64 ((Int.tmod (rd l0 x18_1) 5) + 5)) 5) x167002_1 l0 (l0.length : Int) x18_1 false t170 t171 t172 t173 t174 t175 t176 t177) else (signalboxlaw10_ConfPlays.j1 k1 a1 x7_1 (Int.tmod (wrap64 ((Int.tmod (rd l0 x18_1) 5) + 5)) 5) x167002_1 l0 (l0.length : Int) x18_1 ((Int.tmod (wrap64 ((Int.tmod (rd l0 x18_1) 5) + 5)) 5) != 2) t170 t171 t172 t173 t174 t175 t176 t177)) else (signalboxlaw10_ConfPlays.j1 k1 a1 x7_1 (Int.tmod (wrap64 ((Int.tmod (rd l0 x18_1) 5) + 5)) 5) x167002_1 l0 (l0.length : Int) x18_1 false t170 t171 t172 t173 t174 t175 t176 t177)) else (signalboxlaw10_ConfPlays.j1 k1 a1 x7_1 (Int.tmod (wrap64 ((Int.tmod (rd l0 x18_1) 5) + 5)) 5) x167002_1 l0 (l0.length : Int) x18_1 true t170 t171 t172 t173 t174 t175 t176 t177)))) = some r := H
              have A12 := Aside0.mk A120
              clear A120
              have HC13 := Aside0.mk H
              clear H
              have p169 : 0 ≤ (x18_1 : Int) := of_decide_eq_true (by first | (with_reducible assumption) | assumption)
              have q169 : x18_1 < (l0.length : Int) := of_decide_eq_true (by first | (with_reducible assumption) | assumption)
              obtain ⟨ad169, e169, hx169_0⟩ := Kd.at_int HR0.out x18_1 p169 q169
              cases e169
              replace hx169_0 := (HB.out.cell (World.block_lt_of_cell? w _ hx169_0)).trans hx169_0
              replace p169 := eq_true p169
              replace q169 := eq_true q169
              have hnb14 := NB166_167.out
              have hnc14 := NB167_166.out
              have hcz15_0 : wr.cell? ⟨gb166, 0, none⟩ = some (.int .i64 x167000_1) := (blk_cell BK166.out 0).trans rfl
              have hcz15_1 : wr.cell? ⟨gb166, 1, none⟩ = some (.int .i64 x167001_1) := (blk_cell BK166.out 1).trans rfl
              have hcz15_2 : wr.cell? ⟨gb166, 2, none⟩ = some (.bool x167002_1) := (blk_cell BK166.out 2).trans rfl
              have hcz15_3 : wr.cell? ⟨gb166, 3, none⟩ = some (.int .i64 x167003_1) := (blk_cell BK166.out 3).trans rfl
              have hfz15_0 := blk_frozen BK166.out 0
              have hfz15_1 := blk_frozen BK166.out 1
              have hfz15_2 := blk_frozen BK166.out 2
              have hfz15_3 := blk_frozen BK166.out 3
              try go_wp2
              have n0_ := Aside0.mk (blk_drew BK166.out)
              have n1_ := Aside0.mk (blk_drew BK167.out)
              have n2_ := Aside0.mk (below_drew1 HB.out)
              clear BK166
              clear BK167
              clear HB
              have BK166 := n0_
              have BK167 := n1_
              have HB := n2_
              clear n0_ n1_ n2_
              refine start_ (n := 10) (S := fun w' => w'.cell? ⟨gb166, 0, none⟩ = some (.int .i64 x167000_1) ∧ w'.cell? ⟨gb166, 1, none⟩ = some (.int .i64 x167001_1) ∧ w'.cell? ⟨gb166, 2, none⟩ = some (.bool x167002_1) ∧ w'.cell? ⟨gb166, 3, none⟩ = some (.int .i64 x167003_1) ∧ w'.cell? ⟨gb167, 0, none⟩ = some (.int .i64 x168000_1) ∧ w'.cell? ⟨gb167, 1, none⟩ = some (.int .i64 x168001_1) ∧ w'.cell? ⟨gb167, 2, none⟩ = some (.bool x168002_1) ∧ w'.cell? ⟨gb167, 3, none⟩ = some (.int .i64 x168003_1)) (ds := [8, 9]) #[false, false, false, false, false, false, false, false, false, false] (by kernel_rfl) rfl rfl ⟨(blk_cell BK166.out 0).trans rfl, (blk_cell BK166.out 1).trans rfl, (blk_cell BK166.out 2).trans rfl, (blk_cell BK166.out 3).trans rfl, (blk_cell BK167.out 0).trans rfl, (blk_cell BK167.out 1).trans rfl, (blk_cell BK167.out 2).trans rfl, (blk_cell BK167.out 3).trans rfl⟩ (fun hHeld => ?_); refine with_tabW signalboxlaw10_ConfPlays.tab10 signalboxlaw10_ConfPlays.bits10 (fun HT_ HW_ => ?_)
              generalize wr.drew = w16 at BK166 BK167 HB hHeld ⊢
              refine pure_ (i := 1) (N := some 29) (v := ?_) (a' := ?_) #[false, true, false, false, false, false, false, false, false, false] rfl rfl (any_of HT_.out (by kernel_rfl)) (fun _ _ _ h => h) (Or.inl ⟨by rfl, ?_⟩) ?_ ?_
              rotate_left
              · intro w'
                go_simp
                with_reducible rfl
              rotate_left
              · simp only [Act.put, List.setIfInBounds_toArray, List.set_cons_zero, List.set_cons_succ, i64_w, i32_w]
                rfl
              refine pure_ (i := 2) (N := some 30) (v := ?_) (a' := ?_) #[false, true, true, false, false, false, false, false, false, false] rfl rfl (any_of HT_.out (by kernel_rfl)) (fun _ _ _ h => h) (Or.inl ⟨by rfl, ?_⟩) ?_ ?_
              rotate_left
              · intro w'
                go_simp
                with_reducible rfl
              rotate_left
              · simp only [Act.put, List.setIfInBounds_toArray, List.set_cons_zero, List.set_cons_succ, i64_w, i32_w]
                rfl
              refine pure_ (i := 5) (N := some 33) (v := ?_) (a' := ?_) #[false, true, true, false, false, true, false, false, false, false] rfl rfl (any_of HT_.out (by kernel_rfl)) (fun _ _ _ h => h) (Or.inl ⟨by rfl, ?_⟩) ?_ ?_
              rotate_left
              · intro w'
                go_simp
                with_reducible rfl
              rotate_left
              · simp only [Act.put, List.setIfInBounds_toArray, List.set_cons_zero, List.set_cons_succ, i64_w, i32_w]
                rfl
              refine pure_ (i := 6) (N := some 34) (v := ?_) (a' := ?_) #[false, true, true, false, false, true, true, false, false, false] rfl rfl (any_of HT_.out (by kernel_rfl)) (fun _ _ _ h => h) (Or.inl ⟨by rfl, ?_⟩) ?_ ?_
              rotate_left
              · intro w'
                go_simp
                with_reducible rfl
              rotate_left
              · simp only [Act.put, List.setIfInBounds_toArray, List.set_cons_zero, List.set_cons_succ, i64_w, i32_w]
                rfl
              refine take_ (i := 0) (N := some 28) (v := ?_) (a' := ?_) #[true, true, true, false, false, true, true, false, false, false] rfl rfl (take_ofW HT_.out HW_.out (by kernel_rfl)) (fun _ _ _ h => h) (Or.inl ⟨by rfl, ?_⟩) hHeld ?_ ?_
              rotate_left
              · rintro w' ⟨s0, s1, s2, s3, s4, s5, s6, s7⟩
                go_simp
                with_reducible rfl
              rotate_left
              · simp only [Act.put, List.setIfInBounds_toArray, List.set_cons_zero, List.set_cons_succ, i64_w, i32_w]
                rfl
              refine take_ (i := 4) (N := some 32) (v := ?_) (a' := ?_) #[true, true, true, false, true, true, true, false, false, false] rfl rfl (take_ofW HT_.out HW_.out (by kernel_rfl)) (fun _ _ _ h => h) (Or.inl ⟨by rfl, ?_⟩) hHeld ?_ ?_
              rotate_left
              · rintro w' ⟨s0, s1, s2, s3, s4, s5, s6, s7⟩
                go_simp
                with_reducible rfl
              rotate_left
              · simp only [Act.put, List.setIfInBounds_toArray, List.set_cons_zero, List.set_cons_succ, i64_w, i32_w]
                rfl
              refine one_ (i := 3) (N := some 31) #[true, true, true, true, true, true, true, false, false, false] rfl rfl (one_of HT_.out (by kernel_rfl)) (by decide) (fun K hK => ?_)
              refine goes_ Try.func18 (by kernel_rfl) rfl #[.agg #[.int .i64 x167000_1, .int .i64 x167001_1, .bool x167002_1, .int .i64 x167003_1], .int .i64 (Int.tmod (wrap64 ((Int.tmod (rd l0 x18_1) 5) + 5)) 5), .int .i64 a1] (by rfl) rfl rfl (by (try simp only [List.map_toArray, List.map_cons, List.map_nil]); first | done | rfl | (simp only [List.length_drop, List.length_take]; rfl)) ?_
              with_reducible refine (signalboxlaw10_do.calls k1 x167000_1 x167001_1 x167002_1 x167003_1 (Int.tmod (wrap64 ((Int.tmod (rd l0 x18_1) 5) + 5)) 5) a1 t170 t171 t172 t173 _ A11.out).mono ?_
              rintro e w17 ⟨rfl, hb⟩
              refine ⟨_, rfl, ?_⟩
              have n0_ := Aside0.mk (blk_below (g := gb166) (o := .cells #[.int .i64 x167000_1, .int .i64 x167001_1, .bool x167002_1, .int .i64 x167003_1] 23 (0, 0)) (by (with_reducible repeat (first | refine blk_drewN ?_ _ | refine blk_drew ?_ | refine blk_alloc ?_ _)); exact BK166.out) hb)
              have n1_ := Aside0.mk (blk_below (g := gb167) (o := .cells #[.int .i64 x168000_1, .int .i64 x168001_1, .bool x168002_1, .int .i64 x168003_1] 23 (0, 0)) (by (with_reducible repeat (first | refine blk_drewN ?_ _ | refine blk_drew ?_ | refine blk_alloc ?_ _)); exact BK167.out) hb)
              have n2_ := Aside0.mk (below_step (by repeat (first | (with_reducible first | exact HB.out | apply below_alloc | apply pw_below_drewN | apply below_drew1 | refine below_set ?_ GE166.out | refine below_set ?_ GE167.out) | exact HB.out)) hb)
              clear BK166
              clear BK167
              clear HB
              have BK166 := n0_
              have BK167 := n1_
              have HB := n2_
              clear n0_ n1_ n2_
              (try clear hb)
              (try clear hb2)
              (try clear hk)
              (try clear hi)
              refine hK.out _ _ ⟨(blk_cell BK166.out 0).trans rfl, (blk_cell BK166.out 1).trans rfl, (blk_cell BK166.out 2).trans rfl, (blk_cell BK166.out 3).trans rfl, (blk_cell BK167.out 0).trans rfl, (blk_cell BK167.out 1).trans rfl, (blk_cell BK167.out 2).trans rfl, (blk_cell BK167.out 3).trans rfl⟩ (fun hHeld => ?_)
              clear hK K
              refine norm_ (a' := ?_) ?_ ?_
              rotate_left
              · show Act.put _ (some 31) _ = _
                simp only [Act.put, List.setIfInBounds_toArray, List.set_cons_zero, List.set_cons_succ, i64_w, i32_w]
                rfl
              refine one_ (i := 7) (N := some 35) #[true, true, true, true, true, true, true, true, false, false] rfl rfl (one_of HT_.out (by kernel_rfl)) (by decide) (fun K hK => ?_)
              refine goes_ Try.func19 (by kernel_rfl) rfl #[.agg #[.int .i64 x168000_1, .int .i64 x168001_1, .bool x168002_1, .int .i64 x168003_1], .int .i64 (Int.tmod (wrap64 ((Int.tmod (rd l0 x18_1) 5) + 5)) 5), .int .i64 a1] (by rfl) rfl rfl (by (try simp only [List.map_toArray, List.map_cons, List.map_nil]); first | done | rfl | (simp only [List.length_drop, List.length_take]; rfl)) ?_
              with_reducible refine (signalboxref10_Do.calls k1 x168000_1 x168001_1 x168002_1 x168003_1 (Int.tmod (wrap64 ((Int.tmod (rd l0 x18_1) 5) + 5)) 5) a1 t174 t175 t176 t177 _ A12.out).mono ?_
              rintro e w18 ⟨rfl, hb⟩
              refine ⟨_, rfl, ?_⟩
              have n0_ := Aside0.mk (blk_below (g := gb166) (o := .cells #[.int .i64 x167000_1, .int .i64 x167001_1, .bool x167002_1, .int .i64 x167003_1] 23 (0, 0)) (by (with_reducible repeat (first | refine blk_drewN ?_ _ | refine blk_drew ?_ | refine blk_alloc ?_ _)); exact BK166.out) hb)
              have n1_ := Aside0.mk (blk_below (g := gb167) (o := .cells #[.int .i64 x168000_1, .int .i64 x168001_1, .bool x168002_1, .int .i64 x168003_1] 23 (0, 0)) (by (with_reducible repeat (first | refine blk_drewN ?_ _ | refine blk_drew ?_ | refine blk_alloc ?_ _)); exact BK167.out) hb)
              have n2_ := Aside0.mk (below_step (by repeat (first | (with_reducible first | exact HB.out | apply below_alloc | apply pw_below_drewN | apply below_drew1 | refine below_set ?_ GE166.out | refine below_set ?_ GE167.out) | exact HB.out)) hb)
              clear BK166
              clear BK167
              clear HB
              have BK166 := n0_
              have BK167 := n1_
              have HB := n2_
              clear n0_ n1_ n2_
              (try clear hb)
              (try clear hb2)
              (try clear hk)
              (try clear hi)
              refine hK.out _ _ ⟨(blk_cell BK166.out 0).trans rfl, (blk_cell BK166.out 1).trans rfl, (blk_cell BK166.out 2).trans rfl, (blk_cell BK166.out 3).trans rfl, (blk_cell BK167.out 0).trans rfl, (blk_cell BK167.out 1).trans rfl, (blk_cell BK167.out 2).trans rfl, (blk_cell BK167.out 3).trans rfl⟩ (fun hHeld => ?_)
              clear hK K
              refine norm_ (a' := ?_) ?_ ?_
              rotate_left
              · show Act.put _ (some 35) _ = _
                simp only [Act.put, List.setIfInBounds_toArray, List.set_cons_zero, List.set_cons_succ, i64_w, i32_w]
                rfl
              refine last_ (i := 8) (N := none) #[true, true, true, true, true, true, true, true, true, false] rfl rfl (one_of HT_.out (by kernel_rfl)) (by decide) (fun K hK => ?_)
              have hs19 : w18.cell? ⟨gb166, 0, none⟩ = some (.int .i64 x167000_1) := (blk_cell BK166.out 0).trans rfl
              have hfs19 := blk_frozen BK166.out 0
              have hns19_1 := NB167_166.out
              have hms19_1 := NB166_167.out
              have hs20 : w18.cell? ⟨gb166, 1, none⟩ = some (.int .i64 x167001_1) := (blk_cell BK166.out 1).trans rfl
              have hfs20 := blk_frozen BK166.out 1
              have hns20_1 := NB167_166.out
              have hms20_1 := NB166_167.out
              have hs21 : w18.cell? ⟨gb166, 2, none⟩ = some (.bool x167002_1) := (blk_cell BK166.out 2).trans rfl
              have hfs21 := blk_frozen BK166.out 2
              have hns21_1 := NB167_166.out
              have hms21_1 := NB166_167.out
              have hs22 : w18.cell? ⟨gb166, 3, none⟩ = some (.int .i64 x167003_1) := (blk_cell BK166.out 3).trans rfl
              have hfs22 := blk_frozen BK166.out 3
              have hns22_1 := NB167_166.out
              have hms22_1 := NB166_167.out
              refine skip_ (w1 := ?_) (by rfl) rfl ?_ ?_
              rotate_left
              · go_simp
                rfl
              refine hK.out _ _ ?_
              clear hK K
              refine last_ (i := 9) (N := none) #[true, true, true, true, true, true, true, true, true, true] rfl rfl (one_of HT_.out (by kernel_rfl)) (by decide) (fun K hK => ?_)
              have hs23 : w18.cell? ⟨gb167, 0, none⟩ = some (.int .i64 x168000_1) := (blk_cell BK167.out 0).trans rfl
              have hfs23 := blk_frozen BK167.out 0
              have hns23_0 := NB166_167.out
              have hms23_0 := NB167_166.out
              have hs24 : w18.cell? ⟨gb167, 1, none⟩ = some (.int .i64 x168001_1) := (blk_cell BK167.out 1).trans rfl
              have hfs24 := blk_frozen BK167.out 1
              have hns24_0 := NB166_167.out
              have hms24_0 := NB167_166.out
              have hs25 : w18.cell? ⟨gb167, 2, none⟩ = some (.bool x168002_1) := (blk_cell BK167.out 2).trans rfl
              have hfs25 := blk_frozen BK167.out 2
              have hns25_0 := NB166_167.out
              have hms25_0 := NB167_166.out
              have hs26 : w18.cell? ⟨gb167, 3, none⟩ = some (.int .i64 x168003_1) := (blk_cell BK167.out 3).trans rfl
              have hfs26 := blk_frozen BK167.out 3
              have hns26_0 := NB166_167.out
              have hms26_0 := NB167_166.out
              refine skip_ (w1 := ?_) (by rfl) rfl ?_ ?_
              rotate_left
              · go_simp
                rfl
              refine hK.out _ _ ?_
              clear hK K
              refine done_ (done_of HT_.out (by kernel_rfl)) ?_
              go_upto_region 11 with (fail)
              go_cut [55] (fun v55 wc => ∃ (kq : Nat) (x55_12 : Bool), v55 = .bool x55_12 ∧ Aside0 (signalboxlaw10_ConfPlays.j1 kq a1 x7_1 (Int.tmod (wrap64 ((Int.tmod (rd l0 x18_1) 5) + 5)) 5) x167002_1 l0 (l0.length : Int) x18_1 x55_12 t170 t171 t172 t173 t174 t175 t176 t177 = some r) ∧ Aside0 (kq ≤ k1) ∧ Aside0 (wc.heap[gb166]? = some (.cells #[.int .i64 t170, .int .i64 t171, .bool t172, .int .i64 t173] 23 (0, 0))) ∧ Aside0 (wc.heap[gb167]? = some (.cells #[.int .i64 t174, .int .i64 t175, .bool t176, .int .i64 t177] 23 (0, 0))) ∧ Aside0 (Below w.heap.size w wc))
              case first =>
                have H := HC13.out
                clear HC13
                by_cases c27 : (!(t170 == t174) || (!(t171 == t175) || (!(t172 == t176) || (!(t173 == t177))))) = true
                · rw [if_pos c27] at H
                  have c27b0 : (!(t170 == t174) || (!(t171 == t175) || (!(t172 == t176) || (!(t173 == t177))))) = true := c27
                  clear c27
                  (first | rw [c27b0] | (simp only [i64_w, i32_w]; rw [c27b0]) | skip)
                  (try simp only [Bool.true_beq, Bool.false_beq, beq_true, beq_false, Bool.not_not, Bool.not_true, Bool.not_false, Bool.true_and, Bool.false_and, Bool.and_true, Bool.and_false, Bool.true_or, Bool.false_or, Bool.or_true, Bool.or_false] at c27b0)
                  have H' := Aside0.mk H
                  clear H
                  have hnb28 := NB166_167.out
                  have hnc28 := NB167_166.out
                  have hcz29_0 : w18.cell? ⟨gb166, 0, none⟩ = some (.int .i64 x167000_1) := (blk_cell BK166.out 0).trans rfl
                  have hcz29_1 : w18.cell? ⟨gb166, 1, none⟩ = some (.int .i64 x167001_1) := (blk_cell BK166.out 1).trans rfl
                  have hcz29_2 : w18.cell? ⟨gb166, 2, none⟩ = some (.bool x167002_1) := (blk_cell BK166.out 2).trans rfl
                  have hcz29_3 : w18.cell? ⟨gb166, 3, none⟩ = some (.int .i64 x167003_1) := (blk_cell BK166.out 3).trans rfl
                  have hfz29_0 := blk_frozen BK166.out 0
                  have hfz29_1 := blk_frozen BK166.out 1
                  have hfz29_2 := blk_frozen BK166.out 2
                  have hfz29_3 := blk_frozen BK166.out 3
                  have hcz30_0 : w18.cell? ⟨gb167, 0, none⟩ = some (.int .i64 x168000_1) := (blk_cell BK167.out 0).trans rfl
                  have hcz30_1 : w18.cell? ⟨gb167, 1, none⟩ = some (.int .i64 x168001_1) := (blk_cell BK167.out 1).trans rfl
                  have hcz30_2 : w18.cell? ⟨gb167, 2, none⟩ = some (.bool x168002_1) := (blk_cell BK167.out 2).trans rfl
                  have hcz30_3 : w18.cell? ⟨gb167, 3, none⟩ = some (.int .i64 x168003_1) := (blk_cell BK167.out 3).trans rfl
                  have hfz30_0 := blk_frozen BK167.out 0
                  have hfz30_1 := blk_frozen BK167.out 1
                  have hfz30_2 := blk_frozen BK167.out 2
                  have hfz30_3 := blk_frozen BK167.out 3
                  go_wp2
                  go_meet
                  case rel => exact ⟨_, (true), (by first | rfl | (simp; done) | (simp [*]; done)), H', ⟨by have := HK1.out; first | omega | exact Nat.le_refl _⟩, ⟨by (with_reducible repeat (first | refine blk_drewN ?_ _ | refine blk_drew ?_ | refine blk_alloc ?_ _)); refine blk_far ?_ NB166_167.out _; (with_reducible repeat (first | refine blk_drewN ?_ _ | refine blk_drew ?_ | refine blk_alloc ?_ _)); refine blk_far ?_ NB166_167.out _; (with_reducible repeat (first | refine blk_drewN ?_ _ | refine blk_drew ?_ | refine blk_alloc ?_ _)); refine blk_far ?_ NB166_167.out _; (with_reducible repeat (first | refine blk_drewN ?_ _ | refine blk_drew ?_ | refine blk_alloc ?_ _)); refine blk_far ?_ NB166_167.out _; (with_reducible repeat (first | refine blk_drewN ?_ _ | refine blk_drew ?_ | refine blk_alloc ?_ _)); refine blk_put (cs := #[.int .i64 t170, .int .i64 t171, .bool t172, .int .i64 x167003_1]) ?_ 3 _ rfl; (with_reducible repeat (first | refine blk_drewN ?_ _ | refine blk_drew ?_ | refine blk_alloc ?_ _)); refine blk_put (cs := #[.int .i64 t170, .int .i64 t171, .bool x167002_1, .int .i64 x167003_1]) ?_ 2 _ rfl; (with_reducible repeat (first | refine blk_drewN ?_ _ | refine blk_drew ?_ | refine blk_alloc ?_ _)); refine blk_put (cs := #[.int .i64 t170, .int .i64 x167001_1, .bool x167002_1, .int .i64 x167003_1]) ?_ 1 _ rfl; (with_reducible repeat (first | refine blk_drewN ?_ _ | refine blk_drew ?_ | refine blk_alloc ?_ _)); refine blk_put (cs := #[.int .i64 x167000_1, .int .i64 x167001_1, .bool x167002_1, .int .i64 x167003_1]) ?_ 0 _ rfl; (with_reducible repeat (first | refine blk_drewN ?_ _ | refine blk_drew ?_ | refine blk_alloc ?_ _)); exact BK166.out⟩, ⟨by (with_reducible repeat (first | refine blk_drewN ?_ _ | refine blk_drew ?_ | refine blk_alloc ?_ _)); refine blk_put (cs := #[.int .i64 t174, .int .i64 t175, .bool t176, .int .i64 x168003_1]) ?_ 3 _ rfl; (with_reducible repeat (first | refine blk_drewN ?_ _ | refine blk_drew ?_ | refine blk_alloc ?_ _)); refine blk_put (cs := #[.int .i64 t174, .int .i64 t175, .bool x168002_1, .int .i64 x168003_1]) ?_ 2 _ rfl; (with_reducible repeat (first | refine blk_drewN ?_ _ | refine blk_drew ?_ | refine blk_alloc ?_ _)); refine blk_put (cs := #[.int .i64 t174, .int .i64 x168001_1, .bool x168002_1, .int .i64 x168003_1]) ?_ 1 _ rfl; (with_reducible repeat (first | refine blk_drewN ?_ _ | refine blk_drew ?_ | refine blk_alloc ?_ _)); refine blk_put (cs := #[.int .i64 x168000_1, .int .i64 x168001_1, .bool x168002_1, .int .i64 x168003_1]) ?_ 0 _ rfl; (with_reducible repeat (first | refine blk_drewN ?_ _ | refine blk_drew ?_ | refine blk_alloc ?_ _)); refine blk_far ?_ NB167_166.out _; (with_reducible repeat (first | refine blk_drewN ?_ _ | refine blk_drew ?_ | refine blk_alloc ?_ _)); refine blk_far ?_ NB167_166.out _; (with_reducible repeat (first | refine blk_drewN ?_ _ | refine blk_drew ?_ | refine blk_alloc ?_ _)); refine blk_far ?_ NB167_166.out _; (with_reducible repeat (first | refine blk_drewN ?_ _ | refine blk_drew ?_ | refine blk_alloc ?_ _)); refine blk_far ?_ NB167_166.out _; (with_reducible repeat (first | refine blk_drewN ?_ _ | refine blk_drew ?_ | refine blk_alloc ?_ _)); exact BK167.out⟩, ⟨by repeat (first | (with_reducible first | exact HB.out | apply below_alloc | apply pw_below_drewN | apply below_drew1 | refine below_set ?_ GE166.out | refine below_set ?_ GE167.out) | exact HB.out)⟩⟩
                · rw [if_neg c27] at H
                  have c27b0 : (!(t170 == t174) || (!(t171 == t175) || (!(t172 == t176) || (!(t173 == t177))))) = false := by simpa using c27
                  clear c27
                  (first | rw [c27b0] | (simp only [i64_w, i32_w]; rw [c27b0]) | skip)
                  (try simp only [Bool.true_beq, Bool.false_beq, beq_true, beq_false, Bool.not_not, Bool.not_true, Bool.not_false, Bool.true_and, Bool.false_and, Bool.and_true, Bool.and_false, Bool.true_or, Bool.false_or, Bool.or_true, Bool.or_false] at c27b0)
                  replace H := Option.bind_eq_some_iff.mp H
                  obtain ⟨t178, A310, H⟩ := H
                  replace H : (if t178 = true then (if t172 = true then (if x167002_1 = true then (signalboxlaw10_ConfPlays.j1 k1 a1 x7_1 (Int.tmod (wrap64 ((Int.tmod (rd l0 x18_1) 5) + 5)) 5) x167002_1 l0 (l0.length : Int) x18_1 false t170 t171 t172 t173 t174 t175 t176 t177) else (signalboxlaw10_ConfPlays.j1 k1 a1 x7_1 (Int.tmod (wrap64 ((Int.tmod (rd l0 x18_1) 5) + 5)) 5) x167002_1 l0 (l0.length : Int) x18_1 ((Int.tmod (wrap64 ((Int.tmod (rd l0 x18_1) 5) + 5)) 5) != 2) t170 t171 t172 t173 t174 t175 t176 t177)) else (signalboxlaw10_ConfPlays.j1 k1 a1 x7_1 (Int.tmod (wrap64 ((Int.tmod (rd l0 x18_1) 5) + 5)) 5) x167002_1 l0 (l0.length : Int) x18_1 false t170 t171 t172 t173 t174 t175 t176 t177)) else (signalboxlaw10_ConfPlays.j1 k1 a1 x7_1 (Int.tmod (wrap64 ((Int.tmod (rd l0 x18_1) 5) + 5)) 5) x167002_1 l0 (l0.length : Int) x18_1 true t170 t171 t172 t173 t174 t175 t176 t177)) = some r := H
                  have A31 := Aside0.mk A310
                  clear A310
                  by_cases c32 : t178 = true
                  · subst c32
                    (try simp only [Bool.true_beq, Bool.false_beq, beq_true, beq_false, Bool.not_not, Bool.not_true, Bool.not_false, Bool.true_and, Bool.false_and, Bool.and_true, Bool.and_false, Bool.true_or, Bool.false_or, Bool.or_true, Bool.or_false] at c27b0)
                    have H1 : (if t172 = true then (if x167002_1 = true then (signalboxlaw10_ConfPlays.j1 k1 a1 x7_1 (Int.tmod (wrap64 ((Int.tmod (rd l0 x18_1) 5) + 5)) 5) x167002_1 l0 (l0.length : Int) x18_1 false t170 t171 t172 t173 t174 t175 t176 t177) else (signalboxlaw10_ConfPlays.j1 k1 a1 x7_1 (Int.tmod (wrap64 ((Int.tmod (rd l0 x18_1) 5) + 5)) 5) x167002_1 l0 (l0.length : Int) x18_1 ((Int.tmod (wrap64 ((Int.tmod (rd l0 x18_1) 5) + 5)) 5) != 2) t170 t171 t172 t173 t174 t175 t176 t177)) else (signalboxlaw10_ConfPlays.j1 k1 a1 x7_1 (Int.tmod (wrap64 ((Int.tmod (rd l0 x18_1) 5) + 5)) 5) x167002_1 l0 (l0.length : Int) x18_1 false t170 t171 t172 t173 t174 t175 t176 t177)) = some r := by rw [if_pos rfl] at H; exact H
                    clear H
                    have H := H1
                    clear H1
                    by_cases c33 : t172 = true
                    · subst c33
                      (try simp only [Bool.true_beq, Bool.false_beq, beq_true, beq_false, Bool.not_not, Bool.not_true, Bool.not_false, Bool.true_and, Bool.false_and, Bool.and_true, Bool.and_false, Bool.true_or, Bool.false_or, Bool.or_true, Bool.or_false] at c27b0)
                      have H1 : (if x167002_1 = true then (signalboxlaw10_ConfPlays.j1 k1 a1 x7_1 (Int.tmod (wrap64 ((Int.tmod (rd l0 x18_1) 5) + 5)) 5) x167002_1 l0 (l0.length : Int) x18_1 false t170 t171 true t173 t174 t175 t176 t177) else (signalboxlaw10_ConfPlays.j1 k1 a1 x7_1 (Int.tmod (wrap64 ((Int.tmod (rd l0 x18_1) 5) + 5)) 5) x167002_1 l0 (l0.length : Int) x18_1 ((Int.tmod (wrap64 ((Int.tmod (rd l0 x18_1) 5) + 5)) 5) != 2) t170 t171 true t173 t174 t175 t176 t177)) = some r := by rw [if_pos rfl] at H; exact H
                      clear H
                      have H := H1
                      clear H1
                      by_cases c34 : x167002_1 = true
                      · subst c34
                        (try simp only [Bool.true_beq, Bool.false_beq, beq_true, beq_false, Bool.not_not, Bool.not_true, Bool.not_false, Bool.true_and, Bool.false_and, Bool.and_true, Bool.and_false, Bool.true_or, Bool.false_or, Bool.or_true, Bool.or_false] at c27b0)
                        have H1 : (signalboxlaw10_ConfPlays.j1 k1 a1 x7_1 (Int.tmod (wrap64 ((Int.tmod (rd l0 x18_1) 5) + 5)) 5) true l0 (l0.length : Int) x18_1 false t170 t171 true t173 t174 t175 t176 t177) = some r := by rw [if_pos rfl] at H; exact H
                        clear H
                        have H := H1
                        clear H1
                        have H' := Aside0.mk H
                        clear H
                        have hnb35 := NB166_167.out
                        have hnc35 := NB167_166.out
                        have hcz36_0 : w18.cell? ⟨gb166, 0, none⟩ = some (.int .i64 x167000_1) := (blk_cell BK166.out 0).trans rfl
                        have hcz36_1 : w18.cell? ⟨gb166, 1, none⟩ = some (.int .i64 x167001_1) := (blk_cell BK166.out 1).trans rfl
                        have hcz36_2 : w18.cell? ⟨gb166, 2, none⟩ = some (.bool true) := (blk_cell BK166.out 2).trans rfl
                        have hcz36_3 : w18.cell? ⟨gb166, 3, none⟩ = some (.int .i64 x167003_1) := (blk_cell BK166.out 3).trans rfl
                        have hfz36_0 := blk_frozen BK166.out 0
                        have hfz36_1 := blk_frozen BK166.out 1
                        have hfz36_2 := blk_frozen BK166.out 2
                        have hfz36_3 := blk_frozen BK166.out 3
                        have hcz37_0 : w18.cell? ⟨gb167, 0, none⟩ = some (.int .i64 x168000_1) := (blk_cell BK167.out 0).trans rfl
                        have hcz37_1 : w18.cell? ⟨gb167, 1, none⟩ = some (.int .i64 x168001_1) := (blk_cell BK167.out 1).trans rfl
                        have hcz37_2 : w18.cell? ⟨gb167, 2, none⟩ = some (.bool x168002_1) := (blk_cell BK167.out 2).trans rfl
                        have hcz37_3 : w18.cell? ⟨gb167, 3, none⟩ = some (.int .i64 x168003_1) := (blk_cell BK167.out 3).trans rfl
                        have hfz37_0 := blk_frozen BK167.out 0
                        have hfz37_1 := blk_frozen BK167.out 1
                        have hfz37_2 := blk_frozen BK167.out 2
                        have hfz37_3 := blk_frozen BK167.out 3
                        go_wp2_with (first | (go_at_call 7; (with_reducible refine (conf_Right.calls k1 t170 t171 true t173 true _ A31.out).mono ?_); rintro e w38 ⟨rfl, hb⟩; have n0_ := Aside0.mk (blk_below (g := gb166) (o := .cells #[.int .i64 t170, .int .i64 t171, .bool true, .int .i64 t173] 23 (0, 0)) (by (with_reducible repeat (first | refine blk_drewN ?_ _ | refine blk_drew ?_ | refine blk_alloc ?_ _)); refine blk_far ?_ NB166_167.out _; (with_reducible repeat (first | refine blk_drewN ?_ _ | refine blk_drew ?_ | refine blk_alloc ?_ _)); refine blk_far ?_ NB166_167.out _; (with_reducible repeat (first | refine blk_drewN ?_ _ | refine blk_drew ?_ | refine blk_alloc ?_ _)); refine blk_far ?_ NB166_167.out _; (with_reducible repeat (first | refine blk_drewN ?_ _ | refine blk_drew ?_ | refine blk_alloc ?_ _)); refine blk_far ?_ NB166_167.out _; (with_reducible repeat (first | refine blk_drewN ?_ _ | refine blk_drew ?_ | refine blk_alloc ?_ _)); refine blk_put (cs := #[.int .i64 t170, .int .i64 t171, .bool true, .int .i64 x167003_1]) ?_ 3 _ rfl; (with_reducible repeat (first | refine blk_drewN ?_ _ | refine blk_drew ?_ | refine blk_alloc ?_ _)); refine blk_put (cs := #[.int .i64 t170, .int .i64 t171, .bool true, .int .i64 x167003_1]) ?_ 2 _ rfl; (with_reducible repeat (first | refine blk_drewN ?_ _ | refine blk_drew ?_ | refine blk_alloc ?_ _)); refine blk_put (cs := #[.int .i64 t170, .int .i64 x167001_1, .bool true, .int .i64 x167003_1]) ?_ 1 _ rfl; (with_reducible repeat (first | refine blk_drewN ?_ _ | refine blk_drew ?_ | refine blk_alloc ?_ _)); refine blk_put (cs := #[.int .i64 x167000_1, .int .i64 x167001_1, .bool true, .int .i64 x167003_1]) ?_ 0 _ rfl; (with_reducible repeat (first | refine blk_drewN ?_ _ | refine blk_drew ?_ | refine blk_alloc ?_ _)); exact BK166.out) hb); have n1_ := Aside0.mk (blk_below (g := gb167) (o := .cells #[.int .i64 t174, .int .i64 t175, .bool t176, .int .i64 t177] 23 (0, 0)) (by (with_reducible repeat (first | refine blk_drewN ?_ _ | refine blk_drew ?_ | refine blk_alloc ?_ _)); refine blk_put (cs := #[.int .i64 t174, .int .i64 t175, .bool t176, .int .i64 x168003_1]) ?_ 3 _ rfl; (with_reducible repeat (first | refine blk_drewN ?_ _ | refine blk_drew ?_ | refine blk_alloc ?_ _)); refine blk_put (cs := #[.int .i64 t174, .int .i64 t175, .bool x168002_1, .int .i64 x168003_1]) ?_ 2 _ rfl; (with_reducible repeat (first | refine blk_drewN ?_ _ | refine blk_drew ?_ | refine blk_alloc ?_ _)); refine blk_put (cs := #[.int .i64 t174, .int .i64 x168001_1, .bool x168002_1, .int .i64 x168003_1]) ?_ 1 _ rfl; (with_reducible repeat (first | refine blk_drewN ?_ _ | refine blk_drew ?_ | refine blk_alloc ?_ _)); refine blk_put (cs := #[.int .i64 x168000_1, .int .i64 x168001_1, .bool x168002_1, .int .i64 x168003_1]) ?_ 0 _ rfl; (with_reducible repeat (first | refine blk_drewN ?_ _ | refine blk_drew ?_ | refine blk_alloc ?_ _)); refine blk_far ?_ NB167_166.out _; (with_reducible repeat (first | refine blk_drewN ?_ _ | refine blk_drew ?_ | refine blk_alloc ?_ _)); refine blk_far ?_ NB167_166.out _; (with_reducible repeat (first | refine blk_drewN ?_ _ | refine blk_drew ?_ | refine blk_alloc ?_ _)); refine blk_far ?_ NB167_166.out _; (with_reducible repeat (first | refine blk_drewN ?_ _ | refine blk_drew ?_ | refine blk_alloc ?_ _)); refine blk_far ?_ NB167_166.out _; (with_reducible repeat (first | refine blk_drewN ?_ _ | refine blk_drew ?_ | refine blk_alloc ?_ _)); exact BK167.out) hb); have n2_ := Aside0.mk (below_step (by repeat (first | (with_reducible first | exact HB.out | apply below_alloc | apply pw_below_drewN | apply below_drew1 | refine below_set ?_ GE166.out | refine below_set ?_ GE167.out) | exact HB.out)) hb); clear BK166; clear BK167; clear HB; have BK166 := n0_; have BK167 := n1_; have HB := n2_; clear n0_ n1_ n2_; (try clear hb); (try clear hb2); (try clear hk); (try clear hi); have hcz39_0 : w38.cell? ⟨gb166, 0, none⟩ = some (.int .i64 t170) := (blk_cell BK166.out 0).trans rfl; have hcz39_1 : w38.cell? ⟨gb166, 1, none⟩ = some (.int .i64 t171) := (blk_cell BK166.out 1).trans rfl; have hcz39_2 : w38.cell? ⟨gb166, 2, none⟩ = some (.bool true) := (blk_cell BK166.out 2).trans rfl; have hcz39_3 : w38.cell? ⟨gb166, 3, none⟩ = some (.int .i64 t173) := (blk_cell BK166.out 3).trans rfl; have hfz39_0 := blk_frozen BK166.out 0; have hfz39_1 := blk_frozen BK166.out 1; have hfz39_2 := blk_frozen BK166.out 2; have hfz39_3 := blk_frozen BK166.out 3))
                        go_meet
                        case rel => exact ⟨_, (false), (by first | rfl | (simp; done) | (simp [*]; done)), H', ⟨by have := HK1.out; first | omega | exact Nat.le_refl _⟩, ⟨by (with_reducible repeat (first | refine blk_drewN ?_ _ | refine blk_drew ?_ | refine blk_alloc ?_ _)); exact BK166.out⟩, ⟨by (with_reducible repeat (first | refine blk_drewN ?_ _ | refine blk_drew ?_ | refine blk_alloc ?_ _)); exact BK167.out⟩, ⟨by repeat (first | (with_reducible first | exact HB.out | apply below_alloc | apply pw_below_drewN | apply below_drew1 | refine below_set ?_ GE166.out | refine below_set ?_ GE167.out) | exact HB.out)⟩⟩
                      · replace c34 := Bool.eq_false_iff.mpr c34
                        subst c34
                        (try simp only [Bool.true_beq, Bool.false_beq, beq_true, beq_false, Bool.not_not, Bool.not_true, Bool.not_false, Bool.true_and, Bool.false_and, Bool.and_true, Bool.and_false, Bool.true_or, Bool.false_or, Bool.or_true, Bool.or_false] at c27b0)
                        have H1 : (signalboxlaw10_ConfPlays.j1 k1 a1 x7_1 (Int.tmod (wrap64 ((Int.tmod (rd l0 x18_1) 5) + 5)) 5) false l0 (l0.length : Int) x18_1 ((Int.tmod (wrap64 ((Int.tmod (rd l0 x18_1) 5) + 5)) 5) != 2) t170 t171 true t173 t174 t175 t176 t177) = some r := by rw [if_neg (show ¬ (false = true) by decide)] at H; exact H
                        clear H
                        have H := H1
                        clear H1
                        have H' := Aside0.mk H
                        clear H
                        have hnb40 := NB166_167.out
                        have hnc40 := NB167_166.out
                        have hcz41_0 : w18.cell? ⟨gb166, 0, none⟩ = some (.int .i64 x167000_1) := (blk_cell BK166.out 0).trans rfl
                        have hcz41_1 : w18.cell? ⟨gb166, 1, none⟩ = some (.int .i64 x167001_1) := (blk_cell BK166.out 1).trans rfl
                        have hcz41_2 : w18.cell? ⟨gb166, 2, none⟩ = some (.bool false) := (blk_cell BK166.out 2).trans rfl
                        have hcz41_3 : w18.cell? ⟨gb166, 3, none⟩ = some (.int .i64 x167003_1) := (blk_cell BK166.out 3).trans rfl
                        have hfz41_0 := blk_frozen BK166.out 0
                        have hfz41_1 := blk_frozen BK166.out 1
                        have hfz41_2 := blk_frozen BK166.out 2
                        have hfz41_3 := blk_frozen BK166.out 3
                        have hcz42_0 : w18.cell? ⟨gb167, 0, none⟩ = some (.int .i64 x168000_1) := (blk_cell BK167.out 0).trans rfl
                        have hcz42_1 : w18.cell? ⟨gb167, 1, none⟩ = some (.int .i64 x168001_1) := (blk_cell BK167.out 1).trans rfl
                        have hcz42_2 : w18.cell? ⟨gb167, 2, none⟩ = some (.bool x168002_1) := (blk_cell BK167.out 2).trans rfl
                        have hcz42_3 : w18.cell? ⟨gb167, 3, none⟩ = some (.int .i64 x168003_1) := (blk_cell BK167.out 3).trans rfl
                        have hfz42_0 := blk_frozen BK167.out 0
                        have hfz42_1 := blk_frozen BK167.out 1
                        have hfz42_2 := blk_frozen BK167.out 2
                        have hfz42_3 := blk_frozen BK167.out 3
                        go_wp2_with (first | (go_at_call 7; (with_reducible refine (conf_Right.calls k1 t170 t171 true t173 true _ A31.out).mono ?_); rintro e w43 ⟨rfl, hb⟩; have n0_ := Aside0.mk (blk_below (g := gb166) (o := .cells #[.int .i64 t170, .int .i64 t171, .bool true, .int .i64 t173] 23 (0, 0)) (by (with_reducible repeat (first | refine blk_drewN ?_ _ | refine blk_drew ?_ | refine blk_alloc ?_ _)); refine blk_far ?_ NB166_167.out _; (with_reducible repeat (first | refine blk_drewN ?_ _ | refine blk_drew ?_ | refine blk_alloc ?_ _)); refine blk_far ?_ NB166_167.out _; (with_reducible repeat (first | refine blk_drewN ?_ _ | refine blk_drew ?_ | refine blk_alloc ?_ _)); refine blk_far ?_ NB166_167.out _; (with_reducible repeat (first | refine blk_drewN ?_ _ | refine blk_drew ?_ | refine blk_alloc ?_ _)); refine blk_far ?_ NB166_167.out _; (with_reducible repeat (first | refine blk_drewN ?_ _ | refine blk_drew ?_ | refine blk_alloc ?_ _)); refine blk_put (cs := #[.int .i64 t170, .int .i64 t171, .bool true, .int .i64 x167003_1]) ?_ 3 _ rfl; (with_reducible repeat (first | refine blk_drewN ?_ _ | refine blk_drew ?_ | refine blk_alloc ?_ _)); refine blk_put (cs := #[.int .i64 t170, .int .i64 t171, .bool false, .int .i64 x167003_1]) ?_ 2 _ rfl; (with_reducible repeat (first | refine blk_drewN ?_ _ | refine blk_drew ?_ | refine blk_alloc ?_ _)); refine blk_put (cs := #[.int .i64 t170, .int .i64 x167001_1, .bool false, .int .i64 x167003_1]) ?_ 1 _ rfl; (with_reducible repeat (first | refine blk_drewN ?_ _ | refine blk_drew ?_ | refine blk_alloc ?_ _)); refine blk_put (cs := #[.int .i64 x167000_1, .int .i64 x167001_1, .bool false, .int .i64 x167003_1]) ?_ 0 _ rfl; (with_reducible repeat (first | refine blk_drewN ?_ _ | refine blk_drew ?_ | refine blk_alloc ?_ _)); exact BK166.out) hb); have n1_ := Aside0.mk (blk_below (g := gb167) (o := .cells #[.int .i64 t174, .int .i64 t175, .bool t176, .int .i64 t177] 23 (0, 0)) (by (with_reducible repeat (first | refine blk_drewN ?_ _ | refine blk_drew ?_ | refine blk_alloc ?_ _)); refine blk_put (cs := #[.int .i64 t174, .int .i64 t175, .bool t176, .int .i64 x168003_1]) ?_ 3 _ rfl; (with_reducible repeat (first | refine blk_drewN ?_ _ | refine blk_drew ?_ | refine blk_alloc ?_ _)); refine blk_put (cs := #[.int .i64 t174, .int .i64 t175, .bool x168002_1, .int .i64 x168003_1]) ?_ 2 _ rfl; (with_reducible repeat (first | refine blk_drewN ?_ _ | refine blk_drew ?_ | refine blk_alloc ?_ _)); refine blk_put (cs := #[.int .i64 t174, .int .i64 x168001_1, .bool x168002_1, .int .i64 x168003_1]) ?_ 1 _ rfl; (with_reducible repeat (first | refine blk_drewN ?_ _ | refine blk_drew ?_ | refine blk_alloc ?_ _)); refine blk_put (cs := #[.int .i64 x168000_1, .int .i64 x168001_1, .bool x168002_1, .int .i64 x168003_1]) ?_ 0 _ rfl; (with_reducible repeat (first | refine blk_drewN ?_ _ | refine blk_drew ?_ | refine blk_alloc ?_ _)); refine blk_far ?_ NB167_166.out _; (with_reducible repeat (first | refine blk_drewN ?_ _ | refine blk_drew ?_ | refine blk_alloc ?_ _)); refine blk_far ?_ NB167_166.out _; (with_reducible repeat (first | refine blk_drewN ?_ _ | refine blk_drew ?_ | refine blk_alloc ?_ _)); refine blk_far ?_ NB167_166.out _; (with_reducible repeat (first | refine blk_drewN ?_ _ | refine blk_drew ?_ | refine blk_alloc ?_ _)); refine blk_far ?_ NB167_166.out _; (with_reducible repeat (first | refine blk_drewN ?_ _ | refine blk_drew ?_ | refine blk_alloc ?_ _)); exact BK167.out) hb); have n2_ := Aside0.mk (below_step (by repeat (first | (with_reducible first | exact HB.out | apply below_alloc | apply pw_below_drewN | apply below_drew1 | refine below_set ?_ GE166.out | refine below_set ?_ GE167.out) | exact HB.out)) hb); clear BK166; clear BK167; clear HB; have BK166 := n0_; have BK167 := n1_; have HB := n2_; clear n0_ n1_ n2_; (try clear hb); (try clear hb2); (try clear hk); (try clear hi); have hcz44_0 : w43.cell? ⟨gb166, 0, none⟩ = some (.int .i64 t170) := (blk_cell BK166.out 0).trans rfl; have hcz44_1 : w43.cell? ⟨gb166, 1, none⟩ = some (.int .i64 t171) := (blk_cell BK166.out 1).trans rfl; have hcz44_2 : w43.cell? ⟨gb166, 2, none⟩ = some (.bool true) := (blk_cell BK166.out 2).trans rfl; have hcz44_3 : w43.cell? ⟨gb166, 3, none⟩ = some (.int .i64 t173) := (blk_cell BK166.out 3).trans rfl; have hfz44_0 := blk_frozen BK166.out 0; have hfz44_1 := blk_frozen BK166.out 1; have hfz44_2 := blk_frozen BK166.out 2; have hfz44_3 := blk_frozen BK166.out 3))
                        go_meet
                        case rel => exact ⟨_, (((Int.tmod (wrap64 ((Int.tmod (rd l0 x18_1) 5) + 5)) 5) != 2)), (by first | rfl | (simp; done) | (simp [*]; done)), H', ⟨by have := HK1.out; first | omega | exact Nat.le_refl _⟩, ⟨by (with_reducible repeat (first | refine blk_drewN ?_ _ | refine blk_drew ?_ | refine blk_alloc ?_ _)); exact BK166.out⟩, ⟨by (with_reducible repeat (first | refine blk_drewN ?_ _ | refine blk_drew ?_ | refine blk_alloc ?_ _)); exact BK167.out⟩, ⟨by repeat (first | (with_reducible first | exact HB.out | apply below_alloc | apply pw_below_drewN | apply below_drew1 | refine below_set ?_ GE166.out | refine below_set ?_ GE167.out) | exact HB.out)⟩⟩
                    · replace c33 := Bool.eq_false_iff.mpr c33
                      subst c33
                      (try simp only [Bool.true_beq, Bool.false_beq, beq_true, beq_false, Bool.not_not, Bool.not_true, Bool.not_false, Bool.true_and, Bool.false_and, Bool.and_true, Bool.and_false, Bool.true_or, Bool.false_or, Bool.or_true, Bool.or_false] at c27b0)
                      have H1 : (signalboxlaw10_ConfPlays.j1 k1 a1 x7_1 (Int.tmod (wrap64 ((Int.tmod (rd l0 x18_1) 5) + 5)) 5) x167002_1 l0 (l0.length : Int) x18_1 false t170 t171 false t173 t174 t175 t176 t177) = some r := by rw [if_neg (show ¬ (false = true) by decide)] at H; exact H
                      clear H
                      have H := H1
                      clear H1
                      have H' := Aside0.mk H
                      clear H
                      have hnb45 := NB166_167.out
                      have hnc45 := NB167_166.out
                      have hcz46_0 : w18.cell? ⟨gb166, 0, none⟩ = some (.int .i64 x167000_1) := (blk_cell BK166.out 0).trans rfl
                      have hcz46_1 : w18.cell? ⟨gb166, 1, none⟩ = some (.int .i64 x167001_1) := (blk_cell BK166.out 1).trans rfl
                      have hcz46_2 : w18.cell? ⟨gb166, 2, none⟩ = some (.bool x167002_1) := (blk_cell BK166.out 2).trans rfl
                      have hcz46_3 : w18.cell? ⟨gb166, 3, none⟩ = some (.int .i64 x167003_1) := (blk_cell BK166.out 3).trans rfl
                      have hfz46_0 := blk_frozen BK166.out 0
                      have hfz46_1 := blk_frozen BK166.out 1
                      have hfz46_2 := blk_frozen BK166.out 2
                      have hfz46_3 := blk_frozen BK166.out 3
                      have hcz47_0 : w18.cell? ⟨gb167, 0, none⟩ = some (.int .i64 x168000_1) := (blk_cell BK167.out 0).trans rfl
                      have hcz47_1 : w18.cell? ⟨gb167, 1, none⟩ = some (.int .i64 x168001_1) := (blk_cell BK167.out 1).trans rfl
                      have hcz47_2 : w18.cell? ⟨gb167, 2, none⟩ = some (.bool x168002_1) := (blk_cell BK167.out 2).trans rfl
                      have hcz47_3 : w18.cell? ⟨gb167, 3, none⟩ = some (.int .i64 x168003_1) := (blk_cell BK167.out 3).trans rfl
                      have hfz47_0 := blk_frozen BK167.out 0
                      have hfz47_1 := blk_frozen BK167.out 1
                      have hfz47_2 := blk_frozen BK167.out 2
                      have hfz47_3 := blk_frozen BK167.out 3
                      go_wp2_with (first | (go_at_call 7; (with_reducible refine (conf_Right.calls k1 t170 t171 false t173 true _ A31.out).mono ?_); rintro e w48 ⟨rfl, hb⟩; have n0_ := Aside0.mk (blk_below (g := gb166) (o := .cells #[.int .i64 t170, .int .i64 t171, .bool false, .int .i64 t173] 23 (0, 0)) (by (with_reducible repeat (first | refine blk_drewN ?_ _ | refine blk_drew ?_ | refine blk_alloc ?_ _)); refine blk_far ?_ NB166_167.out _; (with_reducible repeat (first | refine blk_drewN ?_ _ | refine blk_drew ?_ | refine blk_alloc ?_ _)); refine blk_far ?_ NB166_167.out _; (with_reducible repeat (first | refine blk_drewN ?_ _ | refine blk_drew ?_ | refine blk_alloc ?_ _)); refine blk_far ?_ NB166_167.out _; (with_reducible repeat (first | refine blk_drewN ?_ _ | refine blk_drew ?_ | refine blk_alloc ?_ _)); refine blk_far ?_ NB166_167.out _; (with_reducible repeat (first | refine blk_drewN ?_ _ | refine blk_drew ?_ | refine blk_alloc ?_ _)); refine blk_put (cs := #[.int .i64 t170, .int .i64 t171, .bool false, .int .i64 x167003_1]) ?_ 3 _ rfl; (with_reducible repeat (first | refine blk_drewN ?_ _ | refine blk_drew ?_ | refine blk_alloc ?_ _)); refine blk_put (cs := #[.int .i64 t170, .int .i64 t171, .bool x167002_1, .int .i64 x167003_1]) ?_ 2 _ rfl; (with_reducible repeat (first | refine blk_drewN ?_ _ | refine blk_drew ?_ | refine blk_alloc ?_ _)); refine blk_put (cs := #[.int .i64 t170, .int .i64 x167001_1, .bool x167002_1, .int .i64 x167003_1]) ?_ 1 _ rfl; (with_reducible repeat (first | refine blk_drewN ?_ _ | refine blk_drew ?_ | refine blk_alloc ?_ _)); refine blk_put (cs := #[.int .i64 x167000_1, .int .i64 x167001_1, .bool x167002_1, .int .i64 x167003_1]) ?_ 0 _ rfl; (with_reducible repeat (first | refine blk_drewN ?_ _ | refine blk_drew ?_ | refine blk_alloc ?_ _)); exact BK166.out) hb); have n1_ := Aside0.mk (blk_below (g := gb167) (o := .cells #[.int .i64 t174, .int .i64 t175, .bool t176, .int .i64 t177] 23 (0, 0)) (by (with_reducible repeat (first | refine blk_drewN ?_ _ | refine blk_drew ?_ | refine blk_alloc ?_ _)); refine blk_put (cs := #[.int .i64 t174, .int .i64 t175, .bool t176, .int .i64 x168003_1]) ?_ 3 _ rfl; (with_reducible repeat (first | refine blk_drewN ?_ _ | refine blk_drew ?_ | refine blk_alloc ?_ _)); refine blk_put (cs := #[.int .i64 t174, .int .i64 t175, .bool x168002_1, .int .i64 x168003_1]) ?_ 2 _ rfl; (with_reducible repeat (first | refine blk_drewN ?_ _ | refine blk_drew ?_ | refine blk_alloc ?_ _)); refine blk_put (cs := #[.int .i64 t174, .int .i64 x168001_1, .bool x168002_1, .int .i64 x168003_1]) ?_ 1 _ rfl; (with_reducible repeat (first | refine blk_drewN ?_ _ | refine blk_drew ?_ | refine blk_alloc ?_ _)); refine blk_put (cs := #[.int .i64 x168000_1, .int .i64 x168001_1, .bool x168002_1, .int .i64 x168003_1]) ?_ 0 _ rfl; (with_reducible repeat (first | refine blk_drewN ?_ _ | refine blk_drew ?_ | refine blk_alloc ?_ _)); refine blk_far ?_ NB167_166.out _; (with_reducible repeat (first | refine blk_drewN ?_ _ | refine blk_drew ?_ | refine blk_alloc ?_ _)); refine blk_far ?_ NB167_166.out _; (with_reducible repeat (first | refine blk_drewN ?_ _ | refine blk_drew ?_ | refine blk_alloc ?_ _)); refine blk_far ?_ NB167_166.out _; (with_reducible repeat (first | refine blk_drewN ?_ _ | refine blk_drew ?_ | refine blk_alloc ?_ _)); refine blk_far ?_ NB167_166.out _; (with_reducible repeat (first | refine blk_drewN ?_ _ | refine blk_drew ?_ | refine blk_alloc ?_ _)); exact BK167.out) hb); have n2_ := Aside0.mk (below_step (by repeat (first | (with_reducible first | exact HB.out | apply below_alloc | apply pw_below_drewN | apply below_drew1 | refine below_set ?_ GE166.out | refine below_set ?_ GE167.out) | exact HB.out)) hb); clear BK166; clear BK167; clear HB; have BK166 := n0_; have BK167 := n1_; have HB := n2_; clear n0_ n1_ n2_; (try clear hb); (try clear hb2); (try clear hk); (try clear hi); have hcz49_0 : w48.cell? ⟨gb166, 0, none⟩ = some (.int .i64 t170) := (blk_cell BK166.out 0).trans rfl; have hcz49_1 : w48.cell? ⟨gb166, 1, none⟩ = some (.int .i64 t171) := (blk_cell BK166.out 1).trans rfl; have hcz49_2 : w48.cell? ⟨gb166, 2, none⟩ = some (.bool false) := (blk_cell BK166.out 2).trans rfl; have hcz49_3 : w48.cell? ⟨gb166, 3, none⟩ = some (.int .i64 t173) := (blk_cell BK166.out 3).trans rfl; have hfz49_0 := blk_frozen BK166.out 0; have hfz49_1 := blk_frozen BK166.out 1; have hfz49_2 := blk_frozen BK166.out 2; have hfz49_3 := blk_frozen BK166.out 3))
                      go_meet
                      case rel => exact ⟨_, (false), (by first | rfl | (simp; done) | (simp [*]; done)), H', ⟨by have := HK1.out; first | omega | exact Nat.le_refl _⟩, ⟨by (with_reducible repeat (first | refine blk_drewN ?_ _ | refine blk_drew ?_ | refine blk_alloc ?_ _)); exact BK166.out⟩, ⟨by (with_reducible repeat (first | refine blk_drewN ?_ _ | refine blk_drew ?_ | refine blk_alloc ?_ _)); exact BK167.out⟩, ⟨by repeat (first | (with_reducible first | exact HB.out | apply below_alloc | apply pw_below_drewN | apply below_drew1 | refine below_set ?_ GE166.out | refine below_set ?_ GE167.out) | exact HB.out)⟩⟩
                  · replace c32 := Bool.eq_false_iff.mpr c32
                    subst c32
                    (try simp only [Bool.true_beq, Bool.false_beq, beq_true, beq_false, Bool.not_not, Bool.not_true, Bool.not_false, Bool.true_and, Bool.false_and, Bool.and_true, Bool.and_false, Bool.true_or, Bool.false_or, Bool.or_true, Bool.or_false] at c27b0)
                    have H1 : (signalboxlaw10_ConfPlays.j1 k1 a1 x7_1 (Int.tmod (wrap64 ((Int.tmod (rd l0 x18_1) 5) + 5)) 5) x167002_1 l0 (l0.length : Int) x18_1 true t170 t171 t172 t173 t174 t175 t176 t177) = some r := by rw [if_neg (show ¬ (false = true) by decide)] at H; exact H
                    clear H
                    have H := H1
                    clear H1
                    have H' := Aside0.mk H
                    clear H
                    have hnb50 := NB166_167.out
                    have hnc50 := NB167_166.out
                    have hcz51_0 : w18.cell? ⟨gb166, 0, none⟩ = some (.int .i64 x167000_1) := (blk_cell BK166.out 0).trans rfl
                    have hcz51_1 : w18.cell? ⟨gb166, 1, none⟩ = some (.int .i64 x167001_1) := (blk_cell BK166.out 1).trans rfl
                    have hcz51_2 : w18.cell? ⟨gb166, 2, none⟩ = some (.bool x167002_1) := (blk_cell BK166.out 2).trans rfl
                    have hcz51_3 : w18.cell? ⟨gb166, 3, none⟩ = some (.int .i64 x167003_1) := (blk_cell BK166.out 3).trans rfl
                    have hfz51_0 := blk_frozen BK166.out 0
                    have hfz51_1 := blk_frozen BK166.out 1
                    have hfz51_2 := blk_frozen BK166.out 2
                    have hfz51_3 := blk_frozen BK166.out 3
                    have hcz52_0 : w18.cell? ⟨gb167, 0, none⟩ = some (.int .i64 x168000_1) := (blk_cell BK167.out 0).trans rfl
                    have hcz52_1 : w18.cell? ⟨gb167, 1, none⟩ = some (.int .i64 x168001_1) := (blk_cell BK167.out 1).trans rfl
                    have hcz52_2 : w18.cell? ⟨gb167, 2, none⟩ = some (.bool x168002_1) := (blk_cell BK167.out 2).trans rfl
                    have hcz52_3 : w18.cell? ⟨gb167, 3, none⟩ = some (.int .i64 x168003_1) := (blk_cell BK167.out 3).trans rfl
                    have hfz52_0 := blk_frozen BK167.out 0
                    have hfz52_1 := blk_frozen BK167.out 1
                    have hfz52_2 := blk_frozen BK167.out 2
                    have hfz52_3 := blk_frozen BK167.out 3
                    go_wp2_with (first | (go_at_call 7; (with_reducible refine (conf_Right.calls k1 t170 t171 t172 t173 false _ A31.out).mono ?_); rintro e w53 ⟨rfl, hb⟩; have n0_ := Aside0.mk (blk_below (g := gb166) (o := .cells #[.int .i64 t170, .int .i64 t171, .bool t172, .int .i64 t173] 23 (0, 0)) (by (with_reducible repeat (first | refine blk_drewN ?_ _ | refine blk_drew ?_ | refine blk_alloc ?_ _)); refine blk_far ?_ NB166_167.out _; (with_reducible repeat (first | refine blk_drewN ?_ _ | refine blk_drew ?_ | refine blk_alloc ?_ _)); refine blk_far ?_ NB166_167.out _; (with_reducible repeat (first | refine blk_drewN ?_ _ | refine blk_drew ?_ | refine blk_alloc ?_ _)); refine blk_far ?_ NB166_167.out _; (with_reducible repeat (first | refine blk_drewN ?_ _ | refine blk_drew ?_ | refine blk_alloc ?_ _)); refine blk_far ?_ NB166_167.out _; (with_reducible repeat (first | refine blk_drewN ?_ _ | refine blk_drew ?_ | refine blk_alloc ?_ _)); refine blk_put (cs := #[.int .i64 t170, .int .i64 t171, .bool t172, .int .i64 x167003_1]) ?_ 3 _ rfl; (with_reducible repeat (first | refine blk_drewN ?_ _ | refine blk_drew ?_ | refine blk_alloc ?_ _)); refine blk_put (cs := #[.int .i64 t170, .int .i64 t171, .bool x167002_1, .int .i64 x167003_1]) ?_ 2 _ rfl; (with_reducible repeat (first | refine blk_drewN ?_ _ | refine blk_drew ?_ | refine blk_alloc ?_ _)); refine blk_put (cs := #[.int .i64 t170, .int .i64 x167001_1, .bool x167002_1, .int .i64 x167003_1]) ?_ 1 _ rfl; (with_reducible repeat (first | refine blk_drewN ?_ _ | refine blk_drew ?_ | refine blk_alloc ?_ _)); refine blk_put (cs := #[.int .i64 x167000_1, .int .i64 x167001_1, .bool x167002_1, .int .i64 x167003_1]) ?_ 0 _ rfl; (with_reducible repeat (first | refine blk_drewN ?_ _ | refine blk_drew ?_ | refine blk_alloc ?_ _)); exact BK166.out) hb); have n1_ := Aside0.mk (blk_below (g := gb167) (o := .cells #[.int .i64 t174, .int .i64 t175, .bool t176, .int .i64 t177] 23 (0, 0)) (by (with_reducible repeat (first | refine blk_drewN ?_ _ | refine blk_drew ?_ | refine blk_alloc ?_ _)); refine blk_put (cs := #[.int .i64 t174, .int .i64 t175, .bool t176, .int .i64 x168003_1]) ?_ 3 _ rfl; (with_reducible repeat (first | refine blk_drewN ?_ _ | refine blk_drew ?_ | refine blk_alloc ?_ _)); refine blk_put (cs := #[.int .i64 t174, .int .i64 t175, .bool x168002_1, .int .i64 x168003_1]) ?_ 2 _ rfl; (with_reducible repeat (first | refine blk_drewN ?_ _ | refine blk_drew ?_ | refine blk_alloc ?_ _)); refine blk_put (cs := #[.int .i64 t174, .int .i64 x168001_1, .bool x168002_1, .int .i64 x168003_1]) ?_ 1 _ rfl; (with_reducible repeat (first | refine blk_drewN ?_ _ | refine blk_drew ?_ | refine blk_alloc ?_ _)); refine blk_put (cs := #[.int .i64 x168000_1, .int .i64 x168001_1, .bool x168002_1, .int .i64 x168003_1]) ?_ 0 _ rfl; (with_reducible repeat (first | refine blk_drewN ?_ _ | refine blk_drew ?_ | refine blk_alloc ?_ _)); refine blk_far ?_ NB167_166.out _; (with_reducible repeat (first | refine blk_drewN ?_ _ | refine blk_drew ?_ | refine blk_alloc ?_ _)); refine blk_far ?_ NB167_166.out _; (with_reducible repeat (first | refine blk_drewN ?_ _ | refine blk_drew ?_ | refine blk_alloc ?_ _)); refine blk_far ?_ NB167_166.out _; (with_reducible repeat (first | refine blk_drewN ?_ _ | refine blk_drew ?_ | refine blk_alloc ?_ _)); refine blk_far ?_ NB167_166.out _; (with_reducible repeat (first | refine blk_drewN ?_ _ | refine blk_drew ?_ | refine blk_alloc ?_ _)); exact BK167.out) hb); have n2_ := Aside0.mk (below_step (by repeat (first | (with_reducible first | exact HB.out | apply below_alloc | apply pw_below_drewN | apply below_drew1 | refine below_set ?_ GE166.out | refine below_set ?_ GE167.out) | exact HB.out)) hb); clear BK166; clear BK167; clear HB; have BK166 := n0_; have BK167 := n1_; have HB := n2_; clear n0_ n1_ n2_; (try clear hb); (try clear hb2); (try clear hk); (try clear hi)))
                    go_meet
                    case rel => exact ⟨_, (true), (by first | rfl | (simp; done) | (simp [*]; done)), H', ⟨by have := HK1.out; first | omega | exact Nat.le_refl _⟩, ⟨by (with_reducible repeat (first | refine blk_drewN ?_ _ | refine blk_drew ?_ | refine blk_alloc ?_ _)); exact BK166.out⟩, ⟨by (with_reducible repeat (first | refine blk_drewN ?_ _ | refine blk_drew ?_ | refine blk_alloc ?_ _)); exact BK167.out⟩, ⟨by repeat (first | (with_reducible first | exact HB.out | apply below_alloc | apply pw_below_drewN | apply below_drew1 | refine below_set ?_ GE166.out | refine below_set ?_ GE167.out) | exact HB.out)⟩⟩
              case rest =>
                clear HC13
                try clear c1
                try clear p1
                try clear q1
                try clear hx1
                try clear c2
                try clear p2
                try clear c3
                try clear c3b0
                try clear c3b1
                try clear c4
                try clear c5
                try clear c6
                try clear p6
                try clear c8
                try clear c8b0
                try clear c9
                try clear c9b0
                try clear c10
                try clear c10b0
                try clear c12
                try clear c14
                try clear p16
                try clear q16
                try clear hx16
                try clear c18
                try clear c19
                try clear c27
                try clear c27b0
                try clear c28
                try clear c32
                try clear c33
                try clear c34
                try clear c35
                try clear c40
                try clear c45
                try clear c50
                try clear hcz15_0
                try clear hcz15_1
                try clear hcz15_2
                try clear hcz15_3
                try clear hcz29_0
                try clear hcz29_1
                try clear hcz29_2
                try clear hcz29_3
                try clear hcz30_0
                try clear hcz30_1
                try clear hcz30_2
                try clear hcz30_3
                try clear hcz36_0
                try clear hcz36_1
                try clear hcz36_2
                try clear hcz36_3
                try clear hcz37_0
                try clear hcz37_1
                try clear hcz37_2
                try clear hcz37_3
                try clear hcz39_0
                try clear hcz39_1
                try clear hcz39_2
                try clear hcz39_3
                try clear hcz41_0
                try clear hcz41_1
                try clear hcz41_2
                try clear hcz41_3
                try clear hcz42_0
                try clear hcz42_1
                try clear hcz42_2
                try clear hcz42_3
                try clear hcz44_0
                try clear hcz44_1
                try clear hcz44_2
                try clear hcz44_3
                try clear hcz46_0
                try clear hcz46_1
                try clear hcz46_2
                try clear hcz46_3
                try clear hcz47_0
                try clear hcz47_1
                try clear hcz47_2
                try clear hcz47_3
                try clear hcz49_0
                try clear hcz49_1
                try clear hcz49_2
                try clear hcz49_3
                try clear hcz51_0
                try clear hcz51_1
                try clear hcz51_2
                try clear hcz51_3
                try clear hcz52_0
                try clear hcz52_1
                try clear hcz52_2
                try clear hcz52_3
                try clear hfz15_0
                try clear hfz15_1
                try clear hfz15_2
                try clear hfz15_3
                try clear hfz29_0
                try clear hfz29_1
                try clear hfz29_2
                try clear hfz29_3
                try clear hfz30_0
                try clear hfz30_1
                try clear hfz30_2
                try clear hfz30_3
                try clear hfz36_0
                try clear hfz36_1
                try clear hfz36_2
                try clear hfz36_3
                try clear hfz37_0
                try clear hfz37_1
                try clear hfz37_2
                try clear hfz37_3
                try clear hfz39_0
                try clear hfz39_1
                try clear hfz39_2
                try clear hfz39_3
                try clear hfz41_0
                try clear hfz41_1
                try clear hfz41_2
                try clear hfz41_3
                try clear hfz42_0
                try clear hfz42_1
                try clear hfz42_2
                try clear hfz42_3
                try clear hfz44_0
                try clear hfz44_1
                try clear hfz44_2
                try clear hfz44_3
                try clear hfz46_0
                try clear hfz46_1
                try clear hfz46_2
                try clear hfz46_3
                try clear hfz47_0
                try clear hfz47_1
                try clear hfz47_2
                try clear hfz47_3
                try clear hfz49_0
                try clear hfz49_1
                try clear hfz49_2
                try clear hfz49_3
                try clear hfz51_0
                try clear hfz51_1
                try clear hfz51_2
                try clear hfz51_3
                try clear hfz52_0
                try clear hfz52_1
                try clear hfz52_2
                try clear hfz52_3
                try clear hx169_0
                try clear p169
                try clear p2
                try clear q169
                try clear HA
                try clear HJ12
                try clear BK166
                try clear BK167
                try clear HB
                obtain ⟨kq, x55_12, rfl, HA, HJ12, BK166, BK167, HB⟩ := hcut
                cases kq with
                | zero => exact absurd HA.out (by simp [signalboxlaw10_ConfPlays.j1])
                | succ kj12 =>
                  have H := HA.out
                  clear HA
                  simp only [signalboxlaw10_ConfPlays.j1] at H
                  by_cases c54 : x55_12 = true
                  · subst c54
                    have H1 : (some false) = some r := by rw [if_pos rfl] at H; exact H
                    clear H
                    have H := H1
                    clear H1
                    obtain rfl := Option.some.inj H
                    go_wp2
                    go_ret
                    exact ⟨by first | rfl | (simp [errW_none, errW_some] <;> rfl) | (simp [*, errW_none, errW_some] <;> rfl), by repeat (first | (with_reducible first | exact HB.out | apply below_alloc | apply pw_below_drewN | apply below_drew1 | refine below_set ?_ GE166.out | refine below_set ?_ GE167.out) | exact HB.out)⟩
                  · replace c54 := Bool.eq_false_iff.mpr c54
                    subst c54
                    have H1 : (if t172 = true then (if x167002_1 = true then (signalboxlaw10_ConfPlays.j2 kj12 a1 x7_1 (Int.tmod (wrap64 ((Int.tmod (rd l0 x18_1) 5) + 5)) 5) x167002_1 l0 (l0.length : Int) x18_1 ((Int.tmod (wrap64 ((Int.tmod (rd l0 x18_1) 5) + 5)) 5) == 4) t170 t171 t172 t173 t174 t175 t176 t177) else (signalboxlaw10_ConfPlays.j2 kj12 a1 x7_1 (Int.tmod (wrap64 ((Int.tmod (rd l0 x18_1) 5) + 5)) 5) x167002_1 l0 (l0.length : Int) x18_1 false t170 t171 t172 t173 t174 t175 t176 t177)) else (signalboxlaw10_ConfPlays.j2 kj12 a1 x7_1 (Int.tmod (wrap64 ((Int.tmod (rd l0 x18_1) 5) + 5)) 5) x167002_1 l0 (l0.length : Int) x18_1 false t170 t171 t172 t173 t174 t175 t176 t177)) = some r := by rw [if_neg (show ¬ (false = true) by decide)] at H; exact H
                    clear H
                    have H := H1
                    clear H1
                    have HC55 := Aside0.mk H
                    clear H
                    go_upto_region 13 with (fail)
                    go_cut [64] (fun v64 wc => ∃ (kq : Nat) (x64_54 : Bool), v64 = .bool x64_54 ∧ Aside0 (signalboxlaw10_ConfPlays.j2 kq a1 x7_1 (Int.tmod (wrap64 ((Int.tmod (rd l0 x18_1) 5) + 5)) 5) x167002_1 l0 (l0.length : Int) x18_1 x64_54 t170 t171 t172 t173 t174 t175 t176 t177 = some r) ∧ Aside0 (kq ≤ kj12) ∧ Aside0 (wc.heap[gb166]? = some (.cells #[.int .i64 t170, .int .i64 t171, .bool t172, .int .i64 t173] 23 (0, 0))) ∧ Aside0 (wc.heap[gb167]? = some (.cells #[.int .i64 t174, .int .i64 t175, .bool t176, .int .i64 t177] 23 (0, 0))) ∧ Aside0 (Below w.heap.size w wc))
                    case first =>
                      have H := HC55.out
                      clear HC55
                      by_cases c56 : t172 = true
                      · subst c56
                        have H1 : (if x167002_1 = true then (signalboxlaw10_ConfPlays.j2 kj12 a1 x7_1 (Int.tmod (wrap64 ((Int.tmod (rd l0 x18_1) 5) + 5)) 5) x167002_1 l0 (l0.length : Int) x18_1 ((Int.tmod (wrap64 ((Int.tmod (rd l0 x18_1) 5) + 5)) 5) == 4) t170 t171 true t173 t174 t175 t176 t177) else (signalboxlaw10_ConfPlays.j2 kj12 a1 x7_1 (Int.tmod (wrap64 ((Int.tmod (rd l0 x18_1) 5) + 5)) 5) x167002_1 l0 (l0.length : Int) x18_1 false t170 t171 true t173 t174 t175 t176 t177)) = some r := by rw [if_pos rfl] at H; exact H
                        clear H
                        have H := H1
                        clear H1
                        by_cases c57 : x167002_1 = true
                        · subst c57
                          have H1 : (signalboxlaw10_ConfPlays.j2 kj12 a1 x7_1 (Int.tmod (wrap64 ((Int.tmod (rd l0 x18_1) 5) + 5)) 5) true l0 (l0.length : Int) x18_1 ((Int.tmod (wrap64 ((Int.tmod (rd l0 x18_1) 5) + 5)) 5) == 4) t170 t171 true t173 t174 t175 t176 t177) = some r := by rw [if_pos rfl] at H; exact H
                          clear H
                          have H := H1
                          clear H1
                          have H' := Aside0.mk H
                          clear H
                          have hnb58 := NB166_167.out
                          have hnc58 := NB167_166.out
                          have hcz59_0 : wc.cell? ⟨gb166, 0, none⟩ = some (.int .i64 t170) := (blk_cell BK166.out 0).trans rfl
                          have hcz59_1 : wc.cell? ⟨gb166, 1, none⟩ = some (.int .i64 t171) := (blk_cell BK166.out 1).trans rfl
                          have hcz59_2 : wc.cell? ⟨gb166, 2, none⟩ = some (.bool true) := (blk_cell BK166.out 2).trans rfl
                          have hcz59_3 : wc.cell? ⟨gb166, 3, none⟩ = some (.int .i64 t173) := (blk_cell BK166.out 3).trans rfl
                          have hfz59_0 := blk_frozen BK166.out 0
                          have hfz59_1 := blk_frozen BK166.out 1
                          have hfz59_2 := blk_frozen BK166.out 2
                          have hfz59_3 := blk_frozen BK166.out 3
                          go_wp2
                          go_meet
                          case rel => exact ⟨_, (((Int.tmod (wrap64 ((Int.tmod (rd l0 x18_1) 5) + 5)) 5) == 4)), (by first | rfl | (simp; done) | (simp [*]; done)), H', ⟨by have := HK1.out; have := HJ12.out; first | omega | exact Nat.le_refl _⟩, ⟨by (with_reducible repeat (first | refine blk_drewN ?_ _ | refine blk_drew ?_ | refine blk_alloc ?_ _)); exact BK166.out⟩, ⟨by (with_reducible repeat (first | refine blk_drewN ?_ _ | refine blk_drew ?_ | refine blk_alloc ?_ _)); exact BK167.out⟩, ⟨by repeat (first | (with_reducible first | exact HB.out | apply below_alloc | apply pw_below_drewN | apply below_drew1 | refine below_set ?_ GE166.out | refine below_set ?_ GE167.out) | exact HB.out)⟩⟩
                        · replace c57 := Bool.eq_false_iff.mpr c57
                          subst c57
                          have H1 : (signalboxlaw10_ConfPlays.j2 kj12 a1 x7_1 (Int.tmod (wrap64 ((Int.tmod (rd l0 x18_1) 5) + 5)) 5) false l0 (l0.length : Int) x18_1 false t170 t171 true t173 t174 t175 t176 t177) = some r := by rw [if_neg (show ¬ (false = true) by decide)] at H; exact H
                          clear H
                          have H := H1
                          clear H1
                          have H' := Aside0.mk H
                          clear H
                          have hnb60 := NB166_167.out
                          have hnc60 := NB167_166.out
                          have hcz61_0 : wc.cell? ⟨gb166, 0, none⟩ = some (.int .i64 t170) := (blk_cell BK166.out 0).trans rfl
                          have hcz61_1 : wc.cell? ⟨gb166, 1, none⟩ = some (.int .i64 t171) := (blk_cell BK166.out 1).trans rfl
                          have hcz61_2 : wc.cell? ⟨gb166, 2, none⟩ = some (.bool true) := (blk_cell BK166.out 2).trans rfl
                          have hcz61_3 : wc.cell? ⟨gb166, 3, none⟩ = some (.int .i64 t173) := (blk_cell BK166.out 3).trans rfl
                          have hfz61_0 := blk_frozen BK166.out 0
                          have hfz61_1 := blk_frozen BK166.out 1
                          have hfz61_2 := blk_frozen BK166.out 2
                          have hfz61_3 := blk_frozen BK166.out 3
                          go_wp2
                          go_meet
                          case rel => exact ⟨_, (false), (by first | rfl | (simp; done) | (simp [*]; done)), H', ⟨by have := HK1.out; have := HJ12.out; first | omega | exact Nat.le_refl _⟩, ⟨by (with_reducible repeat (first | refine blk_drewN ?_ _ | refine blk_drew ?_ | refine blk_alloc ?_ _)); exact BK166.out⟩, ⟨by (with_reducible repeat (first | refine blk_drewN ?_ _ | refine blk_drew ?_ | refine blk_alloc ?_ _)); exact BK167.out⟩, ⟨by repeat (first | (with_reducible first | exact HB.out | apply below_alloc | apply pw_below_drewN | apply below_drew1 | refine below_set ?_ GE166.out | refine below_set ?_ GE167.out) | exact HB.out)⟩⟩
                      · replace c56 := Bool.eq_false_iff.mpr c56
                        subst c56
                        have H1 : (signalboxlaw10_ConfPlays.j2 kj12 a1 x7_1 (Int.tmod (wrap64 ((Int.tmod (rd l0 x18_1) 5) + 5)) 5) x167002_1 l0 (l0.length : Int) x18_1 false t170 t171 false t173 t174 t175 t176 t177) = some r := by rw [if_neg (show ¬ (false = true) by decide)] at H; exact H
                        clear H
                        have H := H1
                        clear H1
                        have H' := Aside0.mk H
                        clear H
                        have hnb62 := NB166_167.out
                        have hnc62 := NB167_166.out
                        have hcz63_0 : wc.cell? ⟨gb166, 0, none⟩ = some (.int .i64 t170) := (blk_cell BK166.out 0).trans rfl
                        have hcz63_1 : wc.cell? ⟨gb166, 1, none⟩ = some (.int .i64 t171) := (blk_cell BK166.out 1).trans rfl
                        have hcz63_2 : wc.cell? ⟨gb166, 2, none⟩ = some (.bool false) := (blk_cell BK166.out 2).trans rfl
                        have hcz63_3 : wc.cell? ⟨gb166, 3, none⟩ = some (.int .i64 t173) := (blk_cell BK166.out 3).trans rfl
                        have hfz63_0 := blk_frozen BK166.out 0
                        have hfz63_1 := blk_frozen BK166.out 1
                        have hfz63_2 := blk_frozen BK166.out 2
                        have hfz63_3 := blk_frozen BK166.out 3
                        go_wp2
                        go_meet
                        case rel => exact ⟨_, (false), (by first | rfl | (simp; done) | (simp [*]; done)), H', ⟨by have := HK1.out; have := HJ12.out; first | omega | exact Nat.le_refl _⟩, ⟨by (with_reducible repeat (first | refine blk_drewN ?_ _ | refine blk_drew ?_ | refine blk_alloc ?_ _)); exact BK166.out⟩, ⟨by (with_reducible repeat (first | refine blk_drewN ?_ _ | refine blk_drew ?_ | refine blk_alloc ?_ _)); exact BK167.out⟩, ⟨by repeat (first | (with_reducible first | exact HB.out | apply below_alloc | apply pw_below_drewN | apply below_drew1 | refine below_set ?_ GE166.out | refine below_set ?_ GE167.out) | exact HB.out)⟩⟩
                    case rest =>
                      clear HC55
                      try clear c1
                      try clear p1
                      try clear q1
                      try clear hx1
                      try clear c2
                      try clear p2
                      try clear c3
                      try clear c3b0
                      try clear c3b1
                      try clear c4
                      try clear c5
                      try clear c6
                      try clear p6
                      try clear c8
                      try clear c8b0
                      try clear c9
                      try clear c9b0
                      try clear c10
                      try clear c10b0
                      try clear c12
                      try clear c14
                      try clear p16
                      try clear q16
                      try clear hx16
                      try clear c18
                      try clear c19
                      try clear c27
                      try clear c27b0
                      try clear c28
                      try clear c32
                      try clear c33
                      try clear c34
                      try clear c35
                      try clear c40
                      try clear c45
                      try clear c50
                      try clear c54
                      try clear c56
                      try clear c57
                      try clear c58
                      try clear c60
                      try clear c62
                      try clear hcz15_0
                      try clear hcz15_1
                      try clear hcz15_2
                      try clear hcz15_3
                      try clear hcz29_0
                      try clear hcz29_1
                      try clear hcz29_2
                      try clear hcz29_3
                      try clear hcz30_0
                      try clear hcz30_1
                      try clear hcz30_2
                      try clear hcz30_3
                      try clear hcz36_0
                      try clear hcz36_1
                      try clear hcz36_2
                      try clear hcz36_3
                      try clear hcz37_0
                      try clear hcz37_1
                      try clear hcz37_2
                      try clear hcz37_3
                      try clear hcz39_0
                      try clear hcz39_1
                      try clear hcz39_2
                      try clear hcz39_3
                      try clear hcz41_0
                      try clear hcz41_1
                      try clear hcz41_2
                      try clear hcz41_3
                      try clear hcz42_0
                      try clear hcz42_1
                      try clear hcz42_2
                      try clear hcz42_3
                      try clear hcz44_0
                      try clear hcz44_1
                      try clear hcz44_2
                      try clear hcz44_3
                      try clear hcz46_0
                      try clear hcz46_1
                      try clear hcz46_2
                      try clear hcz46_3
                      try clear hcz47_0
                      try clear hcz47_1
                      try clear hcz47_2
                      try clear hcz47_3
                      try clear hcz49_0
                      try clear hcz49_1
                      try clear hcz49_2
                      try clear hcz49_3
                      try clear hcz51_0
                      try clear hcz51_1
                      try clear hcz51_2
                      try clear hcz51_3
                      try clear hcz52_0
                      try clear hcz52_1
                      try clear hcz52_2
                      try clear hcz52_3
                      try clear hcz59_0
                      try clear hcz59_1
                      try clear hcz59_2
                      try clear hcz59_3
                      try clear hcz61_0
                      try clear hcz61_1
                      try clear hcz61_2
                      try clear hcz61_3
                      try clear hcz63_0
                      try clear hcz63_1
                      try clear hcz63_2
                      try clear hcz63_3
                      try clear hfz15_0
                      try clear hfz15_1
                      try clear hfz15_2
                      try clear hfz15_3
                      try clear hfz29_0
                      try clear hfz29_1
                      try clear hfz29_2
                      try clear hfz29_3
                      try clear hfz30_0
                      try clear hfz30_1
                      try clear hfz30_2
                      try clear hfz30_3
                      try clear hfz36_0
                      try clear hfz36_1
                      try clear hfz36_2
                      try clear hfz36_3
                      try clear hfz37_0
                      try clear hfz37_1
                      try clear hfz37_2
                      try clear hfz37_3
                      try clear hfz39_0
                      try clear hfz39_1
                      try clear hfz39_2
                      try clear hfz39_3
                      try clear hfz41_0
                      try clear hfz41_1
                      try clear hfz41_2
                      try clear hfz41_3
                      try clear hfz42_0
                      try clear hfz42_1
                      try clear hfz42_2
                      try clear hfz42_3
                      try clear hfz44_0
                      try clear hfz44_1
                      try clear hfz44_2
                      try clear hfz44_3
                      try clear hfz46_0
                      try clear hfz46_1
                      try clear hfz46_2
                      try clear hfz46_3
                      try clear hfz47_0
                      try clear hfz47_1
                      try clear hfz47_2
                      try clear hfz47_3
                      try clear hfz49_0
                      try clear hfz49_1
                      try clear hfz49_2
                      try clear hfz49_3
                      try clear hfz51_0
                      try clear hfz51_1
                      try clear hfz51_2
                      try clear hfz51_3
                      try clear hfz52_0
                      try clear hfz52_1
                      try clear hfz52_2
                      try clear hfz52_3
                      try clear hfz59_0
                      try clear hfz59_1
                      try clear hfz59_2
                      try clear hfz59_3
                      try clear hfz61_0
                      try clear hfz61_1
                      try clear hfz61_2
                      try clear hfz61_3
                      try clear hfz63_0
                      try clear hfz63_1
                      try clear hfz63_2
                      try clear hfz63_3
                      try clear hx169_0
                      try clear p1
                      try clear p16
                      try clear p169
                      try clear p2
                      try clear p6
                      try clear q1
                      try clear q16
                      try clear q169
                      try clear HA
                      try clear HJ54
                      try clear BK166
                      try clear BK167
                      try clear HB
                      obtain ⟨kq, x64_54, rfl, HA, HJ54, BK166, BK167, HB⟩ := hcut
                      cases kq with
                      | zero => exact absurd HA.out (by simp [signalboxlaw10_ConfPlays.j2])
                      | succ kj54 =>
                        have H := HA.out
                        clear HA
                        simp only [signalboxlaw10_ConfPlays.j2] at H
                        have HC64 := Aside0.mk H
                        clear H
                        go_upto_if 64 with (fail)
                        go_cut [7] (fun v7 wc => ∃ (kq : Nat) (x7_63 : Int), v7 = .int .i64 x7_63 ∧ Aside0 (signalboxlaw10_ConfPlays.j3 kq a1 x7_63 (Int.tmod (wrap64 ((Int.tmod (rd l0 x18_1) 5) + 5)) 5) x167002_1 l0 (l0.length : Int) x18_1 t170 t171 t172 t173 t174 t175 t176 t177 = some r) ∧ Aside0 (kq ≤ kj54) ∧ Aside0 (wc.heap[gb166]? = some (.cells #[.int .i64 t170, .int .i64 t171, .bool t172, .int .i64 t173] 23 (0, 0))) ∧ Aside0 (wc.heap[gb167]? = some (.cells #[.int .i64 t174, .int .i64 t175, .bool t176, .int .i64 t177] 23 (0, 0))) ∧ Aside0 (Below w.heap.size w wc))
                        case first =>
                          have H := HC64.out
                          clear HC64
                          by_cases c65 : x64_54 = true
                          · subst c65
                            have H1 : (signalboxlaw10_ConfPlays.j3 kj54 a1 (wrap64 (x7_1 + 1)) (Int.tmod (wrap64 ((Int.tmod (rd l0 x18_1) 5) + 5)) 5) x167002_1 l0 (l0.length : Int) x18_1 t170 t171 t172 t173 t174 t175 t176 t177) = some r := by rw [if_pos rfl] at H; exact H
                            clear H
                            have H := H1
                            clear H1
                            have H' := Aside0.mk H
                            clear H
                            go_wp2
                            go_meet
                            case rel => exact ⟨_, (wrap64 (x7_1 + 1)), (by first | rfl | (simp; done) | (simp [*]; done)), H', ⟨by have := HK1.out; have := HJ12.out; have := HJ54.out; first | omega | exact Nat.le_refl _⟩, ⟨by (with_reducible repeat (first | refine blk_drewN ?_ _ | refine blk_drew ?_ | refine blk_alloc ?_ _)); exact BK166.out⟩, ⟨by (with_reducible repeat (first | refine blk_drewN ?_ _ | refine blk_drew ?_ | refine blk_alloc ?_ _)); exact BK167.out⟩, ⟨by repeat (first | (with_reducible first | exact HB.out | apply below_alloc | apply pw_below_drewN | apply below_drew1 | refine below_set ?_ GE166.out | refine below_set ?_ GE167.out) | exact HB.out)⟩⟩
                          · replace c65 := Bool.eq_false_iff.mpr c65
                            subst c65
                            have H1 : (signalboxlaw10_ConfPlays.j3 kj54 a1 x7_1 (Int.tmod (wrap64 ((Int.tmod (rd l0 x18_1) 5) + 5)) 5) x167002_1 l0 (l0.length : Int) x18_1 t170 t171 t172 t173 t174 t175 t176 t177) = some r := by rw [if_neg (show ¬ (false = true) by decide)] at H; exact H
                            clear H
                            have H := H1
                            clear H1
                            have H' := Aside0.mk H
                            clear H
                            go_wp2
                            go_meet
                            case rel => exact ⟨_, (x7_1), (by first | rfl | (simp; done) | (simp [*]; done)), H', ⟨by have := HK1.out; have := HJ12.out; have := HJ54.out; first | omega | exact Nat.le_refl _⟩, ⟨by (with_reducible repeat (first | refine blk_drewN ?_ _ | refine blk_drew ?_ | refine blk_alloc ?_ _)); exact BK166.out⟩, ⟨by (with_reducible repeat (first | refine blk_drewN ?_ _ | refine blk_drew ?_ | refine blk_alloc ?_ _)); exact BK167.out⟩, ⟨by repeat (first | (with_reducible first | exact HB.out | apply below_alloc | apply pw_below_drewN | apply below_drew1 | refine below_set ?_ GE166.out | refine below_set ?_ GE167.out) | exact HB.out)⟩⟩
                        case rest =>
                          clear HC64
                          try clear c1
                          try clear p1
                          try clear q1
                          try clear hx1
                          try clear c2
                          try clear p2
                          try clear c3
                          try clear c3b0
                          try clear c3b1
                          try clear c4
                          try clear c5
                          try clear c6
                          try clear p6
                          try clear c8
                          try clear c8b0
                          try clear c9
                          try clear c9b0
                          try clear c10
                          try clear c10b0
                          try clear c12
                          try clear c14
                          try clear p16
                          try clear q16
                          try clear hx16
                          try clear c18
                          try clear c19
                          try clear c27
                          try clear c27b0
                          try clear c28
                          try clear c32
                          try clear c33
                          try clear c34
                          try clear c35
                          try clear c40
                          try clear c45
                          try clear c50
                          try clear c54
                          try clear c56
                          try clear c57
                          try clear c58
                          try clear c60
                          try clear c62
                          try clear p64
                          try clear c65
                          try clear hcz15_0
                          try clear hcz15_1
                          try clear hcz15_2
                          try clear hcz15_3
                          try clear hcz29_0
                          try clear hcz29_1
                          try clear hcz29_2
                          try clear hcz29_3
                          try clear hcz30_0
                          try clear hcz30_1
                          try clear hcz30_2
                          try clear hcz30_3
                          try clear hcz36_0
                          try clear hcz36_1
                          try clear hcz36_2
                          try clear hcz36_3
                          try clear hcz37_0
                          try clear hcz37_1
                          try clear hcz37_2
                          try clear hcz37_3
                          try clear hcz39_0
                          try clear hcz39_1
                          try clear hcz39_2
                          try clear hcz39_3
                          try clear hcz41_0
                          try clear hcz41_1
                          try clear hcz41_2
                          try clear hcz41_3
                          try clear hcz42_0
                          try clear hcz42_1
                          try clear hcz42_2
                          try clear hcz42_3
                          try clear hcz44_0
                          try clear hcz44_1
                          try clear hcz44_2
                          try clear hcz44_3
                          try clear hcz46_0
                          try clear hcz46_1
                          try clear hcz46_2
                          try clear hcz46_3
                          try clear hcz47_0
                          try clear hcz47_1
                          try clear hcz47_2
                          try clear hcz47_3
                          try clear hcz49_0
                          try clear hcz49_1
                          try clear hcz49_2
                          try clear hcz49_3
                          try clear hcz51_0
                          try clear hcz51_1
                          try clear hcz51_2
                          try clear hcz51_3
                          try clear hcz52_0
                          try clear hcz52_1
                          try clear hcz52_2
                          try clear hcz52_3
                          try clear hcz59_0
                          try clear hcz59_1
                          try clear hcz59_2
                          try clear hcz59_3
                          try clear hcz61_0
                          try clear hcz61_1
                          try clear hcz61_2
                          try clear hcz61_3
                          try clear hcz63_0
                          try clear hcz63_1
                          try clear hcz63_2
                          try clear hcz63_3
                          try clear hfz15_0
                          try clear hfz15_1
                          try clear hfz15_2
                          try clear hfz15_3
                          try clear hfz29_0
                          try clear hfz29_1
                          try clear hfz29_2
                          try clear hfz29_3
                          try clear hfz30_0
                          try clear hfz30_1
                          try clear hfz30_2
                          try clear hfz30_3
                          try clear hfz36_0
                          try clear hfz36_1
                          try clear hfz36_2
                          try clear hfz36_3
                          try clear hfz37_0
                          try clear hfz37_1
                          try clear hfz37_2
                          try clear hfz37_3
                          try clear hfz39_0
                          try clear hfz39_1
                          try clear hfz39_2
                          try clear hfz39_3
                          try clear hfz41_0
                          try clear hfz41_1
                          try clear hfz41_2
                          try clear hfz41_3
                          try clear hfz42_0
                          try clear hfz42_1
                          try clear hfz42_2
                          try clear hfz42_3
                          try clear hfz44_0
                          try clear hfz44_1
                          try clear hfz44_2
                          try clear hfz44_3
                          try clear hfz46_0
                          try clear hfz46_1
                          try clear hfz46_2
                          try clear hfz46_3
                          try clear hfz47_0
                          try clear hfz47_1
                          try clear hfz47_2
                          try clear hfz47_3
                          try clear hfz49_0
                          try clear hfz49_1
                          try clear hfz49_2
                          try clear hfz49_3
                          try clear hfz51_0
                          try clear hfz51_1
                          try clear hfz51_2
                          try clear hfz51_3
                          try clear hfz52_0
                          try clear hfz52_1
                          try clear hfz52_2
                          try clear hfz52_3
                          try clear hfz59_0
                          try clear hfz59_1
                          try clear hfz59_2
                          try clear hfz59_3
                          try clear hfz61_0
                          try clear hfz61_1
                          try clear hfz61_2
                          try clear hfz61_3
                          try clear hfz63_0
                          try clear hfz63_1
                          try clear hfz63_2
                          try clear hfz63_3
                          try clear hx169_0
                          try clear p1
                          try clear p16
                          try clear p169
                          try clear p2
                          try clear p6
                          try clear q1
                          try clear q16
                          try clear q169
                          try clear HA
                          try clear HJ63
                          try clear BK166
                          try clear BK167
                          try clear HB
                          obtain ⟨kq, x7_63, rfl, HA, HJ63, BK166, BK167, HB⟩ := hcut
                          cases kq with
                          | zero => exact absurd HA.out (by simp [signalboxlaw10_ConfPlays.j3])
                          | succ kj63 =>
                            have H := HA.out
                            clear HA
                            simp only [signalboxlaw10_ConfPlays.j3] at H
                            by_cases c66 : t172 = true
                            · subst c66
                              have H1 : (signalboxlaw10_ConfPlays.l0 kj63 a1 x7_63 l0 (l0.length : Int) (wrap64 (x18_1 + 1)) t170 t171 true t173 t174 t175 t176 t177) = some r := by rw [if_pos rfl] at H; exact H
                              clear H
                              have H := H1
                              clear H1
                              have H' := Aside0.mk H
                              clear H
                              have hnb67 := NB166_167.out
                              have hnc67 := NB167_166.out
                              have hcz68_0 : wc.cell? ⟨gb166, 0, none⟩ = some (.int .i64 t170) := (blk_cell BK166.out 0).trans rfl
                              have hcz68_1 : wc.cell? ⟨gb166, 1, none⟩ = some (.int .i64 t171) := (blk_cell BK166.out 1).trans rfl
                              have hcz68_2 : wc.cell? ⟨gb166, 2, none⟩ = some (.bool true) := (blk_cell BK166.out 2).trans rfl
                              have hcz68_3 : wc.cell? ⟨gb166, 3, none⟩ = some (.int .i64 t173) := (blk_cell BK166.out 3).trans rfl
                              have hfz68_0 := blk_frozen BK166.out 0
                              have hfz68_1 := blk_frozen BK166.out 1
                              have hfz68_2 := blk_frozen BK166.out 2
                              have hfz68_3 := blk_frozen BK166.out 3
                              go_wp2
                              go_roundg kj63
                              case measure => have := HK1.out; have := HJ12.out; have := HJ54.out; have := HJ63.out; omega
                              case rel => exact ⟨(x7_63), (wrap64 (x18_1 + 1)), (t170), (t171), (true), (t173), (t174), (t175), (t176), (t177), (by first | rfl | (simp; done) | (simp [*]; done)), (by first | rfl | (simp; done) | (simp [*]; done)), H', ⟨by have := HK1.out; have := HJ12.out; have := HJ54.out; have := HJ63.out; omega⟩, ⟨by (with_reducible repeat (first | refine blk_drewN ?_ _ | refine blk_drew ?_ | refine blk_alloc ?_ _)); exact BK166.out⟩, ⟨by (with_reducible repeat (first | refine blk_drewN ?_ _ | refine blk_drew ?_ | refine blk_alloc ?_ _)); exact BK167.out⟩, ⟨by repeat (first | (with_reducible first | exact HB.out | apply below_alloc | apply pw_below_drewN | apply below_drew1 | refine below_set ?_ GE166.out | refine below_set ?_ GE167.out) | exact HB.out)⟩⟩
                            · replace c66 := Bool.eq_false_iff.mpr c66
                              subst c66
                              have H1 : (if x167002_1 = true then (if (Int.tmod (wrap64 ((Int.tmod (rd l0 x18_1) 5) + 5)) 5) = 4 then (if x7_63 < (wrap64 ((mx a1 1) - 1)) then (some false) else (if (!(t170 == 0) || (!(t171 == 0) || (false || (!(t173 == 0))))) = true then (some false) else (signalboxlaw10_ConfPlays.l0 kj63 a1 0 l0 (l0.length : Int) (wrap64 (x18_1 + 1)) t170 t171 false t173 t174 t175 t176 t177))) else (some false)) else (signalboxlaw10_ConfPlays.l0 kj63 a1 0 l0 (l0.length : Int) (wrap64 (x18_1 + 1)) t170 t171 false t173 t174 t175 t176 t177)) = some r := by rw [if_neg (show ¬ (false = true) by decide)] at H; exact H
                              clear H
                              have H := H1
                              clear H1
                              by_cases c69 : x167002_1 = true
                              · subst c69
                                have H1 : (if (Int.tmod (wrap64 ((Int.tmod (rd l0 x18_1) 5) + 5)) 5) = 4 then (if x7_63 < (wrap64 ((mx a1 1) - 1)) then (some false) else (if (!(t170 == 0) || (!(t171 == 0) || (false || (!(t173 == 0))))) = true then (some false) else (signalboxlaw10_ConfPlays.l0 kj63 a1 0 l0 (l0.length : Int) (wrap64 (x18_1 + 1)) t170 t171 false t173 t174 t175 t176 t177))) else (some false)) = some r := by rw [if_pos rfl] at H; exact H
                                clear H
                                have H := H1
                                clear H1
                                by_cases c70 : (Int.tmod (wrap64 ((Int.tmod (rd l0 x18_1) 5) + 5)) 5) = 4
                                · rw [if_pos c70] at H
                                  have c70b0 : ((Int.tmod (wrap64 ((Int.tmod (rd l0 x18_1) 5) + 5)) 5) == 4) = true := beq_iff_eq.mpr c70
                                  have c70b1 : ((Int.tmod (wrap64 ((Int.tmod (rd l0 x18_1) 5) + 5)) 5) != 4) = false := bne_eq_false_iff_eq.mpr c70
                                  clear c70
                                  obtain ⟨ji71, hji71⟩ : ∃ j_ : Int, (mx a1 1) = j_ := ⟨_, rfl⟩
                                  replace H : (if x7_63 < (wrap64 ((ji71) - 1)) then (some false) else (if (!(t170 == 0) || (!(t171 == 0) || (false || (!(t173 == 0))))) = true then (some false) else (signalboxlaw10_ConfPlays.l0 kj63 a1 0 l0 (l0.length : Int) (wrap64 (x18_1 + 1)) t170 t171 false t173 t174 t175 t176 t177))) = some r := by first | (rw [hji71] at H; exact H) | (simp only [hji71] at H ⊢; exact H)
                                  have hji71_ : (if a1 < 1 then 1 else a1) = ji71 := hji71
                                  by_cases c72 : x7_63 < (wrap64 ((ji71) - 1))
                                  · rw [if_pos c72] at H
                                    have c72b0 : decide (x7_63 < (wrap64 ((ji71) - 1))) = true := decide_eq_true c72
                                    clear c72
                                    obtain rfl := Option.some.inj H
                                    have hnb73 := NB166_167.out
                                    have hnc73 := NB167_166.out
                                    have hcz74_0 : wc.cell? ⟨gb166, 0, none⟩ = some (.int .i64 t170) := (blk_cell BK166.out 0).trans rfl
                                    have hcz74_1 : wc.cell? ⟨gb166, 1, none⟩ = some (.int .i64 t171) := (blk_cell BK166.out 1).trans rfl
                                    have hcz74_2 : wc.cell? ⟨gb166, 2, none⟩ = some (.bool false) := (blk_cell BK166.out 2).trans rfl
                                    have hcz74_3 : wc.cell? ⟨gb166, 3, none⟩ = some (.int .i64 t173) := (blk_cell BK166.out 3).trans rfl
                                    have hfz74_0 := blk_frozen BK166.out 0
                                    have hfz74_1 := blk_frozen BK166.out 1
                                    have hfz74_2 := blk_frozen BK166.out 2
                                    have hfz74_3 := blk_frozen BK166.out 3
                                    go_wp2
                                    go_ret
                                    exact ⟨by first | rfl | (simp [errW_none, errW_some] <;> rfl) | (simp only [← hji71]; first | rfl | (simp [errW_none, errW_some] <;> rfl)) | (simp [*, errW_none, errW_some] <;> rfl), by repeat (first | (with_reducible first | exact HB.out | apply below_alloc | apply pw_below_drewN | apply below_drew1 | refine below_set ?_ GE166.out | refine below_set ?_ GE167.out) | exact HB.out)⟩
                                  · rw [if_neg c72] at H
                                    have c72b0 : decide (x7_63 < (wrap64 ((ji71) - 1))) = false := decide_eq_false c72
                                    clear c72
                                    by_cases c75 : (!(t170 == 0) || (!(t171 == 0) || (false || (!(t173 == 0))))) = true
                                    · rw [if_pos c75] at H
                                      have c75b0 : (!(t170 == 0) || (!(t171 == 0) || (false || (!(t173 == 0))))) = true := c75
                                      clear c75
                                      (try simp only [Bool.true_beq, Bool.false_beq, beq_true, beq_false, Bool.not_not, Bool.not_true, Bool.not_false, Bool.true_and, Bool.false_and, Bool.and_true, Bool.and_false, Bool.true_or, Bool.false_or, Bool.or_true, Bool.or_false] at c75b0)
                                      obtain rfl := Option.some.inj H
                                      have hnb76 := NB166_167.out
                                      have hnc76 := NB167_166.out
                                      have hcz77_0 : wc.cell? ⟨gb166, 0, none⟩ = some (.int .i64 t170) := (blk_cell BK166.out 0).trans rfl
                                      have hcz77_1 : wc.cell? ⟨gb166, 1, none⟩ = some (.int .i64 t171) := (blk_cell BK166.out 1).trans rfl
                                      have hcz77_2 : wc.cell? ⟨gb166, 2, none⟩ = some (.bool false) := (blk_cell BK166.out 2).trans rfl
                                      have hcz77_3 : wc.cell? ⟨gb166, 3, none⟩ = some (.int .i64 t173) := (blk_cell BK166.out 3).trans rfl
                                      have hfz77_0 := blk_frozen BK166.out 0
                                      have hfz77_1 := blk_frozen BK166.out 1
                                      have hfz77_2 := blk_frozen BK166.out 2
                                      have hfz77_3 := blk_frozen BK166.out 3
                                      go_wp2
                                      go_ret
                                      exact ⟨by first | rfl | (simp [errW_none, errW_some] <;> rfl) | (simp only [← hji71]; first | rfl | (simp [errW_none, errW_some] <;> rfl)) | (simp [*, errW_none, errW_some] <;> rfl), by repeat (first | (with_reducible first | exact HB.out | apply below_alloc | apply pw_below_drewN | apply below_drew1 | refine below_set ?_ GE166.out | refine below_set ?_ GE167.out) | exact HB.out)⟩
                                    · rw [if_neg c75] at H
                                      have c75b0 : (!(t170 == 0) || (!(t171 == 0) || (false || (!(t173 == 0))))) = false := by simpa using c75
                                      clear c75
                                      (try simp only [Bool.true_beq, Bool.false_beq, beq_true, beq_false, Bool.not_not, Bool.not_true, Bool.not_false, Bool.true_and, Bool.false_and, Bool.and_true, Bool.and_false, Bool.true_or, Bool.false_or, Bool.or_true, Bool.or_false] at c75b0)
                                      have H' := Aside0.mk H
                                      clear H
                                      have hnb78 := NB166_167.out
                                      have hnc78 := NB167_166.out
                                      have hcz79_0 : wc.cell? ⟨gb166, 0, none⟩ = some (.int .i64 t170) := (blk_cell BK166.out 0).trans rfl
                                      have hcz79_1 : wc.cell? ⟨gb166, 1, none⟩ = some (.int .i64 t171) := (blk_cell BK166.out 1).trans rfl
                                      have hcz79_2 : wc.cell? ⟨gb166, 2, none⟩ = some (.bool false) := (blk_cell BK166.out 2).trans rfl
                                      have hcz79_3 : wc.cell? ⟨gb166, 3, none⟩ = some (.int .i64 t173) := (blk_cell BK166.out 3).trans rfl
                                      have hfz79_0 := blk_frozen BK166.out 0
                                      have hfz79_1 := blk_frozen BK166.out 1
                                      have hfz79_2 := blk_frozen BK166.out 2
                                      have hfz79_3 := blk_frozen BK166.out 3
                                      go_wp2
                                      go_roundg kj63
                                      case measure => have := HK1.out; have := HJ12.out; have := HJ54.out; have := HJ63.out; omega
                                      case rel => exact ⟨(0), (wrap64 (x18_1 + 1)), (t170), (t171), (false), (t173), (t174), (t175), (t176), (t177), (by first | rfl | (simp; done) | (simp [*]; done)), (by first | rfl | (simp; done) | (simp [*]; done)), H', ⟨by have := HK1.out; have := HJ12.out; have := HJ54.out; have := HJ63.out; omega⟩, ⟨by (with_reducible repeat (first | refine blk_drewN ?_ _ | refine blk_drew ?_ | refine blk_alloc ?_ _)); exact BK166.out⟩, ⟨by (with_reducible repeat (first | refine blk_drewN ?_ _ | refine blk_drew ?_ | refine blk_alloc ?_ _)); exact BK167.out⟩, ⟨by repeat (first | (with_reducible first | exact HB.out | apply below_alloc | apply pw_below_drewN | apply below_drew1 | refine below_set ?_ GE166.out | refine below_set ?_ GE167.out) | exact HB.out)⟩⟩
                                · rw [if_neg c70] at H
                                  have c70b0 : ((Int.tmod (wrap64 ((Int.tmod (rd l0 x18_1) 5) + 5)) 5) == 4) = false := beq_eq_false_iff_ne.mpr c70
                                  have c70b1 : ((Int.tmod (wrap64 ((Int.tmod (rd l0 x18_1) 5) + 5)) 5) != 4) = true := bne_iff_ne.mpr c70
                                  obtain rfl := Option.some.inj H
                                  have hnb80 := NB166_167.out
                                  have hnc80 := NB167_166.out
                                  have hcz81_0 : wc.cell? ⟨gb166, 0, none⟩ = some (.int .i64 t170) := (blk_cell BK166.out 0).trans rfl
                                  have hcz81_1 : wc.cell? ⟨gb166, 1, none⟩ = some (.int .i64 t171) := (blk_cell BK166.out 1).trans rfl
                                  have hcz81_2 : wc.cell? ⟨gb166, 2, none⟩ = some (.bool false) := (blk_cell BK166.out 2).trans rfl
                                  have hcz81_3 : wc.cell? ⟨gb166, 3, none⟩ = some (.int .i64 t173) := (blk_cell BK166.out 3).trans rfl
                                  have hfz81_0 := blk_frozen BK166.out 0
                                  have hfz81_1 := blk_frozen BK166.out 1
                                  have hfz81_2 := blk_frozen BK166.out 2
                                  have hfz81_3 := blk_frozen BK166.out 3
                                  go_wp2
                                  go_ret
                                  exact ⟨by first | rfl | (simp [errW_none, errW_some] <;> rfl) | (simp [*, errW_none, errW_some] <;> rfl), by repeat (first | (with_reducible first | exact HB.out | apply below_alloc | apply pw_below_drewN | apply below_drew1 | refine below_set ?_ GE166.out | refine below_set ?_ GE167.out) | exact HB.out)⟩
                              · replace c69 := Bool.eq_false_iff.mpr c69
                                subst c69
                                have H1 : (signalboxlaw10_ConfPlays.l0 kj63 a1 0 l0 (l0.length : Int) (wrap64 (x18_1 + 1)) t170 t171 false t173 t174 t175 t176 t177) = some r := by rw [if_neg (show ¬ (false = true) by decide)] at H; exact H
                                clear H
                                have H := H1
                                clear H1
                                have H' := Aside0.mk H
                                clear H
                                have hnb82 := NB166_167.out
                                have hnc82 := NB167_166.out
                                have hcz83_0 : wc.cell? ⟨gb166, 0, none⟩ = some (.int .i64 t170) := (blk_cell BK166.out 0).trans rfl
                                have hcz83_1 : wc.cell? ⟨gb166, 1, none⟩ = some (.int .i64 t171) := (blk_cell BK166.out 1).trans rfl
                                have hcz83_2 : wc.cell? ⟨gb166, 2, none⟩ = some (.bool false) := (blk_cell BK166.out 2).trans rfl
                                have hcz83_3 : wc.cell? ⟨gb166, 3, none⟩ = some (.int .i64 t173) := (blk_cell BK166.out 3).trans rfl
                                have hfz83_0 := blk_frozen BK166.out 0
                                have hfz83_1 := blk_frozen BK166.out 1
                                have hfz83_2 := blk_frozen BK166.out 2
                                have hfz83_3 := blk_frozen BK166.out 3
                                go_wp2
                                go_roundg kj63
                                case measure => have := HK1.out; have := HJ12.out; have := HJ54.out; have := HJ63.out; omega
                                case rel => exact ⟨(0), (wrap64 (x18_1 + 1)), (t170), (t171), (false), (t173), (t174), (t175), (t176), (t177), (by first | rfl | (simp; done) | (simp [*]; done)), (by first | rfl | (simp; done) | (simp [*]; done)), H', ⟨by have := HK1.out; have := HJ12.out; have := HJ54.out; have := HJ63.out; omega⟩, ⟨by (with_reducible repeat (first | refine blk_drewN ?_ _ | refine blk_drew ?_ | refine blk_alloc ?_ _)); exact BK166.out⟩, ⟨by (with_reducible repeat (first | refine blk_drewN ?_ _ | refine blk_drew ?_ | refine blk_alloc ?_ _)); exact BK167.out⟩, ⟨by repeat (first | (with_reducible first | exact HB.out | apply below_alloc | apply pw_below_drewN | apply below_drew1 | refine below_set ?_ GE166.out | refine below_set ?_ GE167.out) | exact HB.out)⟩⟩
            · rw [if_neg c10] at H
              exact absurd H (by simp)
          · rw [if_neg c9] at H
            exact absurd H (by simp)
        · rw [if_neg c8] at H
          have c8b0 : decide (x18_1 < (l0.length : Int)) = false := decide_eq_false c8
          clear c8
          replace H := Option.bind_eq_some_iff.mp H
          obtain ⟨t168, A840, H⟩ := H
          replace H : (some t168) = some r := H
          have A84 := Aside0.mk A840
          clear A840
          obtain rfl := Option.some.inj H
          go_wp2_with (first | ((with_reducible refine gate_callee (f := 12) rfl ?_); refine goesL_ (some 88) rfl rfl Try.func12 (by kernel_rfl) rfl #[] rfl (by (try simp only [List.map_toArray, List.map_cons, List.map_nil]); first | done | rfl | (simp only [List.length_drop, List.length_take]; rfl)) ?_; (with_reducible refine (signalboxlaw10_alive.calls k1  t168 _ A84.out).mono ?_); rintro e w85 ⟨rfl, hb⟩; refine ⟨_, rfl, ?_⟩; have n0_ := Aside0.mk (blk_below (g := gb166) (o := .cells #[.int .i64 x167000_1, .int .i64 x167001_1, .bool x167002_1, .int .i64 x167003_1] 23 (0, 0)) (by (with_reducible repeat (first | refine blk_drewN ?_ _ | refine blk_drew ?_ | refine blk_alloc ?_ _)); exact BK166.out) hb); have n1_ := Aside0.mk (blk_below (g := gb167) (o := .cells #[.int .i64 x168000_1, .int .i64 x168001_1, .bool x168002_1, .int .i64 x168003_1] 23 (0, 0)) (by (with_reducible repeat (first | refine blk_drewN ?_ _ | refine blk_drew ?_ | refine blk_alloc ?_ _)); exact BK167.out) hb); have n2_ := Aside0.mk (below_step (by repeat (first | (with_reducible first | exact HB.out | apply below_alloc | apply pw_below_drewN | apply below_drew1 | refine below_set ?_ GE166.out | refine below_set ?_ GE167.out) | exact HB.out)) hb); clear BK166; clear BK167; clear HB; have BK166 := n0_; have BK167 := n1_; have HB := n2_; clear n0_ n1_ n2_; (try clear hb); (try clear hb2); (try clear hk); (try clear hi)))
          go_ret
          exact ⟨by first | rfl | (simp [errW_none, errW_some] <;> rfl) | (simp [*, errW_none, errW_some] <;> rfl), by repeat (first | (with_reducible first | exact HB.out | apply below_alloc | apply pw_below_drewN | apply below_drew1 | refine below_set ?_ GE166.out | refine below_set ?_ GE167.out) | exact HB.out)⟩
def signalboxlaw10_ConfPlays.Pure : Prop := ∀ (l0 : List Int) (a1 : Int), l0.length ≤ maxLen → l0.length * 8 ≤ 140737488351232 → ((∀ x ∈ l0, ((Lit.int .i64 x).wf = true))) → (Lit.int .i64 a1).wf = true → ∃ k, signalboxlaw10_ConfPlays.f k l0 a1 = some true

end Go.Proofs.Ytpeegolmfopndaa.PConfPlays
