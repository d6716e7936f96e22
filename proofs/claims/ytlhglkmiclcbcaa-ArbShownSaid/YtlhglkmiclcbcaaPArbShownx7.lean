-- Laid by a program of the session over the kit's print. Not trusted: Lean checks it.
import Derived.Test.YtlhglkmiclcbcaaPArbShownx0
import Derived.Test.YtlhglkmiclcbcaaPArbShownx1
import Derived.Test.YtlhglkmiclcbcaaPArbShownx2
import Derived.Test.YtlhglkmiclcbcaaPArbShownx6
namespace Go.Proofs.Ytlhglkmiclcbcaa.PArbShown
open Go.RowKit Go.Proofs.YtlhglkmiclcbcaaW.PrintWords Go.Proofs.YtlhglkmiclcbcaaW.PrintLast Go.Proofs.YtlhglkmiclcbcaaW.PrintMore
attribute [local go_sem] max2_int min2_int max_two min_two max_three min_three max_four min_four   -- for this text's walks alone
set_option linter.unusedVariables false
set_option linter.unusedSimpArgs false

/-! ### signalboxlaw09_ArbShown: function 6 -/
mutual
def signalboxlaw09_ArbShown.l0 : Nat → List ByteArray → Int → ByteArray → List ByteArray → List Int → Int → Int → Option (Bool)
  | 0, _, _, _, _, _, _, _ => none
  | k + 1, x0, x3, x4, x5, x26, x27, x28 => if x28 < x27 then (if 0 ≤ x28 then (if x28 < (x26.length : Int) then (if (rd x26 x28) < 0 then (some false) else (if (rd x26 x28) ≥ (x0.length : Int) then (some false) else (if 0 ≤ (rd x26 x28) then (if (rd x26 x28) < (x0.length : Int) then (if x5.length < 8796093022208 then (signalboxlaw09_ArbShown.l0 k x0 x3 x4 (x5 ++ [rdOf ByteArray.empty x0 (rd x26 x28)]) x26 x27 (wrap64 (x28 + 1))) else (none)) else (none)) else (none)))) else (none)) else (none)) else ((arb_Level.f k x5).bind fun t189 => (if (t189.size : Int) > x3 then (some false) else (signalboxlaw09_ArbShown.l1 k x0 x3 x4 x5 t189 x5 (x5.length : Int) 0)))
def signalboxlaw09_ArbShown.l1 : Nat → List ByteArray → Int → ByteArray → List ByteArray → ByteArray → List ByteArray → Int → Int → Option (Bool)
  | 0, _, _, _, _, _, _, _, _ => none
  | k + 1, x0, x3, x4, x5, x8, x54, x55, x56 => if x56 < x55 then (if 0 ≤ x56 then (if x56 < (x54.length : Int) then ((signalboxref09_Whole.f k (rdOf ByteArray.empty x54 x56) x3).bind fun t192 => (if 0 ≤ (x8.size : Int) then (if (x8.size : Int) ≤ (t192.size : Int) then (if (t192.extract 0 ((x8.size : Int) : Int).toNat).toList = x8.toList then ((signalboxref09_Whole.f k x8 x3).bind fun t193 => (signalboxlaw09_ArbShown.j2 k x0 x3 x4 x5 x8 t192 x54 x55 x56 (t192.toList != t193.toList))) else (signalboxlaw09_ArbShown.j2 k x0 x3 x4 x5 x8 t192 x54 x55 x56 true)) else (none)) else (none))) else (none)) else (none)) else (if (((x0.length : Int) == 0) == ((x5.length : Int) == 0)) = true then ((signalboxlaw09_alive.f k).bind fun t190 => (some t190)) else (some false))
def signalboxlaw09_ArbShown.j2 : Nat → List ByteArray → Int → ByteArray → List ByteArray → ByteArray → ByteArray → List ByteArray → Int → Int → Bool → Option (Bool)
  | 0, _, _, _, _, _, _, _, _, _, _ => none
  | k + 1, x0, x3, x4, x5, x8, x11, x54, x55, x56, x75 => if x75 = true then (some false) else (signalboxlaw09_ArbShown.l2 k x0 x3 x4 x5 x8 x11 x54 x55 x56 x3 0)
def signalboxlaw09_ArbShown.l2 : Nat → List ByteArray → Int → ByteArray → List ByteArray → ByteArray → ByteArray → List ByteArray → Int → Int → Int → Int → Option (Bool)
  | 0, _, _, _, _, _, _, _, _, _, _, _ => none
  | k + 1, x0, x3, x4, x5, x8, x11, x54, x55, x56, x76, x77 => if x77 < x76 then (if 0 ≤ x77 then (if x77 < (x11.size : Int) then (if (bt x11 x77) = 48 then (if x77 < (x4.size : Int) then (if (bt x4 x77) = 48 then (signalboxlaw09_ArbShown.l2 k x0 x3 x4 x5 x8 x11 x54 x55 x56 x76 (wrap64 (x77 + 1))) else (some false)) else (none)) else (signalboxlaw09_ArbShown.l2 k x0 x3 x4 x5 x8 x11 x54 x55 x56 x76 (wrap64 (x77 + 1)))) else (none)) else (none)) else (signalboxlaw09_ArbShown.l1 k x0 x3 x4 x5 x8 x54 x55 (wrap64 (x56 + 1)))
end
def signalboxlaw09_ArbShown.f (k : Nat) (l0 : List ByteArray) : Option (Bool) := (signalboxref09_Few.f k l0).bind fun t177 => (if t177 = true then ((signalboxref09_Long.f k l0).bind fun t179 => ((arb_Level.f k l0).bind fun t180 => (if (t180.size : Int) = t179 then ((arb_Race.f k l0).bind fun t181 => (signalboxlaw09_ArbShown.l0 k l0 t179 t180 ([] : List ByteArray) t181 (t181.length : Int) 0)) else (some false)))) else ((signalboxlaw09_alive.f k).bind fun t178 => (some t178)))
theorem signalboxlaw09_ArbShown.mono_l : ∀ k, (∀ y0 y1 y2 y3 y4 y5 y6, LeO (signalboxlaw09_ArbShown.l0 k y0 y1 y2 y3 y4 y5 y6) (signalboxlaw09_ArbShown.l0 (k + 1) y0 y1 y2 y3 y4 y5 y6)) ∧ (∀ y0 y1 y2 y3 y4 y5 y6 y7, LeO (signalboxlaw09_ArbShown.l1 k y0 y1 y2 y3 y4 y5 y6 y7) (signalboxlaw09_ArbShown.l1 (k + 1) y0 y1 y2 y3 y4 y5 y6 y7)) ∧ (∀ y0 y1 y2 y3 y4 y5 y6 y7 y8 y9, LeO (signalboxlaw09_ArbShown.j2 k y0 y1 y2 y3 y4 y5 y6 y7 y8 y9) (signalboxlaw09_ArbShown.j2 (k + 1) y0 y1 y2 y3 y4 y5 y6 y7 y8 y9)) ∧ (∀ y0 y1 y2 y3 y4 y5 y6 y7 y8 y9 y10, LeO (signalboxlaw09_ArbShown.l2 k y0 y1 y2 y3 y4 y5 y6 y7 y8 y9 y10) (signalboxlaw09_ArbShown.l2 (k + 1) y0 y1 y2 y3 y4 y5 y6 y7 y8 y9 y10))
  | 0 => ⟨fun _ _ _ _ _ _ _ r h => by simp [signalboxlaw09_ArbShown.l0] at h, fun _ _ _ _ _ _ _ _ r h => by simp [signalboxlaw09_ArbShown.l1] at h, fun _ _ _ _ _ _ _ _ _ _ r h => by simp [signalboxlaw09_ArbShown.j2] at h, fun _ _ _ _ _ _ _ _ _ _ _ r h => by simp [signalboxlaw09_ArbShown.l2] at h⟩
  | k + 1 => by
    obtain ⟨ih0, ih1, ih2, ih3⟩ := signalboxlaw09_ArbShown.mono_l k
    refine ⟨?_, ?_, ?_, ?_⟩
    · intro y0 y1 y2 y3 y4 y5 y6
      unfold signalboxlaw09_ArbShown.l0
      repeat' first
      | (with_reducible exact ih0 _ _ _ _ _ _ _)
      | (with_reducible exact ih1 _ _ _ _ _ _ _ _)
      | (with_reducible exact ih2 _ _ _ _ _ _ _ _ _ _)
      | (with_reducible exact ih3 _ _ _ _ _ _ _ _ _ _ _)
      | (with_reducible exact arb_Level.mono _ _)
      | (with_reducible exact arb_Race.mono _ _)
      | (with_reducible exact signalboxlaw09_alive.mono _)
      | (with_reducible exact signalboxref09_Few.mono _ _)
      | (with_reducible exact signalboxref09_Long.mono _ _)
      | (with_reducible exact signalboxref09_Whole.mono _ _ _)
      | (with_reducible exact LeO.refl _)
      | (with_reducible exact LeO.none _)
      | (with_reducible refine LeO.ite ?_ ?_)
      | (with_reducible refine LeO.bind ?_ (fun _ => ?_))
      | exact ih0 _ _ _ _ _ _ _
      | exact ih1 _ _ _ _ _ _ _ _
      | exact ih2 _ _ _ _ _ _ _ _ _ _
      | exact ih3 _ _ _ _ _ _ _ _ _ _ _
      | exact arb_Level.mono _ _
      | exact arb_Race.mono _ _
      | exact signalboxlaw09_alive.mono _
      | exact signalboxref09_Few.mono _ _
      | exact signalboxref09_Long.mono _ _
      | exact signalboxref09_Whole.mono _ _ _
      | exact LeO.none _
      | refine LeO.ite ?_ ?_
      | refine LeO.bind ?_ (fun _ => ?_)
    · intro y0 y1 y2 y3 y4 y5 y6 y7
      unfold signalboxlaw09_ArbShown.l1
      repeat' first
      | (with_reducible exact ih0 _ _ _ _ _ _ _)
      | (with_reducible exact ih1 _ _ _ _ _ _ _ _)
      | (with_reducible exact ih2 _ _ _ _ _ _ _ _ _ _)
      | (with_reducible exact ih3 _ _ _ _ _ _ _ _ _ _ _)
      | (with_reducible exact arb_Level.mono _ _)
      | (with_reducible exact arb_Race.mono _ _)
      | (with_reducible exact signalboxlaw09_alive.mono _)
      | (with_reducible exact signalboxref09_Few.mono _ _)
      | (with_reducible exact signalboxref09_Long.mono _ _)
      | (with_reducible exact signalboxref09_Whole.mono _ _ _)
      | (with_reducible exact LeO.refl _)
      | (with_reducible exact LeO.none _)
      | (with_reducible refine LeO.ite ?_ ?_)
      | (with_reducible refine LeO.bind ?_ (fun _ => ?_))
      | exact ih0 _ _ _ _ _ _ _
      | exact ih1 _ _ _ _ _ _ _ _
      | exact ih2 _ _ _ _ _ _ _ _ _ _
      | exact ih3 _ _ _ _ _ _ _ _ _ _ _
      | exact arb_Level.mono _ _
      | exact arb_Race.mono _ _
      | exact signalboxlaw09_alive.mono _
      | exact signalboxref09_Few.mono _ _
      | exact signalboxref09_Long.mono _ _
      | exact signalboxref09_Whole.mono _ _ _
      | exact LeO.none _
      | refine LeO.ite ?_ ?_
      | refine LeO.bind ?_ (fun _ => ?_)
    · intro y0 y1 y2 y3 y4 y5 y6 y7 y8 y9
      unfold signalboxlaw09_ArbShown.j2
      repeat' first
      | (with_reducible exact ih0 _ _ _ _ _ _ _)
      | (with_reducible exact ih1 _ _ _ _ _ _ _ _)
      | (with_reducible exact ih2 _ _ _ _ _ _ _ _ _ _)
      | (with_reducible exact ih3 _ _ _ _ _ _ _ _ _ _ _)
      | (with_reducible exact arb_Level.mono _ _)
      | (with_reducible exact arb_Race.mono _ _)
      | (with_reducible exact signalboxlaw09_alive.mono _)
      | (with_reducible exact signalboxref09_Few.mono _ _)
      | (with_reducible exact signalboxref09_Long.mono _ _)
      | (with_reducible exact signalboxref09_Whole.mono _ _ _)
      | (with_reducible exact LeO.refl _)
      | (with_reducible exact LeO.none _)
      | (with_reducible refine LeO.ite ?_ ?_)
      | (with_reducible refine LeO.bind ?_ (fun _ => ?_))
      | exact ih0 _ _ _ _ _ _ _
      | exact ih1 _ _ _ _ _ _ _ _
      | exact ih2 _ _ _ _ _ _ _ _ _ _
      | exact ih3 _ _ _ _ _ _ _ _ _ _ _
      | exact arb_Level.mono _ _
      | exact arb_Race.mono _ _
      | exact signalboxlaw09_alive.mono _
      | exact signalboxref09_Few.mono _ _
      | exact signalboxref09_Long.mono _ _
      | exact signalboxref09_Whole.mono _ _ _
      | exact LeO.none _
      | refine LeO.ite ?_ ?_
      | refine LeO.bind ?_ (fun _ => ?_)
    · intro y0 y1 y2 y3 y4 y5 y6 y7 y8 y9 y10
      unfold signalboxlaw09_ArbShown.l2
      repeat' first
      | (with_reducible exact ih0 _ _ _ _ _ _ _)
      | (with_reducible exact ih1 _ _ _ _ _ _ _ _)
      | (with_reducible exact ih2 _ _ _ _ _ _ _ _ _ _)
      | (with_reducible exact ih3 _ _ _ _ _ _ _ _ _ _ _)
      | (with_reducible exact arb_Level.mono _ _)
      | (with_reducible exact arb_Race.mono _ _)
      | (with_reducible exact signalboxlaw09_alive.mono _)
      | (with_reducible exact signalboxref09_Few.mono _ _)
      | (with_reducible exact signalboxref09_Long.mono _ _)
      | (with_reducible exact signalboxref09_Whole.mono _ _ _)
      | (with_reducible exact LeO.refl _)
      | (with_reducible exact LeO.none _)
      | (with_reducible refine LeO.ite ?_ ?_)
      | (with_reducible refine LeO.bind ?_ (fun _ => ?_))
      | exact ih0 _ _ _ _ _ _ _
      | exact ih1 _ _ _ _ _ _ _ _
      | exact ih2 _ _ _ _ _ _ _ _ _ _
      | exact ih3 _ _ _ _ _ _ _ _ _ _ _
      | exact arb_Level.mono _ _
      | exact arb_Race.mono _ _
      | exact signalboxlaw09_alive.mono _
      | exact signalboxref09_Few.mono _ _
      | exact signalboxref09_Long.mono _ _
      | exact signalboxref09_Whole.mono _ _ _
      | exact LeO.none _
      | refine LeO.ite ?_ ?_
      | refine LeO.bind ?_ (fun _ => ?_)
theorem signalboxlaw09_ArbShown.mono : ∀ a0 k, LeO (signalboxlaw09_ArbShown.f k a0) (signalboxlaw09_ArbShown.f (k + 1) a0) := by
  intro a0 k
  obtain ⟨ih0, ih1, ih2, ih3⟩ := signalboxlaw09_ArbShown.mono_l k
  unfold signalboxlaw09_ArbShown.f
  repeat' first
      | (with_reducible exact ih0 _ _ _ _ _ _ _)
      | (with_reducible exact ih1 _ _ _ _ _ _ _ _)
      | (with_reducible exact ih2 _ _ _ _ _ _ _ _ _ _)
      | (with_reducible exact ih3 _ _ _ _ _ _ _ _ _ _ _)
      | (with_reducible exact arb_Level.mono _ _)
      | (with_reducible exact arb_Race.mono _ _)
      | (with_reducible exact signalboxlaw09_alive.mono _)
      | (with_reducible exact signalboxref09_Few.mono _ _)
      | (with_reducible exact signalboxref09_Long.mono _ _)
      | (with_reducible exact signalboxref09_Whole.mono _ _ _)
      | (with_reducible exact LeO.refl _)
      | (with_reducible exact LeO.none _)
      | (with_reducible refine LeO.ite ?_ ?_)
      | (with_reducible refine LeO.bind ?_ (fun _ => ?_))
      | exact ih0 _ _ _ _ _ _ _
      | exact ih1 _ _ _ _ _ _ _ _
      | exact ih2 _ _ _ _ _ _ _ _ _ _
      | exact ih3 _ _ _ _ _ _ _ _ _ _ _
      | exact arb_Level.mono _ _
      | exact arb_Race.mono _ _
      | exact signalboxlaw09_alive.mono _
      | exact signalboxref09_Few.mono _ _
      | exact signalboxref09_Long.mono _ _
      | exact signalboxref09_Whole.mono _ _ _
      | exact LeO.none _
      | refine LeO.ite ?_ ?_
      | refine LeO.bind ?_ (fun _ => ?_)
set_option maxHeartbeats 8000000 in
set_option maxRecDepth 100000 in
theorem signalboxlaw09_ArbShown.calls (k : Nat) (A0 : Option Addr) (c0 : Nat) (l0 : List ByteArray) (r : Bool) (w : World) (hr0 : Kd.C Kd.string w A0 l0.length l0) (hc0 : l0.length ≤ c0) (h : signalboxlaw09_ArbShown.f k l0 = some r) :
    Calls Try.prog 6 #[.slice A0 l0.length c0] w fun e w' => e = .returned (.bool r) ∧ Below w.heap.size w w' := by
  have HR0 := Aside0.mk hr0
  have HC0 := Aside0.mk hc0
  clear hr0 hc0
  have HB := Aside0.mk (Below.refl w.heap.size w)
  have H : ((signalboxref09_Few.f k l0).bind fun t177 => (if t177 = true then ((signalboxref09_Long.f k l0).bind fun t179 => ((arb_Level.f k l0).bind fun t180 => (if (t180.size : Int) = t179 then ((arb_Race.f k l0).bind fun t181 => (signalboxlaw09_ArbShown.l0 k l0 t179 t180 ([] : List ByteArray) t181 (t181.length : Int) 0)) else (some false)))) else ((signalboxlaw09_alive.f k).bind fun t178 => (some t178)))) = some r := h
  clear h
  replace H := Option.bind_eq_some_iff.mp H
  obtain ⟨t177, A20, H⟩ := H
  replace H : (if t177 = true then ((signalboxref09_Long.f k l0).bind fun t179 => ((arb_Level.f k l0).bind fun t180 => (if (t180.size : Int) = t179 then ((arb_Race.f k l0).bind fun t181 => (signalboxlaw09_ArbShown.l0 k l0 t179 t180 ([] : List ByteArray) t181 (t181.length : Int) 0)) else (some false)))) else ((signalboxlaw09_alive.f k).bind fun t178 => (some t178))) = some r := H
  have A2 := Aside0.mk A20
  clear A20
  by_cases c3 : t177 = true
  · subst c3
    have H1 : ((signalboxref09_Long.f k l0).bind fun t179 => ((arb_Level.f k l0).bind fun t180 => (if (t180.size : Int) = t179 then ((arb_Race.f k l0).bind fun t181 => (signalboxlaw09_ArbShown.l0 k l0 t179 t180 ([] : List ByteArray) t181 (t181.length : Int) 0)) else (some false)))) = some r := by rw [if_pos rfl] at H; exact H
    clear H
    have H := H1
    clear H1
    replace H := Option.bind_eq_some_iff.mp H
    obtain ⟨t179, A40, H⟩ := H
    replace H : ((arb_Level.f k l0).bind fun t180 => (if (t180.size : Int) = t179 then ((arb_Race.f k l0).bind fun t181 => (signalboxlaw09_ArbShown.l0 k l0 t179 t180 ([] : List ByteArray) t181 (t181.length : Int) 0)) else (some false))) = some r := H
    have A4 := Aside0.mk A40
    clear A40
    replace H := Option.bind_eq_some_iff.mp H
    obtain ⟨t180, A50, H⟩ := H
    replace H : (if (t180.size : Int) = t179 then ((arb_Race.f k l0).bind fun t181 => (signalboxlaw09_ArbShown.l0 k l0 t179 t180 ([] : List ByteArray) t181 (t181.length : Int) 0)) else (some false)) = some r := H
    have A5 := Aside0.mk A50
    clear A50
    by_cases c6 : (t180.size : Int) = t179
    · rw [if_pos c6] at H
      have c6b0 : ((t180.size : Int) == t179) = true := beq_iff_eq.mpr c6
      have c6b1 : ((t180.size : Int) != t179) = false := bne_eq_false_iff_eq.mpr c6
      clear c6
      replace H := Option.bind_eq_some_iff.mp H
      obtain ⟨t181, A70, H⟩ := H
      replace H : (signalboxlaw09_ArbShown.l0 k l0 t179 t180 ([] : List ByteArray) t181 (t181.length : Int) 0) = some r := H
      have A7 := Aside0.mk A70
      clear A70
      have H' := Aside0.mk H
      clear H
      go_enter Try.func6, Try.ntmps6
      go_wp2_with (first | ((with_reducible refine gate_callee (f := 8) rfl ?_); refine goesL_ (some 14) rfl rfl Try.func8 (by kernel_rfl) rfl #[.slice A0 l0.length c0] rfl (by (try simp only [List.map_toArray, List.map_cons, List.map_nil]); first | done | rfl | (simp only [List.length_drop, List.length_take]; rfl)) ?_; (with_reducible refine (signalboxref09_Few.calls k _ _ l0 true _ ?side1 ?side2 A2.out).mono ?_); (case side1 => repeat (first | exact HR0.out | (with_reducible refine Kd.C_alloc ?_ _) | (with_reducible refine Kd.C_drewN ?_ _) | (with_reducible refine Kd.C_drew ?_))); (case side2 => exact HC0.out); rintro e w8 ⟨rfl, hb⟩; refine ⟨_, rfl, ?_⟩; have n0_ := Aside0.mk (below_step (by repeat (first | (with_reducible first | exact HB.out | apply below_alloc | apply pw_below_drewN | apply below_drew1) | exact HB.out)) hb); clear HB; have HB := n0_; clear n0_; (try clear hb); (try clear hb2); (try clear hk); (try clear hi)) | ((with_reducible refine gate_callee (f := 21) rfl ?_); refine goesL_ (some 18) rfl rfl Try.func21 (by kernel_rfl) rfl #[.slice A0 l0.length c0] rfl (by (try simp only [List.map_toArray, List.map_cons, List.map_nil]); first | done | rfl | (simp only [List.length_drop, List.length_take]; rfl)) ?_; (with_reducible refine (signalboxref09_Long.calls k _ _ l0 t179 _ ?side1 ?side2 A4.out).mono ?_); (case side1 => repeat (first | exact (Kd.C_below HR0.out HB.out) | (with_reducible refine Kd.C_alloc ?_ _) | (with_reducible refine Kd.C_drewN ?_ _) | (with_reducible refine Kd.C_drew ?_))); (case side2 => exact HC0.out); rintro e w' ⟨rfl, ⟨nd, rfl⟩⟩; refine ⟨_, rfl, ?_⟩) | ((with_reducible refine gate_callee (f := 10) rfl ?_); refine goesL_ (some 20) rfl rfl Try.func10 (by kernel_rfl) rfl #[.slice A0 l0.length c0] rfl (by (try simp only [List.map_toArray, List.map_cons, List.map_nil]); first | done | rfl | (simp only [List.length_drop, List.length_take]; rfl)) ?_; (with_reducible refine (arb_Level.calls k _ _ l0 t180 _ ?side1 ?side2 A5.out).mono ?_); (case side1 => repeat (first | exact (Kd.C_below HR0.out (by repeat (first | (with_reducible first | exact HB.out | apply below_alloc | apply pw_below_drewN | apply below_drew1) | exact HB.out))) | (with_reducible refine Kd.C_alloc ?_ _) | (with_reducible refine Kd.C_drewN ?_ _) | (with_reducible refine Kd.C_drew ?_))); (case side2 => exact HC0.out); rintro e w9 ⟨rfl, hb⟩; refine ⟨_, rfl, ?_⟩; have n0_ := Aside0.mk (below_step (by repeat (first | (with_reducible first | exact HB.out | apply below_alloc | apply pw_below_drewN | apply below_drew1) | exact HB.out)) hb); clear HB; have HB := n0_; clear n0_; (try clear hb); (try clear hb2); (try clear hk); (try clear hi)) | ((with_reducible refine gate_callee (f := 13) rfl ?_); refine goesL_ (some 26) rfl rfl Try.func13 (by kernel_rfl) rfl #[.slice A0 l0.length c0] rfl (by (try simp only [List.map_toArray, List.map_cons, List.map_nil]); first | done | rfl | (simp only [List.length_drop, List.length_take]; rfl)) ?_; (with_reducible refine (arb_Race.calls k _ _ l0 t181 _ ?side1 ?side2 A7.out).mono ?_); (case side1 => repeat (first | exact (Kd.C_below HR0.out HB.out) | (with_reducible refine Kd.C_alloc ?_ _) | (with_reducible refine Kd.C_drewN ?_ _) | (with_reducible refine Kd.C_drew ?_))); (case side2 => exact HC0.out); rintro e w10 ⟨v182, rfl, ho0, hb⟩; refine ⟨_, rfl, ?_⟩; have n0_ := Aside0.mk (Kd.R_lower ho0 (below_size (by repeat (first | (with_reducible first | exact HB.out | apply below_alloc | apply pw_below_drewN | apply below_drew1) | exact HB.out)))); have n1_ := Aside0.mk (below_step (by repeat (first | (with_reducible first | exact HB.out | apply below_alloc | apply pw_below_drewN | apply below_drew1) | exact HB.out)) hb); clear HB; have HO183 := n0_; have HB := n1_; clear n0_ n1_; (try clear hb); (try clear hb2); (try clear hk); (try clear hi); (try clear ho0); obtain ⟨Ao11, co11, eo11⟩ := Kd.R_slice HO183.out; subst eo11))
      go_loopg [5, 28] k (fun kq v5 v28 w' => ∃ (x5_1 : List ByteArray) (x28_1 : Int), v28 = .int .i64 x28_1 ∧ Aside0 (signalboxlaw09_ArbShown.l0 kq l0 t179 t180 x5_1 t181 (t181.length : Int) x28_1 = some r) ∧ Aside0 (kq ≤ k) ∧ Aside0 (Kd.R Kd.string 9 w' w.heap.size (fun _ => True) v5 x5_1) ∧ Aside0 (Kd.R (Kd.int .i64) 3 w' w.heap.size (fun _ => True) (.slice Ao11 t181.length co11) t181) ∧ Aside0 (Below w.heap.size w w'))
      case atStart => exact ⟨(([] : List ByteArray)), (0), (by first | rfl | (simp; done) | (simp [*]; done)), H', ⟨Nat.le_refl _⟩, ⟨by first | exact Kd.R_nil _ _ _ _ _ | exact Kd.N_nil _ _ _ _ _ | exact Kd.V_nil _ _ _ _ _ | exact Kd.Q_nil _ _ _ _ _ | exact Kd.S_nil _ _ _ _ _⟩, ⟨by (with_reducible repeat (first | apply Kd.R_alloc | apply Kd.R_drewN | apply Kd.R_drew)); exact HO183.out⟩, ⟨by repeat (first | (with_reducible first | exact HB.out | apply below_alloc | apply pw_below_drewN | apply below_drew1) | exact HB.out)⟩⟩
      case round =>
        clear H'
        try clear c1
        try clear c2
        try clear p2
        try clear c3
        try clear c6
        try clear c6b0
        try clear c6b1
        try clear c8
        try clear c10
        obtain ⟨x5_1, x28_1, rfl, HA, HK1, HO_5, HO_26, HB⟩ := hrel
        cases gk with
        | zero => exact absurd HA.out (by simp [signalboxlaw09_ArbShown.l0])
        | succ k1 =>
          have H := HA.out
          clear HA
          simp only [signalboxlaw09_ArbShown.l0] at H
          by_cases c12 : x28_1 < (t181.length : Int)
          · rw [if_pos c12] at H
            have c12b0 : decide (x28_1 < (t181.length : Int)) = true := decide_eq_true c12
            clear c12
            by_cases c13 : 0 ≤ x28_1
            · rw [if_pos c13] at H
              have c13b0 : decide (0 ≤ x28_1) = true := decide_eq_true c13
              clear c13
              by_cases c14 : x28_1 < (t181.length : Int)
              · rw [if_pos c14] at H
                have c14b0 : decide (x28_1 < (t181.length : Int)) = true := decide_eq_true c14
                clear c14
                by_cases c15 : (rd t181 x28_1) < 0
                · rw [if_pos c15] at H
                  have c15b0 : decide ((rd t181 x28_1) < 0) = true := decide_eq_true c15
                  clear c15
                  obtain rfl := Option.some.inj H
                  have p184 : 0 ≤ (x28_1 : Int) := of_decide_eq_true (by first | (with_reducible assumption) | assumption)
                  have q184 : x28_1 < (t181.length : Int) := of_decide_eq_true (by first | (with_reducible assumption) | assumption)
                  obtain ⟨ad184, e184, hx184_0⟩ := Kd.at_int (Kd.R_reads' HO_26.out).2.2 x28_1 p184 q184
                  cases e184
                  replace p184 := eq_true p184
                  replace q184 := eq_true q184
                  go_wp2
                  go_ret
                  exact ⟨by first | rfl | (simp [errW_none, errW_some] <;> rfl) | (simp [*, errW_none, errW_some] <;> rfl), by repeat (first | (with_reducible first | exact HB.out | apply below_alloc | apply pw_below_drewN | apply below_drew1) | exact HB.out)⟩
                · rw [if_neg c15] at H
                  have c15b0 : decide ((rd t181 x28_1) < 0) = false := decide_eq_false c15
                  clear c15
                  by_cases c16 : (rd t181 x28_1) ≥ (l0.length : Int)
                  · rw [if_pos c16] at H
                    have c16b0 : decide ((l0.length : Int) ≤ (rd t181 x28_1)) = true := decide_eq_true c16
                    clear c16
                    obtain rfl := Option.some.inj H
                    have p184 : 0 ≤ (x28_1 : Int) := of_decide_eq_true (by first | (with_reducible assumption) | assumption)
                    have q184 : x28_1 < (t181.length : Int) := of_decide_eq_true (by first | (with_reducible assumption) | assumption)
                    obtain ⟨ad184, e184, hx184_0⟩ := Kd.at_int (Kd.R_reads' HO_26.out).2.2 x28_1 p184 q184
                    cases e184
                    replace p184 := eq_true p184
                    replace q184 := eq_true q184
                    go_wp2
                    go_ret
                    exact ⟨by first | rfl | (simp [errW_none, errW_some] <;> rfl) | (simp [*, errW_none, errW_some] <;> rfl), by repeat (first | (with_reducible first | exact HB.out | apply below_alloc | apply pw_below_drewN | apply below_drew1) | exact HB.out)⟩
                  · rw [if_neg c16] at H
                    have c16b0 : decide ((l0.length : Int) ≤ (rd t181 x28_1)) = false := decide_eq_false c16
                    clear c16
                    by_cases c17 : 0 ≤ (rd t181 x28_1)
                    · rw [if_pos c17] at H
                      have c17b0 : decide (0 ≤ (rd t181 x28_1)) = true := decide_eq_true c17
                      clear c17
                      by_cases c18 : (rd t181 x28_1) < (l0.length : Int)
                      · rw [if_pos c18] at H
                        have c18b0 : decide ((rd t181 x28_1) < (l0.length : Int)) = true := decide_eq_true c18
                        clear c18
                        by_cases c19 : x5_1.length < 8796093022208
                        · rw [if_pos c19] at H
                          have LMc19 := Aside0.mk c19
                          clear c19
                          obtain ⟨y186, hy186⟩ : ∃ y_ : List ByteArray, y_ = (x5_1 ++ [rdOf ByteArray.empty l0 (rd t181 x28_1)]) := ⟨_, rfl⟩
                          replace H : (signalboxlaw09_ArbShown.l0 k1 l0 t179 t180 y186 t181 (t181.length : Int) (wrap64 (x28_1 + 1))) = some r := by first | (rw [hy186]; with_reducible exact H) | (have H2_ := (Option.bind_some _ _).symm.trans H; rw [hy186]; with_reducible exact H2_) | (have H2_ := (Option.bind_some _ _).symm.trans H; with_reducible exact H2_) | with_reducible exact H | (rw [hy186]; exact H) | exact H
                          have Ny186 := Aside0.mk hy186
                          clear hy186
                          have H' := Aside0.mk H
                          clear H
                          have p184 : 0 ≤ (x28_1 : Int) := of_decide_eq_true (by first | (with_reducible assumption) | assumption)
                          have q184 : x28_1 < (t181.length : Int) := of_decide_eq_true (by first | (with_reducible assumption) | assumption)
                          obtain ⟨ad184, e184, hx184_0⟩ := Kd.at_int (Kd.R_reads' HO_26.out).2.2 x28_1 p184 q184
                          cases e184
                          replace p184 := eq_true p184
                          replace q184 := eq_true q184
                          have p185 : 0 ≤ ((rd t181 x28_1) : Int) := of_decide_eq_true (by first | (with_reducible assumption) | assumption)
                          have q185 : (rd t181 x28_1) < (l0.length : Int) := of_decide_eq_true (by first | (with_reducible assumption) | assumption)
                          obtain ⟨ad185, e185, hx185_0⟩ := Kd.at_string HR0.out (rd t181 x28_1) p185 q185
                          cases e185
                          replace hx185_0 := (HB.out.cell (World.block_lt_of_cell? w _ hx185_0)).trans hx185_0
                          replace p185 := eq_true p185
                          replace q185 := eq_true q185
                          go_wp2_with (first | ((with_reducible refine gate_builtin (b := .append) (xs := #[.tmp 40, .tmp 45]) rfl ?_); (try (refine gate_guard (by rfl) ?_; dsimp only)); at_builtin; refine Kd.R_append Kd.string (w0 := w) w.heap.size rfl (.tmp 40) (.tmp 45) 22 9 (.string ⟨#[]⟩) 16 rfl Try.underlying22 info9 rfl (by decide) (by omega) u5 x5_1 (rdOf ByteArray.empty l0 (rd t181 x28_1)) [.string (rdOf ByteArray.empty l0 (rd t181 x28_1))] (fun _ => True) (fun _ => False) rfl rfl ?aP (fun _ hk => hk.elim) ?aF ?aO ?aB ?aS ?aL ?_; (case aP => exact rfl); (case aB => exact (by repeat (first | (with_reducible first | exact HB.out | apply below_alloc | apply pw_below_drewN | apply below_drew1) | exact HB.out))); (case aF => exact (fun _ _ => trivial)); (case aO => exact (by (with_reducible repeat (first | apply Kd.R_alloc | apply Kd.R_drewN | apply Kd.R_drew)); exact HO_5.out)); (case aS => exact (below_size (by repeat (first | (with_reducible first | exact HB.out | apply below_alloc | apply pw_below_drewN | apply below_drew1) | exact HB.out)))); (case aL => have := LMc19.out; omega); intro v187 w20 ho hb hg hat; rw [← Ny186.out] at ho; have n0_ := Aside0.mk (Kd.R_over' (by (with_reducible repeat (first | apply Kd.R_alloc | apply Kd.R_drewN | apply Kd.R_drew)); exact HO_26.out) (Kd.R_typed (by (with_reducible repeat (first | apply Kd.R_alloc | apply Kd.R_drewN | apply Kd.R_drew)); exact HO_5.out)) (by decide) hg); have n1_ := Aside0.mk (hb); have n2_ := Aside0.mk (ho); clear HO_26; clear HB; clear HO_5; have HO_26 := n0_; have HB := n1_; have HO188 := n2_; clear n0_ n1_ n2_; clear ho hb hg hat))
                          go_roundg k1
                          case measure => have := HK1.out; omega
                          case rel => exact ⟨(y186), (wrap64 (x28_1 + 1)), (by first | rfl | (simp; done) | (simp [*]; done)), H', ⟨by have := HK1.out; omega⟩, ⟨by (with_reducible repeat (first | apply Kd.R_alloc | apply Kd.R_drewN | apply Kd.R_drew)); exact HO188.out⟩, ⟨by (with_reducible repeat (first | apply Kd.R_alloc | apply Kd.R_drewN | apply Kd.R_drew)); exact HO_26.out⟩, ⟨by repeat (first | (with_reducible first | exact HB.out | apply below_alloc | apply pw_below_drewN | apply below_drew1) | exact HB.out)⟩⟩
                        · rw [if_neg c19] at H
                          exact absurd H (by simp)
                      · rw [if_neg c18] at H
                        exact absurd H (by simp)
                    · rw [if_neg c17] at H
                      exact absurd H (by simp)
              · rw [if_neg c14] at H
                exact absurd H (by simp)
            · rw [if_neg c13] at H
              exact absurd H (by simp)
          · rw [if_neg c12] at H
            have c12b0 : decide (x28_1 < (t181.length : Int)) = false := decide_eq_false c12
            clear c12
            replace H := Option.bind_eq_some_iff.mp H
            obtain ⟨t189, A210, H⟩ := H
            replace H : (if (t189.size : Int) > t179 then (some false) else (signalboxlaw09_ArbShown.l1 k1 l0 t179 t180 x5_1 t189 x5_1 (x5_1.length : Int) 0)) = some r := H
            have A21 := Aside0.mk A210
            clear A210
            by_cases c22 : (t189.size : Int) > t179
            · rw [if_pos c22] at H
              have c22b0 : decide (t179 < (t189.size : Int)) = true := decide_eq_true c22
              clear c22
              obtain rfl := Option.some.inj H
              obtain ⟨Ao23, co23, eo23⟩ := Kd.R_slice HO_5.out
              subst eo23
              go_wp2_with (first | ((with_reducible refine gate_callee (f := 10) rfl ?_); refine goesL_ (some 49) rfl rfl Try.func10 (by kernel_rfl) rfl #[.slice Ao23 x5_1.length co23] rfl (by (try simp only [List.map_toArray, List.map_cons, List.map_nil]); first | done | rfl | (simp only [List.length_drop, List.length_take]; rfl)) ?_; (with_reducible refine (arb_Level.calls k1 _ _ x5_1 t189 _ ?side1 ?side2 A21.out).mono ?_); (case side1 => repeat (first | exact (Kd.R_reads' HO_5.out).2.2 | (with_reducible refine Kd.C_alloc ?_ _) | (with_reducible refine Kd.C_drewN ?_ _) | (with_reducible refine Kd.C_drew ?_))); (case side2 => exact (Kd.R_reads' HO_5.out).2.1); rintro e w24 ⟨rfl, hb⟩; refine ⟨_, rfl, ?_⟩; have n0_ := Aside0.mk (Kd.R_below (by (with_reducible repeat (first | apply Kd.R_alloc | apply Kd.R_drewN | apply Kd.R_drew)); exact HO_5.out) hb); have n1_ := Aside0.mk (Kd.R_below (by (with_reducible repeat (first | apply Kd.R_alloc | apply Kd.R_drewN | apply Kd.R_drew)); exact HO_26.out) hb); have n2_ := Aside0.mk (below_step (by repeat (first | (with_reducible first | exact HB.out | apply below_alloc | apply pw_below_drewN | apply below_drew1) | exact HB.out)) hb); clear HO_5; clear HO_26; clear HB; have HO_5 := n0_; have HO_26 := n1_; have HB := n2_; clear n0_ n1_ n2_; (try clear hb); (try clear hb2); (try clear hk); (try clear hi)))
              go_ret
              exact ⟨by first | rfl | (simp [errW_none, errW_some] <;> rfl) | (simp [*, errW_none, errW_some] <;> rfl), by repeat (first | (with_reducible first | exact HB.out | apply below_alloc | apply pw_below_drewN | apply below_drew1) | exact HB.out)⟩
            · rw [if_neg c22] at H
              have c22b0 : decide (t179 < (t189.size : Int)) = false := decide_eq_false c22
              clear c22
              have H' := Aside0.mk H
              clear H
              obtain ⟨Ao25, co25, eo25⟩ := Kd.R_slice HO_5.out
              subst eo25
              go_wp2_with (first | ((with_reducible refine gate_callee (f := 10) rfl ?_); refine goesL_ (some 49) rfl rfl Try.func10 (by kernel_rfl) rfl #[.slice Ao25 x5_1.length co25] rfl (by (try simp only [List.map_toArray, List.map_cons, List.map_nil]); first | done | rfl | (simp only [List.length_drop, List.length_take]; rfl)) ?_; (with_reducible refine (arb_Level.calls k1 _ _ x5_1 t189 _ ?side1 ?side2 A21.out).mono ?_); (case side1 => repeat (first | exact (Kd.R_reads' HO_5.out).2.2 | (with_reducible refine Kd.C_alloc ?_ _) | (with_reducible refine Kd.C_drewN ?_ _) | (with_reducible refine Kd.C_drew ?_))); (case side2 => exact (Kd.R_reads' HO_5.out).2.1); rintro e w26 ⟨rfl, hb⟩; refine ⟨_, rfl, ?_⟩; have n0_ := Aside0.mk (Kd.R_below (by (with_reducible repeat (first | apply Kd.R_alloc | apply Kd.R_drewN | apply Kd.R_drew)); exact HO_5.out) hb); have n1_ := Aside0.mk (Kd.R_below (by (with_reducible repeat (first | apply Kd.R_alloc | apply Kd.R_drewN | apply Kd.R_drew)); exact HO_26.out) hb); have n2_ := Aside0.mk (below_step (by repeat (first | (with_reducible first | exact HB.out | apply below_alloc | apply pw_below_drewN | apply below_drew1) | exact HB.out)) hb); clear HO_5; clear HO_26; clear HB; have HO_5 := n0_; have HO_26 := n1_; have HB := n2_; clear n0_ n1_ n2_; (try clear hb); (try clear hb2); (try clear hk); (try clear hi)))
              go_loopg [56] k1 (fun kq v56 w' => ∃ (x56_2 : Int), v56 = .int .i64 x56_2 ∧ Aside0 (signalboxlaw09_ArbShown.l1 kq l0 t179 t180 x5_1 t189 x5_1 (x5_1.length : Int) x56_2 = some r) ∧ Aside0 (kq ≤ k1) ∧ Aside0 (Kd.R Kd.string 9 w' w.heap.size (fun _ => True) (.slice Ao25 x5_1.length co25) x5_1) ∧ Aside0 (Kd.R Kd.string 9 w' w.heap.size (fun _ => True) (.slice Ao25 x5_1.length co25) x5_1) ∧ Aside0 (Below w.heap.size w w'))
              case atStart => exact ⟨(0), (by first | rfl | (simp; done) | (simp [*]; done)), H', ⟨Nat.le_refl _⟩, ⟨by (with_reducible repeat (first | apply Kd.R_alloc | apply Kd.R_drewN | apply Kd.R_drew)); exact HO_5.out⟩, ⟨by (with_reducible repeat (first | apply Kd.R_alloc | apply Kd.R_drewN | apply Kd.R_drew)); exact HO_5.out⟩, ⟨by repeat (first | (with_reducible first | exact HB.out | apply below_alloc | apply pw_below_drewN | apply below_drew1) | exact HB.out)⟩⟩
              case round =>
                clear H'
                try clear c1
                try clear p1
                try clear q1
                try clear hx1
                try clear c2
                try clear p2
                try clear c3
                try clear c6
                try clear c6b0
                try clear c6b1
                try clear p6
                try clear c8
                try clear c10
                try clear c12
                try clear c12b0
                try clear c13
                try clear c13b0
                try clear c14
                try clear c14b0
                try clear c15
                try clear c15b0
                try clear c16
                try clear c16b0
                try clear c17
                try clear c17b0
                try clear c18
                try clear c18b0
                try clear p18
                try clear q18
                try clear hx18
                try clear c19
                try clear c21
                try clear c22
                try clear c22b0
                try clear hx184_0
                try clear hx185_0
                try clear p184
                try clear p185
                try clear p2
                try clear q184
                try clear q185
                obtain ⟨x56_2, rfl, HA, HK2, HO_5, HO_54, HB⟩ := hrel
                cases gk with
                | zero => exact absurd HA.out (by simp [signalboxlaw09_ArbShown.l1])
                | succ k2 =>
                  have H := HA.out
                  clear HA
                  simp only [signalboxlaw09_ArbShown.l1] at H
                  by_cases c27 : x56_2 < (x5_1.length : Int)
                  · rw [if_pos c27] at H
                    have c27b0 : decide (x56_2 < (x5_1.length : Int)) = true := decide_eq_true c27
                    clear c27
                    by_cases c28 : 0 ≤ x56_2
                    · rw [if_pos c28] at H
                      have c28b0 : decide (0 ≤ x56_2) = true := decide_eq_true c28
                      clear c28
                      by_cases c29 : x56_2 < (x5_1.length : Int)
                      · rw [if_pos c29] at H
                        have c29b0 : decide (x56_2 < (x5_1.length : Int)) = true := decide_eq_true c29
                        clear c29
                        replace H := Option.bind_eq_some_iff.mp H
                        obtain ⟨t192, A300, H⟩ := H
                        replace H : (if 0 ≤ (t189.size : Int) then (if (t189.size : Int) ≤ (t192.size : Int) then (if (t192.extract 0 ((t189.size : Int) : Int).toNat).toList = t189.toList then ((signalboxref09_Whole.f k2 t189 t179).bind fun t193 => (signalboxlaw09_ArbShown.j2 k2 l0 t179 t180 x5_1 t189 t192 x5_1 (x5_1.length : Int) x56_2 (t192.toList != t193.toList))) else (signalboxlaw09_ArbShown.j2 k2 l0 t179 t180 x5_1 t189 t192 x5_1 (x5_1.length : Int) x56_2 true)) else (none)) else (none)) = some r := H
                        have A30 := Aside0.mk A300
                        clear A300
                        have HC31 := Aside0.mk H
                        clear H
                        have p191 : 0 ≤ (x56_2 : Int) := of_decide_eq_true (by first | (with_reducible assumption) | assumption)
                        have q191 : x56_2 < (x5_1.length : Int) := of_decide_eq_true (by first | (with_reducible assumption) | assumption)
                        obtain ⟨ad191, e191, hx191_0⟩ := Kd.at_string (Kd.R_reads' HO_54.out).2.2 x56_2 p191 q191
                        cases e191
                        replace p191 := eq_true p191
                        replace q191 := eq_true q191
                        go_upto_region 22 with (first | ((with_reducible refine gate_callee (f := 22) rfl ?_); refine goesL_ (some 62) rfl rfl Try.func22 (by kernel_rfl) rfl #[.string (rdOf ByteArray.empty x5_1 x56_2), .int .i64 t179] rfl (by (try simp only [List.map_toArray, List.map_cons, List.map_nil]); first | done | rfl | (simp only [List.length_drop, List.length_take]; rfl)) ?_; (with_reducible refine (signalboxref09_Whole.calls k2 (rdOf ByteArray.empty x5_1 x56_2) t179 t192 _ A30.out).mono ?_); rintro e w' ⟨rfl, ⟨nd, rfl⟩⟩; refine ⟨_, rfl, ?_⟩))
                        (try simp only [Act.put, List.setIfInBounds_toArray, List.set_cons_zero, List.set_cons_succ])
                        go_cut [75] (fun v75 wc => ∃ (kq : Nat) (x75_30 : Bool), v75 = .bool x75_30 ∧ Aside0 (signalboxlaw09_ArbShown.j2 kq l0 t179 t180 x5_1 t189 t192 x5_1 (x5_1.length : Int) x56_2 x75_30 = some r) ∧ Aside0 (kq ≤ k2) ∧ Aside0 (Kd.R Kd.string 9 wc w.heap.size (fun _ => True) (.slice (some ad191) x5_1.length co25) x5_1) ∧ Aside0 (Kd.R Kd.string 9 wc w.heap.size (fun _ => True) (.slice (some ad191) x5_1.length co25) x5_1) ∧ Aside0 (Below w.heap.size w wc))
                        case first =>
                          have H := HC31.out
                          clear HC31
                          by_cases c32 : 0 ≤ (t189.size : Int)
                          · rw [if_pos c32] at H
                            have c32b0 := eq_true c32
                            have c32b1 : decide (0 ≤ (t189.size : Int)) = true := decide_eq_true c32
                            clear c32
                            by_cases c33 : (t189.size : Int) ≤ (t192.size : Int)
                            · rw [if_pos c33] at H
                              have c33b0 := eq_true c33
                              have c33b1 : decide ((t189.size : Int) ≤ (t192.size : Int)) = true := decide_eq_true c33
                              clear c33
                              by_cases c34 : (t192.extract 0 ((t189.size : Int) : Int).toNat).toList = t189.toList
                              · rw [if_pos c34] at H
                                have c34b0 : ((t192.extract 0 ((t189.size : Int) : Int).toNat).toList == t189.toList) = true := beq_iff_eq.mpr c34
                                try (have c34b0n := c34b0; simp only [Int.toNat_natCast] at c34b0n)
                                have c34b1 : ((t192.extract 0 ((t189.size : Int) : Int).toNat).toList != t189.toList) = false := bne_eq_false_iff_eq.mpr c34
                                try (have c34b1n := c34b1; simp only [Int.toNat_natCast] at c34b1n)
                                clear c34
                                (first | rw [c34b0] | (simp only [i64_w, i32_w]; rw [c34b0]) | skip)
                                replace H := Option.bind_eq_some_iff.mp H
                                obtain ⟨t193, A350, H⟩ := H
                                replace H : (signalboxlaw09_ArbShown.j2 k2 l0 t179 t180 x5_1 t189 t192 x5_1 (x5_1.length : Int) x56_2 (t192.toList != t193.toList)) = some r := H
                                have A35 := Aside0.mk A350
                                clear A350
                                have H' := Aside0.mk H
                                clear H
                                go_wp2_with (first | (go_at_call 22; (with_reducible refine (signalboxref09_Whole.calls k2 t189 t179 t193 _ A35.out).mono ?_); rintro e w' ⟨rfl, ⟨nd, rfl⟩⟩))
                                go_meet
                                case rel => exact ⟨_, ((t192.toList != t193.toList)), (by first | rfl | (simp; done) | (simp [*]; done)), H', ⟨by have := HK1.out; have := HK2.out; first | omega | exact Nat.le_refl _⟩, ⟨by (with_reducible repeat (first | apply Kd.R_alloc | apply Kd.R_drewN | apply Kd.R_drew)); exact HO_5.out⟩, ⟨by (with_reducible repeat (first | apply Kd.R_alloc | apply Kd.R_drewN | apply Kd.R_drew)); exact HO_54.out⟩, ⟨by repeat (first | (with_reducible first | exact HB.out | apply below_alloc | apply pw_below_drewN | apply below_drew1) | exact HB.out)⟩⟩
                              · rw [if_neg c34] at H
                                have c34b0 : ((t192.extract 0 ((t189.size : Int) : Int).toNat).toList == t189.toList) = false := beq_eq_false_iff_ne.mpr c34
                                try (have c34b0n := c34b0; simp only [Int.toNat_natCast] at c34b0n)
                                have c34b1 : ((t192.extract 0 ((t189.size : Int) : Int).toNat).toList != t189.toList) = true := bne_iff_ne.mpr c34
                                try (have c34b1n := c34b1; simp only [Int.toNat_natCast] at c34b1n)
                                (first | rw [c34b0] | (simp only [i64_w, i32_w]; rw [c34b0]) | skip)
                                have H' := Aside0.mk H
                                clear H
                                go_wp2
                                go_meet
                                case rel => exact ⟨_, (true), (by first | rfl | (simp; done) | (simp [*]; done)), H', ⟨by have := HK1.out; have := HK2.out; first | omega | exact Nat.le_refl _⟩, ⟨by (with_reducible repeat (first | apply Kd.R_alloc | apply Kd.R_drewN | apply Kd.R_drew)); exact HO_5.out⟩, ⟨by (with_reducible repeat (first | apply Kd.R_alloc | apply Kd.R_drewN | apply Kd.R_drew)); exact HO_54.out⟩, ⟨by repeat (first | (with_reducible first | exact HB.out | apply below_alloc | apply pw_below_drewN | apply below_drew1) | exact HB.out)⟩⟩
                            · rw [if_neg c33] at H
                              exact absurd H (by simp)
                          · rw [if_neg c32] at H
                            exact absurd H (by simp)
                        case rest =>
                          clear HC31
                          try clear c1
                          try clear p1
                          try clear q1
                          try clear hx1
                          try clear c2
                          try clear p2
                          try clear c3
                          try clear c6
                          try clear c6b0
                          try clear c6b1
                          try clear p6
                          try clear c8
                          try clear c10
                          try clear c12
                          try clear c12b0
                          try clear c13
                          try clear c13b0
                          try clear c14
                          try clear c14b0
                          try clear c15
                          try clear c15b0
                          try clear c16
                          try clear c16b0
                          try clear c17
                          try clear c17b0
                          try clear c18
                          try clear c18b0
                          try clear p18
                          try clear q18
                          try clear hx18
                          try clear c19
                          try clear p19
                          try clear q19
                          try clear hx19
                          try clear c21
                          try clear c22
                          try clear c22b0
                          try clear c27
                          try clear c27b0
                          try clear c28
                          try clear c28b0
                          try clear c29
                          try clear c29b0
                          try clear c32
                          try clear c32b0
                          try clear c32b1
                          try clear c33
                          try clear c33b0
                          try clear c33b1
                          try clear c34
                          try clear c34b0
                          try clear c34b1
                          try clear hx184_0
                          try clear hx185_0
                          try clear hx191_0
                          try clear p1
                          try clear p18
                          try clear p184
                          try clear p185
                          try clear p191
                          try clear p2
                          try clear p6
                          try clear q1
                          try clear q18
                          try clear q184
                          try clear q185
                          try clear q191
                          try clear HA
                          try clear HJ30
                          try clear HO_5
                          try clear HO_54
                          try clear HB
                          obtain ⟨kq, x75_30, rfl, HA, HJ30, HO_5, HO_54, HB⟩ := hcut
                          cases kq with
                          | zero => exact absurd HA.out (by simp [signalboxlaw09_ArbShown.j2])
                          | succ kj30 =>
                            have H := HA.out
                            clear HA
                            simp only [signalboxlaw09_ArbShown.j2] at H
                            by_cases c36 : x75_30 = true
                            · subst c36
                              have H1 : (some false) = some r := by rw [if_pos rfl] at H; exact H
                              clear H
                              have H := H1
                              clear H1
                              obtain rfl := Option.some.inj H
                              go_wp2
                              go_ret
                              exact ⟨by first | rfl | (simp [errW_none, errW_some] <;> rfl) | (simp [*, errW_none, errW_some] <;> rfl), by repeat (first | (with_reducible first | exact HB.out | apply below_alloc | apply pw_below_drewN | apply below_drew1) | exact HB.out)⟩
                            · replace c36 := Bool.eq_false_iff.mpr c36
                              subst c36
                              have H1 : (signalboxlaw09_ArbShown.l2 kj30 l0 t179 t180 x5_1 t189 t192 x5_1 (x5_1.length : Int) x56_2 t179 0) = some r := by rw [if_neg (show ¬ (false = true) by decide)] at H; exact H
                              clear H
                              have H := H1
                              clear H1
                              have H' := Aside0.mk H
                              clear H
                              go_wp2
                              go_loopg [77] kj30 (fun kq v77 w' => ∃ (x77_4 : Int), v77 = .int .i64 x77_4 ∧ Aside0 (signalboxlaw09_ArbShown.l2 kq l0 t179 t180 x5_1 t189 t192 x5_1 (x5_1.length : Int) x56_2 t179 x77_4 = some r) ∧ Aside0 (kq ≤ kj30) ∧ Aside0 (Kd.R Kd.string 9 w' w.heap.size (fun _ => True) (.slice (some ad191) x5_1.length co25) x5_1) ∧ Aside0 (Kd.R Kd.string 9 w' w.heap.size (fun _ => True) (.slice (some ad191) x5_1.length co25) x5_1) ∧ Aside0 (Below w.heap.size w w'))
                              case atStart => exact ⟨(0), (by first | rfl | (simp; done) | (simp [*]; done)), H', ⟨Nat.le_refl _⟩, ⟨by (with_reducible repeat (first | apply Kd.R_alloc | apply Kd.R_drewN | apply Kd.R_drew)); exact HO_5.out⟩, ⟨by (with_reducible repeat (first | apply Kd.R_alloc | apply Kd.R_drewN | apply Kd.R_drew)); exact HO_54.out⟩, ⟨by repeat (first | (with_reducible first | exact HB.out | apply below_alloc | apply pw_below_drewN | apply below_drew1) | exact HB.out)⟩⟩
                              case round =>
                                clear H'
                                try clear c1
                                try clear p1
                                try clear q1
                                try clear hx1
                                try clear c2
                                try clear p2
                                try clear c3
                                try clear c6
                                try clear c6b0
                                try clear c6b1
                                try clear p6
                                try clear c8
                                try clear c10
                                try clear c12
                                try clear c12b0
                                try clear c13
                                try clear c13b0
                                try clear c14
                                try clear c14b0
                                try clear c15
                                try clear c15b0
                                try clear c16
                                try clear c16b0
                                try clear c17
                                try clear c17b0
                                try clear c18
                                try clear c18b0
                                try clear p18
                                try clear q18
                                try clear hx18
                                try clear c19
                                try clear p19
                                try clear q19
                                try clear hx19
                                try clear c21
                                try clear c22
                                try clear c22b0
                                try clear c27
                                try clear c27b0
                                try clear c28
                                try clear c28b0
                                try clear c29
                                try clear c29b0
                                try clear c32
                                try clear c32b0
                                try clear c32b1
                                try clear c33
                                try clear c33b0
                                try clear c33b1
                                try clear c34
                                try clear c34b0
                                try clear c34b1
                                try clear c36
                                try clear hx184_0
                                try clear hx185_0
                                try clear hx191_0
                                try clear p1
                                try clear p18
                                try clear p184
                                try clear p185
                                try clear p19
                                try clear p191
                                try clear p2
                                try clear p6
                                try clear q1
                                try clear q18
                                try clear q184
                                try clear q185
                                try clear q19
                                try clear q191
                                obtain ⟨x77_4, rfl, HA, HK4, HO_5, HO_54, HB⟩ := hrel
                                cases gk with
                                | zero => exact absurd HA.out (by simp [signalboxlaw09_ArbShown.l2])
                                | succ k4 =>
                                  have H := HA.out
                                  clear HA
                                  simp only [signalboxlaw09_ArbShown.l2] at H
                                  by_cases c37 : x77_4 < t179
                                  · rw [if_pos c37] at H
                                    have c37b0 : decide (x77_4 < t179) = true := decide_eq_true c37
                                    clear c37
                                    by_cases c38 : 0 ≤ x77_4
                                    · rw [if_pos c38] at H
                                      have c38b0 : decide (0 ≤ x77_4) = true := decide_eq_true c38
                                      clear c38
                                      by_cases c39 : x77_4 < (t192.size : Int)
                                      · rw [if_pos c39] at H
                                        have c39b0 : decide (x77_4 < (t192.size : Int)) = true := decide_eq_true c39
                                        clear c39
                                        by_cases c41 : (bt t192 x77_4) = 48
                                        · rw [if_pos c41] at H
                                          have c41b0 : ((bt t192 x77_4) == 48) = true := beq_iff_eq.mpr c41
                                          have c41b1 : ((bt t192 x77_4) != 48) = false := bne_eq_false_iff_eq.mpr c41
                                          clear c41
                                          by_cases c42 : x77_4 < (t180.size : Int)
                                          · rw [if_pos c42] at H
                                            have c42b0 : decide (x77_4 < (t180.size : Int)) = true := decide_eq_true c42
                                            clear c42
                                            by_cases c44 : (bt t180 x77_4) = 48
                                            · rw [if_pos c44] at H
                                              have c44b0 : ((bt t180 x77_4) == 48) = true := beq_iff_eq.mpr c44
                                              have c44b1 : ((bt t180 x77_4) != 48) = false := bne_eq_false_iff_eq.mpr c44
                                              clear c44
                                              have H' := Aside0.mk H
                                              clear H
                                              have p40 : 0 ≤ (x77_4 : Int) := of_decide_eq_true (by first | (with_reducible assumption) | assumption)
                                              have q40 : x77_4 < (t192.size : Int) := of_decide_eq_true (by first | (with_reducible assumption) | assumption)
                                              have hx40 := bt_at t192 x77_4
                                              replace p40 := eq_true p40
                                              replace q40 := eq_true q40
                                              have p43 : 0 ≤ (x77_4 : Int) := of_decide_eq_true (by first | (with_reducible assumption) | assumption)
                                              have q43 : x77_4 < (t180.size : Int) := of_decide_eq_true (by first | (with_reducible assumption) | assumption)
                                              have hx43 := bt_at t180 x77_4
                                              replace p43 := eq_true p43
                                              replace q43 := eq_true q43
                                              go_wp2
                                              go_roundg k4
                                              case measure => have := HK1.out; have := HK2.out; have := HJ30.out; have := HK4.out; omega
                                              case rel => exact ⟨(wrap64 (x77_4 + 1)), (by first | rfl | (simp; done) | (simp [*]; done)), H', ⟨by have := HK1.out; have := HK2.out; have := HJ30.out; have := HK4.out; omega⟩, ⟨by (with_reducible repeat (first | apply Kd.R_alloc | apply Kd.R_drewN | apply Kd.R_drew)); exact HO_5.out⟩, ⟨by (with_reducible repeat (first | apply Kd.R_alloc | apply Kd.R_drewN | apply Kd.R_drew)); exact HO_54.out⟩, ⟨by repeat (first | (with_reducible first | exact HB.out | apply below_alloc | apply pw_below_drewN | apply below_drew1) | exact HB.out)⟩⟩
                                            · rw [if_neg c44] at H
                                              have c44b0 : ((bt t180 x77_4) == 48) = false := beq_eq_false_iff_ne.mpr c44
                                              have c44b1 : ((bt t180 x77_4) != 48) = true := bne_iff_ne.mpr c44
                                              obtain rfl := Option.some.inj H
                                              have p40 : 0 ≤ (x77_4 : Int) := of_decide_eq_true (by first | (with_reducible assumption) | assumption)
                                              have q40 : x77_4 < (t192.size : Int) := of_decide_eq_true (by first | (with_reducible assumption) | assumption)
                                              have hx40 := bt_at t192 x77_4
                                              replace p40 := eq_true p40
                                              replace q40 := eq_true q40
                                              have p43 : 0 ≤ (x77_4 : Int) := of_decide_eq_true (by first | (with_reducible assumption) | assumption)
                                              have q43 : x77_4 < (t180.size : Int) := of_decide_eq_true (by first | (with_reducible assumption) | assumption)
                                              have hx43 := bt_at t180 x77_4
                                              replace p43 := eq_true p43
                                              replace q43 := eq_true q43
                                              go_wp2
                                              go_ret
                                              exact ⟨by first | rfl | (simp [errW_none, errW_some] <;> rfl) | (simp [*, errW_none, errW_some] <;> rfl), by repeat (first | (with_reducible first | exact HB.out | apply below_alloc | apply pw_below_drewN | apply below_drew1) | exact HB.out)⟩
                                          · rw [if_neg c42] at H
                                            exact absurd H (by simp)
                                        · rw [if_neg c41] at H
                                          have c41b0 : ((bt t192 x77_4) == 48) = false := beq_eq_false_iff_ne.mpr c41
                                          have c41b1 : ((bt t192 x77_4) != 48) = true := bne_iff_ne.mpr c41
                                          have H' := Aside0.mk H
                                          clear H
                                          have p40 : 0 ≤ (x77_4 : Int) := of_decide_eq_true (by first | (with_reducible assumption) | assumption)
                                          have q40 : x77_4 < (t192.size : Int) := of_decide_eq_true (by first | (with_reducible assumption) | assumption)
                                          have hx40 := bt_at t192 x77_4
                                          replace p40 := eq_true p40
                                          replace q40 := eq_true q40
                                          go_wp2
                                          go_roundg k4
                                          case measure => have := HK1.out; have := HK2.out; have := HJ30.out; have := HK4.out; omega
                                          case rel => exact ⟨(wrap64 (x77_4 + 1)), (by first | rfl | (simp; done) | (simp [*]; done)), H', ⟨by have := HK1.out; have := HK2.out; have := HJ30.out; have := HK4.out; omega⟩, ⟨by (with_reducible repeat (first | apply Kd.R_alloc | apply Kd.R_drewN | apply Kd.R_drew)); exact HO_5.out⟩, ⟨by (with_reducible repeat (first | apply Kd.R_alloc | apply Kd.R_drewN | apply Kd.R_drew)); exact HO_54.out⟩, ⟨by repeat (first | (with_reducible first | exact HB.out | apply below_alloc | apply pw_below_drewN | apply below_drew1) | exact HB.out)⟩⟩
                                      · rw [if_neg c39] at H
                                        exact absurd H (by simp)
                                    · rw [if_neg c38] at H
                                      exact absurd H (by simp)
                                  · rw [if_neg c37] at H
                                    have c37b0 : decide (x77_4 < t179) = false := decide_eq_false c37
                                    clear c37
                                    have H' := Aside0.mk H
                                    clear H
                                    go_wp2
                                    go_roundg k4
                                    case measure => have := HK1.out; have := HK2.out; have := HJ30.out; have := HK4.out; omega
                                    case rel => exact ⟨(wrap64 (x56_2 + 1)), (by first | rfl | (simp; done) | (simp [*]; done)), H', ⟨by have := HK1.out; have := HK2.out; have := HJ30.out; have := HK4.out; omega⟩, ⟨by (with_reducible repeat (first | apply Kd.R_alloc | apply Kd.R_drewN | apply Kd.R_drew)); exact HO_5.out⟩, ⟨by (with_reducible repeat (first | apply Kd.R_alloc | apply Kd.R_drewN | apply Kd.R_drew)); exact HO_54.out⟩, ⟨by repeat (first | (with_reducible first | exact HB.out | apply below_alloc | apply pw_below_drewN | apply below_drew1) | exact HB.out)⟩⟩
                      · rw [if_neg c29] at H
                        exact absurd H (by simp)
                    · rw [if_neg c28] at H
                      exact absurd H (by simp)
                  · rw [if_neg c27] at H
                    have c27b0 : decide (x56_2 < (x5_1.length : Int)) = false := decide_eq_false c27
                    clear c27
                    by_cases c45 : (((l0.length : Int) == 0) == ((x5_1.length : Int) == 0)) = true
                    · rw [if_pos c45] at H
                      have c45b0 : (((l0.length : Int) == 0) == ((x5_1.length : Int) == 0)) = true := c45
                      (try (have c45b1 : decide (((l0.length : Int) == 0) = ((x5_1.length : Int) == 0)) = true := by simpa using c45))
                      (try (have c45b2 : (((l0.length : Int) == 0) == ((x5_1.length : Int) == 0)) = true := by simpa using c45))
                      clear c45
                      replace H := Option.bind_eq_some_iff.mp H
                      obtain ⟨t190, A460, H⟩ := H
                      replace H : (some t190) = some r := H
                      have A46 := Aside0.mk A460
                      clear A460
                      obtain rfl := Option.some.inj H
                      go_wp2_with (first | (go_at_call 9; (with_reducible refine (signalboxlaw09_alive.calls k2  t190 _ A46.out).mono ?_); rintro e w47 ⟨rfl, hb⟩; have n0_ := Aside0.mk (Kd.R_below (by (with_reducible repeat (first | apply Kd.R_alloc | apply Kd.R_drewN | apply Kd.R_drew)); exact HO_5.out) hb); have n1_ := Aside0.mk (Kd.R_below (by (with_reducible repeat (first | apply Kd.R_alloc | apply Kd.R_drewN | apply Kd.R_drew)); exact HO_54.out) hb); have n2_ := Aside0.mk (below_step (by repeat (first | (with_reducible first | exact HB.out | apply below_alloc | apply pw_below_drewN | apply below_drew1) | exact HB.out)) hb); clear HO_5; clear HO_54; clear HB; have HO_5 := n0_; have HO_54 := n1_; have HB := n2_; clear n0_ n1_ n2_; (try clear hb); (try clear hb2); (try clear hk); (try clear hi)))
                      go_ret
                      exact ⟨by first | rfl | (simp [errW_none, errW_some] <;> rfl) | (simp [*, errW_none, errW_some] <;> rfl), by repeat (first | (with_reducible first | exact HB.out | apply below_alloc | apply pw_below_drewN | apply below_drew1) | exact HB.out)⟩
                    · rw [if_neg c45] at H
                      have c45b0 : (((l0.length : Int) == 0) == ((x5_1.length : Int) == 0)) = false := by simpa using c45
                      (try (have c45b1 : decide (((l0.length : Int) == 0) = ((x5_1.length : Int) == 0)) = false := by simpa using c45))
                      (try (have c45b2 : (((l0.length : Int) == 0) == ((x5_1.length : Int) == 0)) = false := by simpa using c45))
                      (try (have c45b3 : ¬ (((l0.length : Int) == 0) = ((x5_1.length : Int) == 0)) := by simpa using c45))
                      clear c45
                      obtain rfl := Option.some.inj H
                      go_wp2
                      go_ret
                      exact ⟨by first | rfl | (simp [errW_none, errW_some] <;> rfl) | (simp [*, errW_none, errW_some] <;> rfl), by repeat (first | (with_reducible first | exact HB.out | apply below_alloc | apply pw_below_drewN | apply below_drew1) | exact HB.out)⟩
    · rw [if_neg c6] at H
      have c6b0 : ((t180.size : Int) == t179) = false := beq_eq_false_iff_ne.mpr c6
      have c6b1 : ((t180.size : Int) != t179) = true := bne_iff_ne.mpr c6
      obtain rfl := Option.some.inj H
      go_enter Try.func6, Try.ntmps6
      go_wp2_with (first | ((with_reducible refine gate_callee (f := 8) rfl ?_); refine goesL_ (some 14) rfl rfl Try.func8 (by kernel_rfl) rfl #[.slice A0 l0.length c0] rfl (by (try simp only [List.map_toArray, List.map_cons, List.map_nil]); first | done | rfl | (simp only [List.length_drop, List.length_take]; rfl)) ?_; (with_reducible refine (signalboxref09_Few.calls k _ _ l0 true _ ?side1 ?side2 A2.out).mono ?_); (case side1 => repeat (first | exact HR0.out | (with_reducible refine Kd.C_alloc ?_ _) | (with_reducible refine Kd.C_drewN ?_ _) | (with_reducible refine Kd.C_drew ?_))); (case side2 => exact HC0.out); rintro e w48 ⟨rfl, hb⟩; refine ⟨_, rfl, ?_⟩; have n0_ := Aside0.mk (below_step (by repeat (first | (with_reducible first | exact HB.out | apply below_alloc | apply pw_below_drewN | apply below_drew1) | exact HB.out)) hb); clear HB; have HB := n0_; clear n0_; (try clear hb); (try clear hb2); (try clear hk); (try clear hi)) | ((with_reducible refine gate_callee (f := 21) rfl ?_); refine goesL_ (some 18) rfl rfl Try.func21 (by kernel_rfl) rfl #[.slice A0 l0.length c0] rfl (by (try simp only [List.map_toArray, List.map_cons, List.map_nil]); first | done | rfl | (simp only [List.length_drop, List.length_take]; rfl)) ?_; (with_reducible refine (signalboxref09_Long.calls k _ _ l0 t179 _ ?side1 ?side2 A4.out).mono ?_); (case side1 => repeat (first | exact (Kd.C_below HR0.out HB.out) | (with_reducible refine Kd.C_alloc ?_ _) | (with_reducible refine Kd.C_drewN ?_ _) | (with_reducible refine Kd.C_drew ?_))); (case side2 => exact HC0.out); rintro e w' ⟨rfl, ⟨nd, rfl⟩⟩; refine ⟨_, rfl, ?_⟩) | ((with_reducible refine gate_callee (f := 10) rfl ?_); refine goesL_ (some 20) rfl rfl Try.func10 (by kernel_rfl) rfl #[.slice A0 l0.length c0] rfl (by (try simp only [List.map_toArray, List.map_cons, List.map_nil]); first | done | rfl | (simp only [List.length_drop, List.length_take]; rfl)) ?_; (with_reducible refine (arb_Level.calls k _ _ l0 t180 _ ?side1 ?side2 A5.out).mono ?_); (case side1 => repeat (first | exact (Kd.C_below HR0.out (by repeat (first | (with_reducible first | exact HB.out | apply below_alloc | apply pw_below_drewN | apply below_drew1) | exact HB.out))) | (with_reducible refine Kd.C_alloc ?_ _) | (with_reducible refine Kd.C_drewN ?_ _) | (with_reducible refine Kd.C_drew ?_))); (case side2 => exact HC0.out); rintro e w49 ⟨rfl, hb⟩; refine ⟨_, rfl, ?_⟩; have n0_ := Aside0.mk (below_step (by repeat (first | (with_reducible first | exact HB.out | apply below_alloc | apply pw_below_drewN | apply below_drew1) | exact HB.out)) hb); clear HB; have HB := n0_; clear n0_; (try clear hb); (try clear hb2); (try clear hk); (try clear hi)))
      go_ret
      exact ⟨by first | rfl | (simp [errW_none, errW_some] <;> rfl) | (simp [*, errW_none, errW_some] <;> rfl), by repeat (first | (with_reducible first | exact HB.out | apply below_alloc | apply pw_below_drewN | apply below_drew1) | exact HB.out)⟩
  · replace c3 := Bool.eq_false_iff.mpr c3
    subst c3
    have H1 : ((signalboxlaw09_alive.f k).bind fun t178 => (some t178)) = some r := by rw [if_neg (show ¬ (false = true) by decide)] at H; exact H
    clear H
    have H := H1
    clear H1
    replace H := Option.bind_eq_some_iff.mp H
    obtain ⟨t178, A500, H⟩ := H
    replace H : (some t178) = some r := H
    have A50 := Aside0.mk A500
    clear A500
    obtain rfl := Option.some.inj H
    go_enter Try.func6, Try.ntmps6
    go_wp2_with (first | ((with_reducible refine gate_callee (f := 8) rfl ?_); refine goesL_ (some 14) rfl rfl Try.func8 (by kernel_rfl) rfl #[.slice A0 l0.length c0] rfl (by (try simp only [List.map_toArray, List.map_cons, List.map_nil]); first | done | rfl | (simp only [List.length_drop, List.length_take]; rfl)) ?_; (with_reducible refine (signalboxref09_Few.calls k _ _ l0 false _ ?side1 ?side2 A2.out).mono ?_); (case side1 => repeat (first | exact HR0.out | (with_reducible refine Kd.C_alloc ?_ _) | (with_reducible refine Kd.C_drewN ?_ _) | (with_reducible refine Kd.C_drew ?_))); (case side2 => exact HC0.out); rintro e w51 ⟨rfl, hb⟩; refine ⟨_, rfl, ?_⟩; have n0_ := Aside0.mk (below_step (by repeat (first | (with_reducible first | exact HB.out | apply below_alloc | apply pw_below_drewN | apply below_drew1) | exact HB.out)) hb); clear HB; have HB := n0_; clear n0_; (try clear hb); (try clear hb2); (try clear hk); (try clear hi)) | ((with_reducible refine gate_callee (f := 9) rfl ?_); refine goesL_ (some 16) rfl rfl Try.func9 (by kernel_rfl) rfl #[] rfl (by (try simp only [List.map_toArray, List.map_cons, List.map_nil]); first | done | rfl | (simp only [List.length_drop, List.length_take]; rfl)) ?_; (with_reducible refine (signalboxlaw09_alive.calls k  t178 _ A50.out).mono ?_); rintro e w52 ⟨rfl, hb⟩; refine ⟨_, rfl, ?_⟩; have n0_ := Aside0.mk (below_step (by repeat (first | (with_reducible first | exact HB.out | apply below_alloc | apply pw_below_drewN | apply below_drew1) | exact HB.out)) hb); clear HB; have HB := n0_; clear n0_; (try clear hb); (try clear hb2); (try clear hk); (try clear hi)))
    go_ret
    exact ⟨by first | rfl | (simp [errW_none, errW_some] <;> rfl) | (simp [*, errW_none, errW_some] <;> rfl), by repeat (first | (with_reducible first | exact HB.out | apply below_alloc | apply pw_below_drewN | apply below_drew1) | exact HB.out)⟩
def signalboxlaw09_ArbShown.Pure : Prop := ∀ (l0 : List ByteArray), l0.length ≤ maxLen → l0.length * 16 ≤ 140737488351232 → ((∀ x ∈ l0, (x.size ≤ 140737488351232))) → ∃ k, signalboxlaw09_ArbShown.f k l0 = some true

end Go.Proofs.Ytlhglkmiclcbcaa.PArbShown
