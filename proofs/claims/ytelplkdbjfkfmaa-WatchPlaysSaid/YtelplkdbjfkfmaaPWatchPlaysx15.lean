-- Laid by a program of the session over the kit's print. Not trusted: Lean checks it.
import Derived.Test.YtelplkdbjfkfmaaPWatchPlaysx0
import Derived.Test.YtelplkdbjfkfmaaPWatchPlaysx6
import Derived.Test.YtelplkdbjfkfmaaPWatchPlaysx7
import Derived.Test.YtelplkdbjfkfmaaPWatchPlaysx9
import Derived.Test.YtelplkdbjfkfmaaPWatchPlaysx14
namespace Go.Proofs.Ytelplkdbjfkfmaa.PWatchPlays
open Go.RowKit Go.Proofs.YtelplkdbjfkfmaaW.PrintWords Go.Proofs.YtelplkdbjfkfmaaW.PrintLast Go.Proofs.YtelplkdbjfkfmaaW.PrintMore
attribute [local go_sem] max2_int min2_int max_two min_two max_three min_three max_four min_four   -- for this text's walks alone
set_option linter.unusedVariables false
set_option linter.unusedSimpArgs false

/-! ### signalboxref23_Hear: function 25 -/
def signalboxref23_Hear.j0 : Nat → List (S65) → Int → Bool → Int → Int → Bool → ByteArray → Int → Int → Int → Int → Int → ByteArray → Option ((List (S65)))
  | 0, _, _, _, _, _, _, _, _, _, _, _, _, _ => none
  | k + 1, x1, x2, x49, x243000, x243001, x243002, x243003, x243004, x243005, x244000, x244001, x244002, x244003 => if x49 = true then ((signalboxref23_changed.f x243000 x243001 x243002 x243003 x243004 x243005 x2 x244000 x244001 x244002 x244003).bind fun bt253 => ((signalboxref23_put.f x1 bt253.1 bt253.2.1 bt253.2.2.1 bt253.2.2.2.1 bt253.2.2.2.2.1 bt253.2.2.2.2.2.1 bt253.2.2.2.2.2.2.1 bt253.2.2.2.2.2.2.2.1 bt253.2.2.2.2.2.2.2.2.1 bt253.2.2.2.2.2.2.2.2.2.1 bt253.2.2.2.2.2.2.2.2.2.2.1 bt253.2.2.2.2.2.2.2.2.2.2.2.1 bt253.2.2.2.2.2.2.2.2.2.2.2.2).bind fun t266 => (some t266))) else (some x1)
def signalboxref23_Hear.f (k : Nat) (a0_0 : Int) (a0_1 : Int) (a0_2 : Bool) (a0_3 : ByteArray) (a0_4 : Int) (a0_5 : Int) (l1 : List (S65)) (a2 : Int) (a3_0 : Int) (a3_1 : Int) (a3_2 : Int) (a3_3 : ByteArray) : Option ((List (S65))) := (signalboxref05_Match.f k a0_0 a0_1 a0_2 a3_0 a3_1 a3_2 a3_3).bind fun t244 => (if t244 = true then ((signalboxref23_Within.f a2).bind fun t245 => ((signalboxref23_last.f k l1).bind fun t246 => ((signalboxref23_put.f l1 t245 false 0 0 0 0 0 (⟨#[]⟩ : ByteArray) 0 a3_0 a3_1 a3_2 a3_3).bind fun t247 => (if t246 < 0 then (signalboxref23_Hear.j0 k t247 t245 true a0_0 a0_1 a0_2 a0_3 a0_4 a0_5 a3_0 a3_1 a3_2 a3_3) else (if 0 ≤ t246 then (if t246 < (t247.length : Int) then ((signalboxref23_Differ.f k a0_0 a0_1 a0_2 a0_3 a0_4 a0_5 ((rd_T65 t247 t246).f2.f2.f0) ((rd_T65 t247 t246).f2.f2.f1) ((rd_T65 t247 t246).f2.f2.f2) ((rd_T65 t247 t246).f2.f2.f3) a3_0 a3_1 a3_2 a3_3).bind fun t251 => (if t251 = true then (signalboxref23_Hear.j0 k t247 t245 (decide ((wrap64 (t245 - ((rd_T65 t247 t246).f0))) ≥ a0_4)) a0_0 a0_1 a0_2 a0_3 a0_4 a0_5 a3_0 a3_1 a3_2 a3_3) else (signalboxref23_Hear.j0 k t247 t245 false a0_0 a0_1 a0_2 a0_3 a0_4 a0_5 a3_0 a3_1 a3_2 a3_3))) else (none)) else (none)))))) else (some l1))
theorem signalboxref23_Hear.mono_l : ∀ k, (∀ y0 y1 y2 y3 y4 y5 y6 y7 y8 y9 y10 y11 y12, LeO (signalboxref23_Hear.j0 k y0 y1 y2 y3 y4 y5 y6 y7 y8 y9 y10 y11 y12) (signalboxref23_Hear.j0 (k + 1) y0 y1 y2 y3 y4 y5 y6 y7 y8 y9 y10 y11 y12))
  | 0 => fun _ _ _ _ _ _ _ _ _ _ _ _ _ r h => by simp [signalboxref23_Hear.j0] at h
  | k + 1 => by
    have ih0 := signalboxref23_Hear.mono_l k
    · intro y0 y1 y2 y3 y4 y5 y6 y7 y8 y9 y10 y11 y12
      unfold signalboxref23_Hear.j0
      repeat' first
      | (with_reducible exact ih0 _ _ _ _ _ _ _ _ _ _ _ _ _)
      | (with_reducible exact signalboxref05_Match.mono _ _ _ _ _ _ _ _)
      | (with_reducible exact signalboxref23_Differ.mono _ _ _ _ _ _ _ _ _ _ _ _ _ _ _)
      | (with_reducible exact signalboxref23_last.mono _ _)
      | (with_reducible exact LeO.refl _)
      | (with_reducible exact LeO.none _)
      | (with_reducible refine LeO.ite ?_ ?_)
      | (with_reducible refine LeO.bind ?_ (fun _ => ?_))
      | exact ih0 _ _ _ _ _ _ _ _ _ _ _ _ _
      | exact signalboxref05_Match.mono _ _ _ _ _ _ _ _
      | exact signalboxref23_Differ.mono _ _ _ _ _ _ _ _ _ _ _ _ _ _ _
      | exact signalboxref23_last.mono _ _
      | exact LeO.none _
      | refine LeO.ite ?_ ?_
      | refine LeO.bind ?_ (fun _ => ?_)
theorem signalboxref23_Hear.mono : ∀ a0 a1 a2 a3 a4 a5 a6 a7 a8 a9 a10 a11 k, LeO (signalboxref23_Hear.f k a0 a1 a2 a3 a4 a5 a6 a7 a8 a9 a10 a11) (signalboxref23_Hear.f (k + 1) a0 a1 a2 a3 a4 a5 a6 a7 a8 a9 a10 a11) := by
  intro a0 a1 a2 a3 a4 a5 a6 a7 a8 a9 a10 a11 k
  have ih0 := signalboxref23_Hear.mono_l k
  unfold signalboxref23_Hear.f
  repeat' first
      | (with_reducible exact ih0 _ _ _ _ _ _ _ _ _ _ _ _ _)
      | (with_reducible exact signalboxref05_Match.mono _ _ _ _ _ _ _ _)
      | (with_reducible exact signalboxref23_Differ.mono _ _ _ _ _ _ _ _ _ _ _ _ _ _ _)
      | (with_reducible exact signalboxref23_last.mono _ _)
      | (with_reducible exact LeO.refl _)
      | (with_reducible exact LeO.none _)
      | (with_reducible refine LeO.ite ?_ ?_)
      | (with_reducible refine LeO.bind ?_ (fun _ => ?_))
      | exact ih0 _ _ _ _ _ _ _ _ _ _ _ _ _
      | exact signalboxref05_Match.mono _ _ _ _ _ _ _ _
      | exact signalboxref23_Differ.mono _ _ _ _ _ _ _ _ _ _ _ _ _ _ _
      | exact signalboxref23_last.mono _ _
      | exact LeO.none _
      | refine LeO.ite ?_ ?_
      | refine LeO.bind ?_ (fun _ => ?_)
def signalboxref23_Hear.T6 : Bool × List (List Nat × List Nat) := (true, [([], []), ([0], [0]), ([1], [1]), ([2], [2]), ([2], [2]), ([2], [2]), ([4, 5, 2], [2, 4, 5]), ([6, 2], [2, 6]), ([7, 2], [2, 7]), ([8, 2], [2, 8]), ([2], [2]), ([3, 9, 10, 2, 2], [2, 3, 9, 10]), ([11, 11, 2], [2, 11]), ([12], [12]), ([12], [12]), ([12], [12]), ([14, 15, 12], [12, 14, 15]), ([16, 12], [12, 16]), ([17, 12], [12, 17]), ([13, 18, 12], [12, 13, 18]), ([12], [12]), ([20, 12], [12, 20]), ([19, 21, 12], [12, 19, 21]), ([12, 22, 2], [2, 12, 22]), ([2, 23], [2, 23])])
def signalboxref23_Hear.B6 : List Nat := [0, 1, 3, 7, 7, 7, 55, 119, 247, 503, 7, 2047, 4095, 8191, 8191, 8191, 57343, 122879, 253951, 524287, 8191, 1056767, 4194303, 8388607, 16777215]
theorem signalboxref23_Hear.tab6 : rtab .any (opsOf Try.f25 6) = signalboxref23_Hear.T6 := by kernel_rfl
theorem signalboxref23_Hear.bits6 : waitsOk signalboxref23_Hear.T6.2 signalboxref23_Hear.B6 = true := by kernel_rfl
set_option maxHeartbeats 8000000 in
set_option maxRecDepth 100000 in
theorem signalboxref23_Hear.calls (k : Nat) (a0_0 : Int) (a0_1 : Int) (a0_2 : Bool) (a0_3 : ByteArray) (a0_4 : Int) (a0_5 : Int) (P1_ : Nat → Prop) (u9000_ : Value) (l1 : List (S65)) (a2 : Int) (a3_0 : Int) (a3_1 : Int) (a3_2 : Int) (a3_3 : ByteArray) (r : List (S65)) (w0 w : World) (hB : Below w0.heap.size w0 w) (ho1 : Kd.R k65 65 w w0.heap.size P1_ u9000_ l1) (h : signalboxref23_Hear.f k a0_0 a0_1 a0_2 a0_3 a0_4 a0_5 l1 a2 a3_0 a3_1 a3_2 a3_3 = some r) :
    Calls Try.prog 25 #[.agg #[.int .u32 a0_0, .int .u32 a0_1, .bool a0_2, .string a0_3, .int .i64 a0_4, .int .i64 a0_5], u9000_, .int .i64 a2, .agg #[.int .i64 a3_0, .int .i64 a3_1, .int .i64 a3_2, .string a3_3]] w fun e w' => ∃ v0_ : Value, e = .returned (v0_) ∧ Kd.R k65 65 w' w0.heap.size (fun k_ => (P1_ k_ ∨ w.heap.size ≤ k_)) v0_ r ∧ Below w0.heap.size w0 w' ∧ Kept w w' (fun k_ => P1_ k_) := by
  have hu31 := Try.underlying31
  have hu33 := Try.underlying33
  have hu29 := Try.underlying29
  have hu65 := Try.underlying65
  have HO1 := Aside0.mk (show Kd.R k65 65 w w0.heap.size (fun k_ => (P1_ k_ ∨ w.heap.size ≤ k_)) u9000_ l1 from Kd.R_mono ho1 (fun k_ hk => (.inl hk)))
  have HK := Aside0.mk (Kept.refl w (fun k_ => P1_ k_))
  have HW0 := Aside0.mk hB.size
  have HB := Aside0.mk hB; clear hB; have H : ((signalboxref05_Match.f k a0_0 a0_1 a0_2 a3_0 a3_1 a3_2 a3_3).bind fun t244 => (if t244 = true then ((signalboxref23_Within.f a2).bind fun t245 => ((signalboxref23_last.f k l1).bind fun t246 => ((signalboxref23_put.f l1 t245 false 0 0 0 0 0 (⟨#[]⟩ : ByteArray) 0 a3_0 a3_1 a3_2 a3_3).bind fun t247 => (if t246 < 0 then (signalboxref23_Hear.j0 k t247 t245 true a0_0 a0_1 a0_2 a0_3 a0_4 a0_5 a3_0 a3_1 a3_2 a3_3) else (if 0 ≤ t246 then (if t246 < (t247.length : Int) then ((signalboxref23_Differ.f k a0_0 a0_1 a0_2 a0_3 a0_4 a0_5 ((rd_T65 t247 t246).f2.f2.f0) ((rd_T65 t247 t246).f2.f2.f1) ((rd_T65 t247 t246).f2.f2.f2) ((rd_T65 t247 t246).f2.f2.f3) a3_0 a3_1 a3_2 a3_3).bind fun t251 => (if t251 = true then (signalboxref23_Hear.j0 k t247 t245 (decide ((wrap64 (t245 - ((rd_T65 t247 t246).f0))) ≥ a0_4)) a0_0 a0_1 a0_2 a0_3 a0_4 a0_5 a3_0 a3_1 a3_2 a3_3) else (signalboxref23_Hear.j0 k t247 t245 false a0_0 a0_1 a0_2 a0_3 a0_4 a0_5 a3_0 a3_1 a3_2 a3_3))) else (none)) else (none)))))) else (some l1))) = some r := h
  clear h; replace H := Option.bind_eq_some_iff.mp H
  obtain ⟨t244, A50, H⟩ := H
  replace H : (if t244 = true then ((signalboxref23_Within.f a2).bind fun t245 => ((signalboxref23_last.f k l1).bind fun t246 => ((signalboxref23_put.f l1 t245 false 0 0 0 0 0 (⟨#[]⟩ : ByteArray) 0 a3_0 a3_1 a3_2 a3_3).bind fun t247 => (if t246 < 0 then (signalboxref23_Hear.j0 k t247 t245 true a0_0 a0_1 a0_2 a0_3 a0_4 a0_5 a3_0 a3_1 a3_2 a3_3) else (if 0 ≤ t246 then (if t246 < (t247.length : Int) then ((signalboxref23_Differ.f k a0_0 a0_1 a0_2 a0_3 a0_4 a0_5 ((rd_T65 t247 t246).f2.f2.f0) ((rd_T65 t247 t246).f2.f2.f1) ((rd_T65 t247 t246).f2.f2.f2) ((rd_T65 t247 t246).f2.f2.f3) a3_0 a3_1 a3_2 a3_3).bind fun t251 => (if t251 = true then (signalboxref23_Hear.j0 k t247 t245 (decide ((wrap64 (t245 - ((rd_T65 t247 t246).f0))) ≥ a0_4)) a0_0 a0_1 a0_2 a0_3 a0_4 a0_5 a3_0 a3_1 a3_2 a3_3) else (signalboxref23_Hear.j0 k t247 t245 false a0_0 a0_1 a0_2 a0_3 a0_4 a0_5 a3_0 a3_1 a3_2 a3_3))) else (none)) else (none)))))) else (some l1)) = some r := H
  have A5 := Aside0.mk A50; clear A50; by_cases c6 : t244 = true
  · subst c6
    have H1 : ((signalboxref23_Within.f a2).bind fun t245 => ((signalboxref23_last.f k l1).bind fun t246 => ((signalboxref23_put.f l1 t245 false 0 0 0 0 0 (⟨#[]⟩ : ByteArray) 0 a3_0 a3_1 a3_2 a3_3).bind fun t247 => (if t246 < 0 then (signalboxref23_Hear.j0 k t247 t245 true a0_0 a0_1 a0_2 a0_3 a0_4 a0_5 a3_0 a3_1 a3_2 a3_3) else (if 0 ≤ t246 then (if t246 < (t247.length : Int) then ((signalboxref23_Differ.f k a0_0 a0_1 a0_2 a0_3 a0_4 a0_5 ((rd_T65 t247 t246).f2.f2.f0) ((rd_T65 t247 t246).f2.f2.f1) ((rd_T65 t247 t246).f2.f2.f2) ((rd_T65 t247 t246).f2.f2.f3) a3_0 a3_1 a3_2 a3_3).bind fun t251 => (if t251 = true then (signalboxref23_Hear.j0 k t247 t245 (decide ((wrap64 (t245 - ((rd_T65 t247 t246).f0))) ≥ a0_4)) a0_0 a0_1 a0_2 a0_3 a0_4 a0_5 a3_0 a3_1 a3_2 a3_3) else (signalboxref23_Hear.j0 k t247 t245 false a0_0 a0_1 a0_2 a0_3 a0_4 a0_5 a3_0 a3_1 a3_2 a3_3))) else (none)) else (none)))))) = some r := by rw [if_pos rfl] at H; exact H
    clear H; have H := H1
    clear H1; replace H := Option.bind_eq_some_iff.mp H
    obtain ⟨t245, A70, H⟩ := H
    replace H : ((signalboxref23_last.f k l1).bind fun t246 => ((signalboxref23_put.f l1 t245 false 0 0 0 0 0 (⟨#[]⟩ : ByteArray) 0 a3_0 a3_1 a3_2 a3_3).bind fun t247 => (if t246 < 0 then (signalboxref23_Hear.j0 k t247 t245 true a0_0 a0_1 a0_2 a0_3 a0_4 a0_5 a3_0 a3_1 a3_2 a3_3) else (if 0 ≤ t246 then (if t246 < (t247.length : Int) then ((signalboxref23_Differ.f k a0_0 a0_1 a0_2 a0_3 a0_4 a0_5 ((rd_T65 t247 t246).f2.f2.f0) ((rd_T65 t247 t246).f2.f2.f1) ((rd_T65 t247 t246).f2.f2.f2) ((rd_T65 t247 t246).f2.f2.f3) a3_0 a3_1 a3_2 a3_3).bind fun t251 => (if t251 = true then (signalboxref23_Hear.j0 k t247 t245 (decide ((wrap64 (t245 - ((rd_T65 t247 t246).f0))) ≥ a0_4)) a0_0 a0_1 a0_2 a0_3 a0_4 a0_5 a3_0 a3_1 a3_2 a3_3) else (signalboxref23_Hear.j0 k t247 t245 false a0_0 a0_1 a0_2 a0_3 a0_4 a0_5 a3_0 a3_1 a3_2 a3_3))) else (none)) else (none))))) = some r := H
    have A7 := Aside0.mk A70; clear A70; replace H := Option.bind_eq_some_iff.mp H
    obtain ⟨t246, A80, H⟩ := H
    replace H : ((signalboxref23_put.f l1 t245 false 0 0 0 0 0 (⟨#[]⟩ : ByteArray) 0 a3_0 a3_1 a3_2 a3_3).bind fun t247 => (if t246 < 0 then (signalboxref23_Hear.j0 k t247 t245 true a0_0 a0_1 a0_2 a0_3 a0_4 a0_5 a3_0 a3_1 a3_2 a3_3) else (if 0 ≤ t246 then (if t246 < (t247.length : Int) then ((signalboxref23_Differ.f k a0_0 a0_1 a0_2 a0_3 a0_4 a0_5 ((rd_T65 t247 t246).f2.f2.f0) ((rd_T65 t247 t246).f2.f2.f1) ((rd_T65 t247 t246).f2.f2.f2) ((rd_T65 t247 t246).f2.f2.f3) a3_0 a3_1 a3_2 a3_3).bind fun t251 => (if t251 = true then (signalboxref23_Hear.j0 k t247 t245 (decide ((wrap64 (t245 - ((rd_T65 t247 t246).f0))) ≥ a0_4)) a0_0 a0_1 a0_2 a0_3 a0_4 a0_5 a3_0 a3_1 a3_2 a3_3) else (signalboxref23_Hear.j0 k t247 t245 false a0_0 a0_1 a0_2 a0_3 a0_4 a0_5 a3_0 a3_1 a3_2 a3_3))) else (none)) else (none)))) = some r := H
    have A8 := Aside0.mk A80; clear A80; replace H := Option.bind_eq_some_iff.mp H
    obtain ⟨t247, A90, H⟩ := H
    replace H : (if t246 < 0 then (signalboxref23_Hear.j0 k t247 t245 true a0_0 a0_1 a0_2 a0_3 a0_4 a0_5 a3_0 a3_1 a3_2 a3_3) else (if 0 ≤ t246 then (if t246 < (t247.length : Int) then ((signalboxref23_Differ.f k a0_0 a0_1 a0_2 a0_3 a0_4 a0_5 ((rd_T65 t247 t246).f2.f2.f0) ((rd_T65 t247 t246).f2.f2.f1) ((rd_T65 t247 t246).f2.f2.f2) ((rd_T65 t247 t246).f2.f2.f3) a3_0 a3_1 a3_2 a3_3).bind fun t251 => (if t251 = true then (signalboxref23_Hear.j0 k t247 t245 (decide ((wrap64 (t245 - ((rd_T65 t247 t246).f0))) ≥ a0_4)) a0_0 a0_1 a0_2 a0_3 a0_4 a0_5 a3_0 a3_1 a3_2 a3_3) else (signalboxref23_Hear.j0 k t247 t245 false a0_0 a0_1 a0_2 a0_3 a0_4 a0_5 a3_0 a3_1 a3_2 a3_3))) else (none)) else (none))) = some r := H
    have A9 := Aside0.mk A90; clear A90; have HC10 := Aside0.mk H; clear H; go_enter Try.func25, Try.ntmps25
    go_upto_region 6 with (first | ((with_reducible refine gate_dst (N := 4) rfl ?_); refine box_event ?hg (N := 4) ?hd (cs := #[.int .u32 a0_0, .int .u32 a0_1, .bool a0_2, .string a0_3, .int .i64 a0_4, .int .i64 a0_5]) (t := 31) ?hr ?_; (case hd => rfl); (case hg => rfl); (case hr => first | (go_simp; done) | (go_simp; rfl)); intro gb242 hg w11 hbox hb; have n0_ := Aside0.mk (Kd.R_below (pr HO1) hb); have n1_ := Aside0.mk (Kept.below (S := (fun k_ => P1_ k_)) (by repeat (first | (with_reducible first | exact HK.out | apply Kept.alloc | apply Kept.drewN | apply Kept.drew) | exact HK.out)) hb); have n2_ := Aside0.mk (below_step (pe HB) hb); have n3_ := Aside0.mk (hbox); have n4_ := Aside0.mk ((by rw [hg]; exact (by first | exact HK.out.1 | exact (show Kept w _ (fun k_ => P1_ k_) from by repeat (first | (with_reducible first | exact HK.out | apply Kept.alloc | apply Kept.drewN | apply Kept.drew) | exact HK.out)).1) : w.heap.size ≤ gb242)); have n5_ := Aside0.mk ((by rw [hg]; exact (below_size (pe HB)) : w0.heap.size ≤ gb242)); clear HO1; clear HK; clear HB; have HO1 := n0_; have HK := n1_; have HB := n2_; have BK242 := n3_; have GW242 := n4_; have GE242 := n5_; clear n0_ n1_ n2_ n3_ n4_ n5_; clear hb hbox hg) | ((with_reducible refine gate_dst (N := 7) rfl ?_); refine box_event ?hg (N := 7) ?hd (cs := #[.int .i64 a3_0, .int .i64 a3_1, .int .i64 a3_2, .string a3_3]) (t := 33) ?hr ?_; (case hd => rfl); (case hg => rfl); (case hr => first | (go_simp; done) | (go_simp; rfl)); intro gb243 hg w12 hbox hb; have n0_ := Aside0.mk (Kd.R_below (pr HO1) hb); have n1_ := Aside0.mk (blk_below (pb BK242) hb); have n2_ := Aside0.mk (Kept.below (S := (fun k_ => P1_ k_)) (by repeat (first | (with_reducible first | exact HK.out | apply Kept.alloc | apply Kept.drewN | apply Kept.drew | refine Kept.setCell ?_ (.inr GW242.out) _) | exact HK.out)) hb); have n3_ := Aside0.mk (below_step (by repeat (first | (with_reducible first | exact HB.out | apply ba_ | apply bd_ | apply be_ | refine below_set ?_ GE242.out) | exact HB.out)) hb); have n4_ := Aside0.mk (hbox); have n5_ := Aside0.mk ((by rw [hg]; exact (by first | exact HK.out.1 | exact (show Kept w _ (fun k_ => P1_ k_) from by repeat (first | (with_reducible first | exact HK.out | apply Kept.alloc | apply Kept.drewN | apply Kept.drew | refine Kept.setCell ?_ (.inr GW242.out) _) | exact HK.out)).1) : w.heap.size ≤ gb243)); have n6_ := Aside0.mk ((by rw [hg]; exact (below_size (by repeat (first | (with_reducible first | exact HB.out | apply ba_ | apply bd_ | apply be_ | refine below_set ?_ GE242.out) | exact HB.out))) : w0.heap.size ≤ gb243)); have n7_ := Aside0.mk ((by rw [hg]; exact Nat.ne_of_lt (blk_lt (pb BK242)) : gb242 ≠ gb243)); have n8_ := Aside0.mk ((by rw [hg]; exact Nat.ne_of_gt (blk_lt (pb BK242)) : gb243 ≠ gb242)); clear HO1; clear BK242; clear HK; clear HB; have HO1 := n0_; have BK242 := n1_; have HK := n2_; have HB := n3_; have BK243 := n4_; have GW243 := n5_; have GE243 := n6_; have NB242_243 := n7_; have NB243_242 := n8_; clear n0_ n1_ n2_ n3_ n4_ n5_ n6_ n7_ n8_; clear hb hbox hg; have hnb13 := NB242_243.out; have hnc13 := NB243_242.out; have hcz14_0 : w12.cell? ⟨gb242, 0, none⟩ = some (.int .u32 a0_0) := (blk_cell BK242.out 0).trans rfl; have hcz14_1 : w12.cell? ⟨gb242, 1, none⟩ = some (.int .u32 a0_1) := (blk_cell BK242.out 1).trans rfl; have hcz14_2 : w12.cell? ⟨gb242, 2, none⟩ = some (.bool a0_2) := (blk_cell BK242.out 2).trans rfl; have hcz14_3 : w12.cell? ⟨gb242, 3, none⟩ = some (.string a0_3) := (blk_cell BK242.out 3).trans rfl; have hcz14_4 : w12.cell? ⟨gb242, 4, none⟩ = some (.int .i64 a0_4) := (blk_cell BK242.out 4).trans rfl; have hcz14_5 : w12.cell? ⟨gb242, 5, none⟩ = some (.int .i64 a0_5) := (blk_cell BK242.out 5).trans rfl; have hfz14_0 := blk_frozen BK242.out 0; have hfz14_1 := blk_frozen BK242.out 1; have hfz14_2 := blk_frozen BK242.out 2; have hfz14_3 := blk_frozen BK242.out 3; have hfz14_4 := blk_frozen BK242.out 4; have hfz14_5 := blk_frozen BK242.out 5; have hcz15_0 : w12.cell? ⟨gb243, 0, none⟩ = some (.int .i64 a3_0) := (blk_cell BK243.out 0).trans rfl; have hcz15_1 : w12.cell? ⟨gb243, 1, none⟩ = some (.int .i64 a3_1) := (blk_cell BK243.out 1).trans rfl; have hcz15_2 : w12.cell? ⟨gb243, 2, none⟩ = some (.int .i64 a3_2) := (blk_cell BK243.out 2).trans rfl; have hcz15_3 : w12.cell? ⟨gb243, 3, none⟩ = some (.string a3_3) := (blk_cell BK243.out 3).trans rfl; have hfz15_0 := blk_frozen BK243.out 0; have hfz15_1 := blk_frozen BK243.out 1; have hfz15_2 := blk_frozen BK243.out 2; have hfz15_3 := blk_frozen BK243.out 3) | ((with_reducible refine gate_callee (f := 40) rfl ?_); refine goesL_ (some 13) rfl rfl Try.func40 (by kernel_rfl) rfl #[.agg #[.int .u32 a0_0, .int .u32 a0_1, .bool a0_2], .agg #[.int .i64 a3_0, .int .i64 a3_1, .int .i64 a3_2, .string a3_3]] rfl (by (try simp only [List.map_toArray, List.map_cons, List.map_nil]); first | done | rfl | (simp only [List.length_drop, List.length_take]; rfl)) ?_; (with_reducible refine (signalboxref05_Match.calls k a0_0 a0_1 a0_2 a3_0 a3_1 a3_2 a3_3 true _ A5.out).mono ?_); rintro e w16 ⟨rfl, hb⟩; refine ⟨_, rfl, ?_⟩; have n0_ := Aside0.mk (Kd.R_below (pr HO1) hb); have n1_ := Aside0.mk (blk_below (pb BK242) hb); have n2_ := Aside0.mk (blk_below (pb BK243) hb); have n3_ := Aside0.mk (Kept.below (S := (fun k_ => P1_ k_)) (by repeat (first | (with_reducible first | exact HK.out | apply Kept.alloc | apply Kept.drewN | apply Kept.drew | refine Kept.setCell ?_ (.inr GW242.out) _ | refine Kept.setCell ?_ (.inr GW243.out) _) | exact HK.out)) hb); have n4_ := Aside0.mk (below_step (by repeat (first | (with_reducible first | exact HB.out | apply ba_ | apply bd_ | apply be_ | refine below_set ?_ GE242.out | refine below_set ?_ GE243.out) | exact HB.out)) hb); clear HO1; clear BK242; clear BK243; clear HK; clear HB; have HO1 := n0_; have BK242 := n1_; have BK243 := n2_; have HK := n3_; have HB := n4_; clear n0_ n1_ n2_ n3_ n4_; (try clear hb); (try clear hb2); (try clear hk); (try clear hi)) | ((with_reducible refine gate_callee (f := 23) rfl ?_); refine goesL_ (some 17) rfl rfl Try.func23 (by kernel_rfl) rfl #[.int .i64 a2] rfl (by (try simp only [List.map_toArray, List.map_cons, List.map_nil]); first | done | rfl | (simp only [List.length_drop, List.length_take]; rfl)) ?_; (with_reducible refine (signalboxref23_Within.calls a2 t245 _ A7.out).mono ?_); rintro e w' ⟨rfl, ⟨nd, rfl⟩⟩; refine ⟨_, rfl, ?_⟩; obtain ⟨Ao17, co17, eo17⟩ := Kd.R_slice HO1.out; subst eo17) | ((with_reducible refine gate_callee (f := 36) rfl ?_); refine goesL_ (some 19) rfl rfl Try.func36 (by kernel_rfl) rfl #[.slice Ao17 l1.length co17] rfl (by (try simp only [List.map_toArray, List.map_cons, List.map_nil]); first | done | rfl | (simp only [List.length_drop, List.length_take]; rfl)) ?_; (with_reducible refine (signalboxref23_last.calls k _ _ l1 t246 _ ?side1 ?side2 A8.out).mono ?_); (case side1 => repeat (first | exact (Kd.R_reads' HO1.out).2.2 | (with_reducible refine Kd.C_alloc ?_ _) | (with_reducible refine Kd.C_drewN ?_ _) | (with_reducible refine Kd.C_drew ?_))); (case side2 => exact (Kd.R_reads' HO1.out).2.1); rintro e w' ⟨rfl, ⟨nd, rfl⟩⟩; refine ⟨_, rfl, ?_⟩; have hcz18_0 : w16.cell? ⟨gb243, 0, none⟩ = some (.int .i64 a3_0) := (blk_cell BK243.out 0).trans rfl; have hcz18_1 : w16.cell? ⟨gb243, 1, none⟩ = some (.int .i64 a3_1) := (blk_cell BK243.out 1).trans rfl; have hcz18_2 : w16.cell? ⟨gb243, 2, none⟩ = some (.int .i64 a3_2) := (blk_cell BK243.out 2).trans rfl; have hcz18_3 : w16.cell? ⟨gb243, 3, none⟩ = some (.string a3_3) := (blk_cell BK243.out 3).trans rfl; have hfz18_0 := blk_frozen BK243.out 0; have hfz18_1 := blk_frozen BK243.out 1; have hfz18_2 := blk_frozen BK243.out 2; have hfz18_3 := blk_frozen BK243.out 3) | ((with_reducible refine gate_callee (f := 37) rfl ?_); refine goesL_ (some 24) rfl rfl Try.func37 (by kernel_rfl) rfl #[.slice Ao17 l1.length co17, .agg #[.int .i64 t245, .bool false, .int .i64 0, .int .i64 0, .int .i64 0, .int .i64 0, .int .i64 0, .string (⟨#[]⟩ : ByteArray), .int .i64 0, .int .i64 a3_0, .int .i64 a3_1, .int .i64 a3_2, .string a3_3]] rfl (by (try simp only [List.map_toArray, List.map_cons, List.map_nil]); first | done | rfl | (simp only [List.length_drop, List.length_take]; rfl)) ?_; (with_reducible refine (signalboxref23_put.calls _ _ l1 t245 false 0 0 0 0 0 (⟨#[]⟩ : ByteArray) 0 a3_0 a3_1 a3_2 a3_3 t247 _ ?side1 ?side2 A9.out).mono ?_); (case side1 => repeat (first | exact (Kd.R_reads' HO1.out).2.2 | (with_reducible refine Kd.C_alloc ?_ _) | (with_reducible refine Kd.C_drewN ?_ _) | (with_reducible refine Kd.C_drew ?_))); (case side2 => exact (Kd.R_reads' HO1.out).2.1); rintro e w19 ⟨v248, rfl, ho0, hb⟩; refine ⟨_, rfl, ?_⟩; have n0_ := Aside0.mk (Kd.R_elder' (pr HO1) (Kd.R_base ho0) hb); have n1_ := Aside0.mk (Kd.R_lower (Kd.R_new' (Kd.R_newM (M := fun k_ => (P1_ k_ ∨ w.heap.size ≤ k_)) ho0 (by first | exact HK.out.1 | exact (show Kept w _ (fun k_ => P1_ k_) from by repeat (first | (with_reducible first | exact HK.out | apply Kept.alloc | apply Kept.drewN | apply Kept.drew | refine Kept.setCell ?_ (.inr GW242.out) _ | refine Kept.setCell ?_ (.inr GW243.out) _) | exact HK.out)).1) (fun k_ h_ => .inr h_)) (Kd.R_lt (pr HO1))) (below_size (by repeat (first | (with_reducible first | exact HB.out | apply ba_ | apply bd_ | apply be_ | refine below_set ?_ GE242.out | refine below_set ?_ GE243.out) | exact HB.out)))); have n2_ := Aside0.mk (blk_below (pb BK242) hb); have n3_ := Aside0.mk (blk_below (pb BK243) hb); have n4_ := Aside0.mk (Kept.below (S := (fun k_ => P1_ k_)) (by repeat (first | (with_reducible first | exact HK.out | apply Kept.alloc | apply Kept.drewN | apply Kept.drew | refine Kept.setCell ?_ (.inr GW242.out) _ | refine Kept.setCell ?_ (.inr GW243.out) _) | exact HK.out)) hb); have n5_ := Aside0.mk (below_step (by repeat (first | (with_reducible first | exact HB.out | apply ba_ | apply bd_ | apply be_ | refine below_set ?_ GE242.out | refine below_set ?_ GE243.out) | exact HB.out)) hb); clear HO1; clear BK242; clear BK243; clear HK; clear HB; have HO1 := n0_; have HO249 := n1_; have BK242 := n2_; have BK243 := n3_; have HK := n4_; have HB := n5_; clear n0_ n1_ n2_ n3_ n4_ n5_; (try clear hb); (try clear hb2); (try clear hk); (try clear hi); (try clear ho0)))
    (try simp only [Act.put, sa_, sb_, sc_])
    go_cut [49] (fun v49 wc => ∃ (kq : Nat) (x49_9 : Bool), v49 = .bool x49_9 ∧ Aside0 (signalboxref23_Hear.j0 kq t247 t245 x49_9 a0_0 a0_1 a0_2 a0_3 a0_4 a0_5 a3_0 a3_1 a3_2 a3_3 = some r) ∧ Aside0 (kq ≤ k) ∧ Aside0 (Kd.R k65 65 wc w0.heap.size (fun k_ => (P1_ k_ ∨ w.heap.size ≤ k_)) v248 t247) ∧ Aside0 (wc.heap[gb242]? = some (.cells #[.int .u32 a0_0, .int .u32 a0_1, .bool a0_2, .string a0_3, .int .i64 a0_4, .int .i64 a0_5] 31 (0, 0))) ∧ Aside0 (wc.heap[gb243]? = some (.cells #[.int .i64 a3_0, .int .i64 a3_1, .int .i64 a3_2, .string a3_3] 33 (0, 0))) ∧ Aside0 (Kept w wc (fun k_ => P1_ k_)) ∧ Aside0 (Below w0.heap.size w0 wc))
    case first =>
      have H := HC10.out
      clear HC10; by_cases c20 : t246 < 0
      · rw [if_pos c20] at H
        have c20b0 : decide (t246 < 0) = true := decide_eq_true c20
        clear c20; (first | rw [c20b0] | (simp only [i64_w, i32_w]; rw [c20b0]) | skip)
        have H' := Aside0.mk H; clear H; try go_wp2
        have n0_ := Aside0.mk (Kd.R_drew HO1.out)
        have n1_ := Aside0.mk (Kd.R_drew HO249.out)
        have n2_ := Aside0.mk (blk_drew BK242.out)
        have n3_ := Aside0.mk (blk_drew BK243.out)
        have n4_ := Aside0.mk (Kept.drew HK.out)
        have n5_ := Aside0.mk (below_drew1 HB.out)
        clear HO1; clear HO249; clear BK242; clear BK243; clear HK; clear HB; have HO1 := n0_
        have HO249 := n1_
        have BK242 := n2_
        have BK243 := n3_
        have HK := n4_
        have HB := n5_
        clear n0_ n1_ n2_ n3_ n4_ n5_; refine start_ (n := 25) (S := fun w' => True) (ds := []) #[false, false, false, false, false, false, false, false, false, false, false, false, false, false, false, false, false, false, false, false, false, false, false, false, false] (by kernel_rfl) rfl rfl trivial (fun hHeld => ?_); refine with_tabW signalboxref23_Hear.tab6 signalboxref23_Hear.bits6 (fun HT_ HW_ => ?_)
        generalize w19.drew = w21 at HO1 HO249 BK242 BK243 HK HB hHeld ⊢
        refine pure_ (i := 0) (N := some 25) (v := ?_) (a' := ?_) #[true, false, false, false, false, false, false, false, false, false, false, false, false, false, false, false, false, false, false, false, false, false, false, false, false] rfl rfl (any_of HT_.out (by kernel_rfl)) (fun _ _ _ h => h) (Or.inl ⟨by rfl, ?_⟩) ?_ ?_
        rotate_left
        · intro w'
          go_simp
          with_reducible rfl
        rotate_left
        · simp only [Act.put, sa_, sb_, sc_, i64_w, i32_w]; rfl
        refine pure_ (i := 1) (N := some 26) (v := ?_) (a' := ?_) #[true, true, false, false, false, false, false, false, false, false, false, false, false, false, false, false, false, false, false, false, false, false, false, false, false] rfl rfl (any_of HT_.out (by kernel_rfl)) (fun _ _ _ h => h) (Or.inl ⟨by rfl, ?_⟩) ?_ ?_
        rotate_left
        · intro w'
          go_simp
          with_reducible rfl
        rotate_left
        · simp only [Act.put, sa_, sb_, sc_, i64_w, i32_w]; rfl
        refine pure_ (i := 2) (N := some 27) (v := ?_) (a' := ?_) #[true, true, true, false, false, false, false, false, false, false, false, false, false, false, false, false, false, false, false, false, false, false, false, false, false] rfl rfl (any_of HT_.out (by kernel_rfl)) (fun _ _ _ h => h) (Or.inl ⟨by rfl, ?_⟩) ?_ ?_
        rotate_left
        · intro w'
          go_simp
          with_reducible rfl
        rotate_left
        · simp only [Act.put, sa_, sb_, sc_, i64_w, i32_w]; rfl
        refine pure_ (i := 3) (N := some 28) (v := undef) (a' := ?_) #[true, true, true, true, false, false, false, false, false, false, false, false, false, false, false, false, false, false, false, false, false, false, false, false, false] rfl rfl (any_of HT_.out (by kernel_rfl)) (fun _ _ _ h => h) (Or.inr ⟨by rfl, rfl⟩) ?_ ?_
        rotate_left
        · simp only [Act.put, sa_, sb_, sc_, i64_w, i32_w]; rfl
        refine pure_ (i := 4) (N := some 29) (v := undef) (a' := ?_) #[true, true, true, true, true, false, false, false, false, false, false, false, false, false, false, false, false, false, false, false, false, false, false, false, false] rfl rfl (any_of HT_.out (by kernel_rfl)) (fun _ _ _ h => h) (Or.inr ⟨by rfl, rfl⟩) ?_ ?_
        rotate_left
        · simp only [Act.put, sa_, sb_, sc_, i64_w, i32_w]; rfl
        refine pure_ (i := 5) (N := some 30) (v := undef) (a' := ?_) #[true, true, true, true, true, true, false, false, false, false, false, false, false, false, false, false, false, false, false, false, false, false, false, false, false] rfl rfl (any_of HT_.out (by kernel_rfl)) (fun _ _ _ h => h) (Or.inr ⟨by rfl, rfl⟩) ?_ ?_
        rotate_left
        · simp only [Act.put, sa_, sb_, sc_, i64_w, i32_w]; rfl
        refine pure_ (i := 6) (N := some 31) (v := undef) (a' := ?_) #[true, true, true, true, true, true, true, false, false, false, false, false, false, false, false, false, false, false, false, false, false, false, false, false, false] rfl rfl (any_of HT_.out (by kernel_rfl)) (fun _ _ _ h => h) (Or.inr ⟨by rfl, rfl⟩) ?_ ?_
        rotate_left
        · simp only [Act.put, sa_, sb_, sc_, i64_w, i32_w]; rfl
        refine pure_ (i := 7) (N := some 32) (v := undef) (a' := ?_) #[true, true, true, true, true, true, true, true, false, false, false, false, false, false, false, false, false, false, false, false, false, false, false, false, false] rfl rfl (any_of HT_.out (by kernel_rfl)) (fun _ _ _ h => h) (Or.inr ⟨by rfl, rfl⟩) ?_ ?_
        rotate_left
        · simp only [Act.put, sa_, sb_, sc_, i64_w, i32_w]; rfl
        refine pure_ (i := 8) (N := some 33) (v := undef) (a' := ?_) #[true, true, true, true, true, true, true, true, true, false, false, false, false, false, false, false, false, false, false, false, false, false, false, false, false] rfl rfl (any_of HT_.out (by kernel_rfl)) (fun _ _ _ h => h) (Or.inr ⟨by rfl, rfl⟩) ?_ ?_
        rotate_left
        · simp only [Act.put, sa_, sb_, sc_, i64_w, i32_w]; rfl
        refine pure_ (i := 9) (N := some 34) (v := undef) (a' := ?_) #[true, true, true, true, true, true, true, true, true, true, false, false, false, false, false, false, false, false, false, false, false, false, false, false, false] rfl rfl (any_of HT_.out (by kernel_rfl)) (fun _ _ _ h => h) (Or.inr ⟨by rfl, rfl⟩) ?_ ?_
        rotate_left
        · simp only [Act.put, sa_, sb_, sc_, i64_w, i32_w]; rfl
        refine pure_ (i := 10) (N := some 35) (v := undef) (a' := ?_) #[true, true, true, true, true, true, true, true, true, true, true, false, false, false, false, false, false, false, false, false, false, false, false, false, false] rfl rfl (any_of HT_.out (by kernel_rfl)) (fun _ _ _ h => h) (Or.inr ⟨by rfl, rfl⟩) ?_ ?_
        rotate_left
        · simp only [Act.put, sa_, sb_, sc_, i64_w, i32_w]; rfl
        refine pure_ (i := 11) (N := some 36) (v := undef) (a' := ?_) #[true, true, true, true, true, true, true, true, true, true, true, true, false, false, false, false, false, false, false, false, false, false, false, false, false] rfl rfl (any_of HT_.out (by kernel_rfl)) (fun _ _ _ h => h) (Or.inr ⟨by rfl, rfl⟩) ?_ ?_
        rotate_left
        · simp only [Act.put, sa_, sb_, sc_, i64_w, i32_w]; rfl
        refine pure_ (i := 12) (N := some 37) (v := undef) (a' := ?_) #[true, true, true, true, true, true, true, true, true, true, true, true, true, false, false, false, false, false, false, false, false, false, false, false, false] rfl rfl (any_of HT_.out (by kernel_rfl)) (fun _ _ _ h => h) (Or.inr ⟨by rfl, rfl⟩) ?_ ?_
        rotate_left
        · simp only [Act.put, sa_, sb_, sc_, i64_w, i32_w]; rfl
        refine pure_ (i := 13) (N := some 38) (v := undef) (a' := ?_) #[true, true, true, true, true, true, true, true, true, true, true, true, true, true, false, false, false, false, false, false, false, false, false, false, false] rfl rfl (any_of HT_.out (by kernel_rfl)) (fun _ _ _ h => h) (Or.inr ⟨by rfl, rfl⟩) ?_ ?_
        rotate_left
        · simp only [Act.put, sa_, sb_, sc_, i64_w, i32_w]; rfl
        refine pure_ (i := 14) (N := some 39) (v := undef) (a' := ?_) #[true, true, true, true, true, true, true, true, true, true, true, true, true, true, true, false, false, false, false, false, false, false, false, false, false] rfl rfl (any_of HT_.out (by kernel_rfl)) (fun _ _ _ h => h) (Or.inr ⟨by rfl, rfl⟩) ?_ ?_
        rotate_left
        · simp only [Act.put, sa_, sb_, sc_, i64_w, i32_w]; rfl
        refine pure_ (i := 15) (N := some 40) (v := undef) (a' := ?_) #[true, true, true, true, true, true, true, true, true, true, true, true, true, true, true, true, false, false, false, false, false, false, false, false, false] rfl rfl (any_of HT_.out (by kernel_rfl)) (fun _ _ _ h => h) (Or.inr ⟨by rfl, rfl⟩) ?_ ?_
        rotate_left
        · simp only [Act.put, sa_, sb_, sc_, i64_w, i32_w]; rfl
        refine pure_ (i := 16) (N := some 41) (v := undef) (a' := ?_) #[true, true, true, true, true, true, true, true, true, true, true, true, true, true, true, true, true, false, false, false, false, false, false, false, false] rfl rfl (any_of HT_.out (by kernel_rfl)) (fun _ _ _ h => h) (Or.inr ⟨by rfl, rfl⟩) ?_ ?_
        rotate_left
        · simp only [Act.put, sa_, sb_, sc_, i64_w, i32_w]; rfl
        refine pure_ (i := 17) (N := some 42) (v := undef) (a' := ?_) #[true, true, true, true, true, true, true, true, true, true, true, true, true, true, true, true, true, true, false, false, false, false, false, false, false] rfl rfl (any_of HT_.out (by kernel_rfl)) (fun _ _ _ h => h) (Or.inr ⟨by rfl, rfl⟩) ?_ ?_
        rotate_left
        · simp only [Act.put, sa_, sb_, sc_, i64_w, i32_w]; rfl
        refine pure_ (i := 18) (N := some 43) (v := undef) (a' := ?_) #[true, true, true, true, true, true, true, true, true, true, true, true, true, true, true, true, true, true, true, false, false, false, false, false, false] rfl rfl (any_of HT_.out (by kernel_rfl)) (fun _ _ _ h => h) (Or.inr ⟨by rfl, rfl⟩) ?_ ?_
        rotate_left
        · simp only [Act.put, sa_, sb_, sc_, i64_w, i32_w]; rfl
        refine pure_ (i := 19) (N := some 44) (v := undef) (a' := ?_) #[true, true, true, true, true, true, true, true, true, true, true, true, true, true, true, true, true, true, true, true, false, false, false, false, false] rfl rfl (any_of HT_.out (by kernel_rfl)) (fun _ _ _ h => h) (Or.inr ⟨by rfl, rfl⟩) ?_ ?_
        rotate_left
        · simp only [Act.put, sa_, sb_, sc_, i64_w, i32_w]; rfl
        refine pure_ (i := 20) (N := some 45) (v := undef) (a' := ?_) #[true, true, true, true, true, true, true, true, true, true, true, true, true, true, true, true, true, true, true, true, true, false, false, false, false] rfl rfl (any_of HT_.out (by kernel_rfl)) (fun _ _ _ h => h) (Or.inr ⟨by rfl, rfl⟩) ?_ ?_
        rotate_left
        · simp only [Act.put, sa_, sb_, sc_, i64_w, i32_w]; rfl
        refine pure_ (i := 21) (N := some 46) (v := undef) (a' := ?_) #[true, true, true, true, true, true, true, true, true, true, true, true, true, true, true, true, true, true, true, true, true, true, false, false, false] rfl rfl (any_of HT_.out (by kernel_rfl)) (fun _ _ _ h => h) (Or.inr ⟨by rfl, rfl⟩) ?_ ?_
        rotate_left
        · simp only [Act.put, sa_, sb_, sc_, i64_w, i32_w]; rfl
        refine pure_ (i := 22) (N := some 47) (v := undef) (a' := ?_) #[true, true, true, true, true, true, true, true, true, true, true, true, true, true, true, true, true, true, true, true, true, true, true, false, false] rfl rfl (any_of HT_.out (by kernel_rfl)) (fun _ _ _ h => h) (Or.inr ⟨by rfl, rfl⟩) ?_ ?_
        rotate_left
        · simp only [Act.put, sa_, sb_, sc_, i64_w, i32_w]; rfl
        refine pure_ (i := 23) (N := some 48) (v := undef) (a' := ?_) #[true, true, true, true, true, true, true, true, true, true, true, true, true, true, true, true, true, true, true, true, true, true, true, true, false] rfl rfl (any_of HT_.out (by kernel_rfl)) (fun _ _ _ h => h) (Or.inr ⟨by rfl, rfl⟩) ?_ ?_
        rotate_left
        · simp only [Act.put, sa_, sb_, sc_, i64_w, i32_w]; rfl
        refine pure_ (i := 24) (N := some 49) (v := ?_) (a' := ?_) #[true, true, true, true, true, true, true, true, true, true, true, true, true, true, true, true, true, true, true, true, true, true, true, true, true] rfl rfl (any_of HT_.out (by kernel_rfl)) (fun _ _ _ h => h) (Or.inl ⟨by rfl, ?_⟩) ?_ ?_
        rotate_left
        · intro w'
          go_simp
          with_reducible rfl
        rotate_left
        · simp only [Act.put, sa_, sb_, sc_, i64_w, i32_w]; rfl
        refine done_ (done_of HT_.out (by kernel_rfl)) ?_
        try go_wp2
        go_meet
        case rel => exact ⟨_, (true), (by first | rfl | (simp; done) | (simp [*]; done)), H', ⟨by first | omega | exact Nat.le_refl _⟩, ⟨by (with_reducible repeat (first | apply Kd.R_alloc | apply Kd.R_drewN | apply Kd.R_drew)); exact Kd.R_mono HO249.out (fun _ hk => hk.1.1)⟩, ⟨by (with_reducible repeat (first | refine kd_ ?_ _ | refine ke_ ?_ | refine ka_ ?_ _)); exact BK242.out⟩, ⟨by (with_reducible repeat (first | refine kd_ ?_ _ | refine ke_ ?_ | refine ka_ ?_ _)); exact BK243.out⟩, ⟨by repeat (first | (with_reducible first | exact HK.out | apply Kept.alloc | apply Kept.drewN | apply Kept.drew | refine Kept.setCell ?_ (.inr GW242.out) _ | refine Kept.setCell ?_ (.inr GW243.out) _) | exact HK.out)⟩, ⟨by repeat (first | (with_reducible first | exact HB.out | apply ba_ | apply bd_ | apply be_ | refine below_set ?_ GE242.out | refine below_set ?_ GE243.out) | exact HB.out)⟩⟩
      · rw [if_neg c20] at H
        have c20b0 : decide (t246 < 0) = false := decide_eq_false c20
        clear c20; (first | rw [c20b0] | (simp only [i64_w, i32_w]; rw [c20b0]) | skip)
        by_cases c22 : 0 ≤ t246
        · rw [if_pos c22] at H
          have c22b0 : decide (0 ≤ t246) = true := decide_eq_true c22
          clear c22; by_cases c23 : t246 < (t247.length : Int)
          · rw [if_pos c23] at H
            have c23b0 : decide (t246 < (t247.length : Int)) = true := decide_eq_true c23
            clear c23; replace H := Option.bind_eq_some_iff.mp H
            obtain ⟨t251, A240, H⟩ := H
            replace H : (if t251 = true then (signalboxref23_Hear.j0 k t247 t245 (decide ((wrap64 (t245 - ((rd_T65 t247 t246).f0))) ≥ a0_4)) a0_0 a0_1 a0_2 a0_3 a0_4 a0_5 a3_0 a3_1 a3_2 a3_3) else (signalboxref23_Hear.j0 k t247 t245 false a0_0 a0_1 a0_2 a0_3 a0_4 a0_5 a3_0 a3_1 a3_2 a3_3)) = some r := H
            have A24 := Aside0.mk A240; clear A240; by_cases c25 : t251 = true
            · subst c25
              have H1 : (signalboxref23_Hear.j0 k t247 t245 (decide ((wrap64 (t245 - ((rd_T65 t247 t246).f0))) ≥ a0_4)) a0_0 a0_1 a0_2 a0_3 a0_4 a0_5 a3_0 a3_1 a3_2 a3_3) = some r := by rw [if_pos rfl] at H; exact H
              clear H; have H := H1
              clear H1; have H' := Aside0.mk H; clear H; try go_wp2
              have n0_ := Aside0.mk (Kd.R_drew HO1.out)
              have n1_ := Aside0.mk (Kd.R_drew HO249.out)
              have n2_ := Aside0.mk (blk_drew BK242.out)
              have n3_ := Aside0.mk (blk_drew BK243.out)
              have n4_ := Aside0.mk (Kept.drew HK.out)
              have n5_ := Aside0.mk (below_drew1 HB.out)
              clear HO1; clear HO249; clear BK242; clear BK243; clear HK; clear HB; have HO1 := n0_
              have HO249 := n1_
              have BK242 := n2_
              have BK243 := n3_
              have HK := n4_
              have HB := n5_
              clear n0_ n1_ n2_ n3_ n4_ n5_; obtain ⟨Ao27, co27, eo27⟩ := Kd.R_slice HO249.out
              (first | subst eo27 | (injection eo27 with f1_ f2_ f3_; have f4_ := f1_.symm; have f5_ := f3_.symm; clear f1_ f2_ f3_; subst f4_; subst f5_))
              have p250 : 0 ≤ (t246 : Int) := of_decide_eq_true (by first | (with_reducible assumption) | assumption)
              have q250 : t246 < (t247.length : Int) := of_decide_eq_true (by first | (with_reducible assumption) | assumption)
              obtain ⟨ad250, e250, hx250_0, hx250_1, hx250_2, hx250_3, hx250_4, hx250_5, hx250_6, hx250_7, hx250_8, hx250_9, hx250_10, hx250_11, hx250_12⟩ := at_T65 (Kd.R_reads' HO249.out).2.2 t246 p250 q250
              cases e250
              replace p250 := eq_true p250
              replace q250 := eq_true q250
              have p252 : 0 ≤ (t246 : Int) := of_decide_eq_true (by first | (with_reducible assumption) | assumption)
              have q252 : t246 < (t247.length : Int) := of_decide_eq_true (by first | (with_reducible assumption) | assumption)
              obtain ⟨ad252, e252, hx252_0, hx252_1, hx252_2, hx252_3, hx252_4, hx252_5, hx252_6, hx252_7, hx252_8, hx252_9, hx252_10, hx252_11, hx252_12⟩ := at_T65 (Kd.R_reads' HO249.out).2.2 t246 p252 q252
              obtain rfl : ad250 = ad252 := (by injection e252)
              replace p252 := eq_true p252
              replace q252 := eq_true q252
              refine start_ (n := 25) (S := fun w' => w'.cell? ⟨gb242, 0, none⟩ = some (.int .u32 a0_0) ∧ w'.cell? ⟨gb242, 1, none⟩ = some (.int .u32 a0_1) ∧ w'.cell? ⟨gb242, 2, none⟩ = some (.bool a0_2) ∧ w'.cell? ⟨gb242, 3, none⟩ = some (.string a0_3) ∧ w'.cell? ⟨gb242, 4, none⟩ = some (.int .i64 a0_4) ∧ w'.cell? ⟨gb242, 5, none⟩ = some (.int .i64 a0_5) ∧ w'.cell? ⟨gb243, 0, none⟩ = some (.int .i64 a3_0) ∧ w'.cell? ⟨gb243, 1, none⟩ = some (.int .i64 a3_1) ∧ w'.cell? ⟨gb243, 2, none⟩ = some (.int .i64 a3_2) ∧ w'.cell? ⟨gb243, 3, none⟩ = some (.string a3_3) ∧ w'.cell? (ad250.add ((t246).toNat * 13)) = some (.int .i64 ((rd_T65 t247 t246).f0)) ∧ w'.cell? ⟨(ad250.add ((t246).toNat * 13)).block, (ad250.add ((t246).toNat * 13)).off + 1, none⟩ = some (.bool ((rd_T65 t247 t246).f1)) ∧ w'.cell? ⟨(ad250.add ((t246).toNat * 13)).block, (ad250.add ((t246).toNat * 13)).off + 2, none⟩ = some (.int .i64 ((rd_T65 t247 t246).f2.f0)) ∧ w'.cell? ⟨(ad250.add ((t246).toNat * 13)).block, (ad250.add ((t246).toNat * 13)).off + 3, none⟩ = some (.int .i64 ((rd_T65 t247 t246).f2.f1)) ∧ w'.cell? ⟨(ad250.add ((t246).toNat * 13)).block, (ad250.add ((t246).toNat * 13)).off + 4, none⟩ = some (.int .i64 ((rd_T65 t247 t246).f2.f2.f0)) ∧ w'.cell? ⟨(ad250.add ((t246).toNat * 13)).block, (ad250.add ((t246).toNat * 13)).off + 5, none⟩ = some (.int .i64 ((rd_T65 t247 t246).f2.f2.f1)) ∧ w'.cell? ⟨(ad250.add ((t246).toNat * 13)).block, (ad250.add ((t246).toNat * 13)).off + 6, none⟩ = some (.int .i64 ((rd_T65 t247 t246).f2.f2.f2)) ∧ w'.cell? ⟨(ad250.add ((t246).toNat * 13)).block, (ad250.add ((t246).toNat * 13)).off + 7, none⟩ = some (.string ((rd_T65 t247 t246).f2.f2.f3)) ∧ w'.cell? ⟨(ad250.add ((t246).toNat * 13)).block, (ad250.add ((t246).toNat * 13)).off + 8, none⟩ = some (.int .i64 ((rd_T65 t247 t246).f2.f3)) ∧ w'.cell? ⟨(ad250.add ((t246).toNat * 13)).block, (ad250.add ((t246).toNat * 13)).off + 9, none⟩ = some (.int .i64 ((rd_T65 t247 t246).f3.f0)) ∧ w'.cell? ⟨(ad250.add ((t246).toNat * 13)).block, (ad250.add ((t246).toNat * 13)).off + 10, none⟩ = some (.int .i64 ((rd_T65 t247 t246).f3.f1)) ∧ w'.cell? ⟨(ad250.add ((t246).toNat * 13)).block, (ad250.add ((t246).toNat * 13)).off + 11, none⟩ = some (.int .i64 ((rd_T65 t247 t246).f3.f2)) ∧ w'.cell? ⟨(ad250.add ((t246).toNat * 13)).block, (ad250.add ((t246).toNat * 13)).off + 12, none⟩ = some (.string ((rd_T65 t247 t246).f3.f3)) ∧ w'.cell? (ad250.add ((t246).toNat * 13)) = some (.int .i64 ((rd_T65 t247 t246).f0)) ∧ w'.cell? ⟨(ad250.add ((t246).toNat * 13)).block, (ad250.add ((t246).toNat * 13)).off + 1, none⟩ = some (.bool ((rd_T65 t247 t246).f1)) ∧ w'.cell? ⟨(ad250.add ((t246).toNat * 13)).block, (ad250.add ((t246).toNat * 13)).off + 2, none⟩ = some (.int .i64 ((rd_T65 t247 t246).f2.f0)) ∧ w'.cell? ⟨(ad250.add ((t246).toNat * 13)).block, (ad250.add ((t246).toNat * 13)).off + 3, none⟩ = some (.int .i64 ((rd_T65 t247 t246).f2.f1)) ∧ w'.cell? ⟨(ad250.add ((t246).toNat * 13)).block, (ad250.add ((t246).toNat * 13)).off + 4, none⟩ = some (.int .i64 ((rd_T65 t247 t246).f2.f2.f0)) ∧ w'.cell? ⟨(ad250.add ((t246).toNat * 13)).block, (ad250.add ((t246).toNat * 13)).off + 5, none⟩ = some (.int .i64 ((rd_T65 t247 t246).f2.f2.f1)) ∧ w'.cell? ⟨(ad250.add ((t246).toNat * 13)).block, (ad250.add ((t246).toNat * 13)).off + 6, none⟩ = some (.int .i64 ((rd_T65 t247 t246).f2.f2.f2)) ∧ w'.cell? ⟨(ad250.add ((t246).toNat * 13)).block, (ad250.add ((t246).toNat * 13)).off + 7, none⟩ = some (.string ((rd_T65 t247 t246).f2.f2.f3)) ∧ w'.cell? ⟨(ad250.add ((t246).toNat * 13)).block, (ad250.add ((t246).toNat * 13)).off + 8, none⟩ = some (.int .i64 ((rd_T65 t247 t246).f2.f3)) ∧ w'.cell? ⟨(ad250.add ((t246).toNat * 13)).block, (ad250.add ((t246).toNat * 13)).off + 9, none⟩ = some (.int .i64 ((rd_T65 t247 t246).f3.f0)) ∧ w'.cell? ⟨(ad250.add ((t246).toNat * 13)).block, (ad250.add ((t246).toNat * 13)).off + 10, none⟩ = some (.int .i64 ((rd_T65 t247 t246).f3.f1)) ∧ w'.cell? ⟨(ad250.add ((t246).toNat * 13)).block, (ad250.add ((t246).toNat * 13)).off + 11, none⟩ = some (.int .i64 ((rd_T65 t247 t246).f3.f2)) ∧ w'.cell? ⟨(ad250.add ((t246).toNat * 13)).block, (ad250.add ((t246).toNat * 13)).off + 12, none⟩ = some (.string ((rd_T65 t247 t246).f3.f3))) (ds := []) #[false, false, false, false, false, false, false, false, false, false, false, false, false, false, false, false, false, false, false, false, false, false, false, false, false] (by kernel_rfl) rfl rfl ⟨(blk_cell BK242.out 0).trans rfl, (blk_cell BK242.out 1).trans rfl, (blk_cell BK242.out 2).trans rfl, (blk_cell BK242.out 3).trans rfl, (blk_cell BK242.out 4).trans rfl, (blk_cell BK242.out 5).trans rfl, (blk_cell BK243.out 0).trans rfl, (blk_cell BK243.out 1).trans rfl, (blk_cell BK243.out 2).trans rfl, (blk_cell BK243.out 3).trans rfl, hx250_0, hx250_1, hx250_2, hx250_3, hx250_4, hx250_5, hx250_6, hx250_7, hx250_8, hx250_9, hx250_10, hx250_11, hx250_12, hx252_0, hx252_1, hx252_2, hx252_3, hx252_4, hx252_5, hx252_6, hx252_7, hx252_8, hx252_9, hx252_10, hx252_11, hx252_12⟩ (fun hHeld => ?_); refine with_tabW signalboxref23_Hear.tab6 signalboxref23_Hear.bits6 (fun HT_ HW_ => ?_)
              generalize w19.drew = w26 at HO1 HO249 BK242 BK243 HK HB hx250_0 hx250_1 hx250_10 hx250_11 hx250_12 hx250_2 hx250_3 hx250_4 hx250_5 hx250_6 hx250_7 hx250_8 hx250_9 hx252_0 hx252_1 hx252_10 hx252_11 hx252_12 hx252_2 hx252_3 hx252_4 hx252_5 hx252_6 hx252_7 hx252_8 hx252_9 hHeld ⊢
              refine pure_ (i := 0) (N := some 25) (v := ?_) (a' := ?_) #[true, false, false, false, false, false, false, false, false, false, false, false, false, false, false, false, false, false, false, false, false, false, false, false, false] rfl rfl (any_of HT_.out (by kernel_rfl)) (fun _ _ _ h => h) (Or.inl ⟨by rfl, ?_⟩) ?_ ?_
              rotate_left
              · intro w'
                go_simp
                with_reducible rfl
              rotate_left
              · simp only [Act.put, sa_, sb_, sc_, i64_w, i32_w]; rfl
              refine pure_ (i := 1) (N := some 26) (v := ?_) (a' := ?_) #[true, true, false, false, false, false, false, false, false, false, false, false, false, false, false, false, false, false, false, false, false, false, false, false, false] rfl rfl (any_of HT_.out (by kernel_rfl)) (fun _ _ _ h => h) (Or.inl ⟨by rfl, ?_⟩) ?_ ?_
              rotate_left
              · intro w'
                go_simp
                with_reducible rfl
              rotate_left
              · simp only [Act.put, sa_, sb_, sc_, i64_w, i32_w]; rfl
              refine pure_ (i := 2) (N := some 27) (v := ?_) (a' := ?_) #[true, true, true, false, false, false, false, false, false, false, false, false, false, false, false, false, false, false, false, false, false, false, false, false, false] rfl rfl (any_of HT_.out (by kernel_rfl)) (fun _ _ _ h => h) (Or.inl ⟨by rfl, ?_⟩) ?_ ?_
              rotate_left
              · intro w'
                go_simp
                with_reducible rfl
              rotate_left
              · simp only [Act.put, sa_, sb_, sc_, i64_w, i32_w]; rfl
              refine pure_ (i := 4) (N := some 29) (v := ?_) (a' := ?_) #[true, true, true, false, true, false, false, false, false, false, false, false, false, false, false, false, false, false, false, false, false, false, false, false, false] rfl rfl (any_of HT_.out (by kernel_rfl)) (fun _ _ _ h => h) (Or.inl ⟨by rfl, ?_⟩) ?_ ?_
              rotate_left
              · intro w'
                go_simp
                with_reducible rfl
              rotate_left
              · simp only [Act.put, sa_, sb_, sc_, i64_w, i32_w]; rfl
              refine pure_ (i := 5) (N := some 30) (v := ?_) (a' := ?_) #[true, true, true, false, true, true, false, false, false, false, false, false, false, false, false, false, false, false, false, false, false, false, false, false, false] rfl rfl (any_of HT_.out (by kernel_rfl)) (fun _ _ _ h => h) (Or.inl ⟨by rfl, ?_⟩) ?_ ?_
              rotate_left
              · intro w'
                go_simp
                with_reducible rfl
              rotate_left
              · simp only [Act.put, sa_, sb_, sc_, i64_w, i32_w]; rfl
              refine pure_ (i := 6) (N := some 31) (v := ?_) (a' := ?_) #[true, true, true, false, true, true, true, false, false, false, false, false, false, false, false, false, false, false, false, false, false, false, false, false, false] rfl rfl (any_of HT_.out (by kernel_rfl)) (fun _ _ _ h => h) (Or.inl ⟨by rfl, ?_⟩) ?_ ?_
              rotate_left
              · intro w'
                go_simp
                with_reducible rfl
              rotate_left
              · simp only [Act.put, sa_, sb_, sc_, i64_w, i32_w]; rfl
              refine pure_ (i := 7) (N := some 32) (v := ?_) (a' := ?_) #[true, true, true, false, true, true, true, true, false, false, false, false, false, false, false, false, false, false, false, false, false, false, false, false, false] rfl rfl (any_of HT_.out (by kernel_rfl)) (fun _ _ _ h => h) (Or.inl ⟨by rfl, ?_⟩) ?_ ?_
              rotate_left
              · intro w'
                go_simp
                with_reducible rfl
              rotate_left
              · simp only [Act.put, sa_, sb_, sc_, i64_w, i32_w]; rfl
              refine pure_ (i := 8) (N := some 33) (v := ?_) (a' := ?_) #[true, true, true, false, true, true, true, true, true, false, false, false, false, false, false, false, false, false, false, false, false, false, false, false, false] rfl rfl (any_of HT_.out (by kernel_rfl)) (fun _ _ _ h => h) (Or.inl ⟨by rfl, ?_⟩) ?_ ?_
              rotate_left
              · intro w'
                go_simp
                with_reducible rfl
              rotate_left
              · simp only [Act.put, sa_, sb_, sc_, i64_w, i32_w]; rfl
              refine take_ (i := 3) (N := some 28) (v := ?_) (a' := ?_) #[true, true, true, true, true, true, true, true, true, false, false, false, false, false, false, false, false, false, false, false, false, false, false, false, false] rfl rfl (take_ofW HT_.out HW_.out (by kernel_rfl)) (fun _ _ _ h => h) (Or.inl ⟨by rfl, ?_⟩) hHeld ?_ ?_
              rotate_left
              · rintro w' ⟨s0, s1, s2, s3, s4, s5, s6, s7, s8, s9, s10, s11, s12, s13, s14, s15, s16, s17, s18, s19, s20, s21, s22, s23, s24, s25, s26, s27, s28, s29, s30, s31, s32, s33, s34, s35⟩
                go_simp
                with_reducible rfl
              rotate_left
              · simp only [Act.put, sa_, sb_, sc_, i64_w, i32_w]; rfl
              refine take_ (i := 9) (N := some 34) (v := ?_) (a' := ?_) #[true, true, true, true, true, true, true, true, true, true, false, false, false, false, false, false, false, false, false, false, false, false, false, false, false] rfl rfl (take_ofW HT_.out HW_.out (by kernel_rfl)) (fun _ _ _ h => h) (Or.inl ⟨by rfl, ?_⟩) hHeld ?_ ?_
              rotate_left
              · rintro w' ⟨s0, s1, s2, s3, s4, s5, s6, s7, s8, s9, s10, s11, s12, s13, s14, s15, s16, s17, s18, s19, s20, s21, s22, s23, s24, s25, s26, s27, s28, s29, s30, s31, s32, s33, s34, s35⟩
                go_simp
                with_reducible rfl
              rotate_left
              · simp only [Act.put, sa_, sb_, sc_, i64_w, i32_w]; rfl
              refine take_ (i := 10) (N := some 35) (v := ?_) (a' := ?_) #[true, true, true, true, true, true, true, true, true, true, true, false, false, false, false, false, false, false, false, false, false, false, false, false, false] rfl rfl (take_ofW HT_.out HW_.out (by kernel_rfl)) (fun _ _ _ h => h) (Or.inl ⟨by rfl, ?_⟩) hHeld ?_ ?_
              rotate_left
              · rintro w' ⟨s0, s1, s2, s3, s4, s5, s6, s7, s8, s9, s10, s11, s12, s13, s14, s15, s16, s17, s18, s19, s20, s21, s22, s23, s24, s25, s26, s27, s28, s29, s30, s31, s32, s33, s34, s35⟩
                go_simp
                with_reducible rfl
              rotate_left
              · simp only [Act.put, sa_, sb_, sc_, i64_w, i32_w]; rfl
              refine one_ (i := 11) (N := some 36) #[true, true, true, true, true, true, true, true, true, true, true, true, false, false, false, false, false, false, false, false, false, false, false, false, false] rfl rfl (one_of HT_.out (by kernel_rfl)) (by decide) (fun K hK => ?_)
              refine goes_ Try.func16 (by kernel_rfl) rfl #[.agg #[.int .u32 a0_0, .int .u32 a0_1, .bool a0_2, .string a0_3, .int .i64 a0_4, .int .i64 a0_5], .agg #[.int .i64 ((rd_T65 t247 t246).f2.f2.f0), .int .i64 ((rd_T65 t247 t246).f2.f2.f1), .int .i64 ((rd_T65 t247 t246).f2.f2.f2), .string ((rd_T65 t247 t246).f2.f2.f3)], .agg #[.int .i64 a3_0, .int .i64 a3_1, .int .i64 a3_2, .string a3_3]] (by rfl) rfl rfl (by (try simp only [List.map_toArray, List.map_cons, List.map_nil]); first | done | rfl | (simp only [List.length_drop, List.length_take]; rfl)) ?_
              with_reducible refine (signalboxref23_Differ.calls k a0_0 a0_1 a0_2 a0_3 a0_4 a0_5 ((rd_T65 t247 t246).f2.f2.f0) ((rd_T65 t247 t246).f2.f2.f1) ((rd_T65 t247 t246).f2.f2.f2) ((rd_T65 t247 t246).f2.f2.f3) a3_0 a3_1 a3_2 a3_3 true _ A24.out).mono ?_
              rintro e w28 ⟨rfl, hb⟩
              have HS10_ := (hb.cell (World.block_lt_of_cell? _ _ (hHeld.2.2.2.2.2.2.2.2.2.2.1))).trans (hHeld.2.2.2.2.2.2.2.2.2.2.1)
              have HS11_ := (hb.cell (World.block_lt_of_cell? _ _ (hHeld.2.2.2.2.2.2.2.2.2.2.2.1))).trans (hHeld.2.2.2.2.2.2.2.2.2.2.2.1)
              have HS12_ := (hb.cell (World.block_lt_of_cell? _ _ (hHeld.2.2.2.2.2.2.2.2.2.2.2.2.1))).trans (hHeld.2.2.2.2.2.2.2.2.2.2.2.2.1)
              have HS13_ := (hb.cell (World.block_lt_of_cell? _ _ (hHeld.2.2.2.2.2.2.2.2.2.2.2.2.2.1))).trans (hHeld.2.2.2.2.2.2.2.2.2.2.2.2.2.1)
              have HS14_ := (hb.cell (World.block_lt_of_cell? _ _ (hHeld.2.2.2.2.2.2.2.2.2.2.2.2.2.2.1))).trans (hHeld.2.2.2.2.2.2.2.2.2.2.2.2.2.2.1)
              have HS15_ := (hb.cell (World.block_lt_of_cell? _ _ (hHeld.2.2.2.2.2.2.2.2.2.2.2.2.2.2.2.1))).trans (hHeld.2.2.2.2.2.2.2.2.2.2.2.2.2.2.2.1)
              have HS16_ := (hb.cell (World.block_lt_of_cell? _ _ (hHeld.2.2.2.2.2.2.2.2.2.2.2.2.2.2.2.2.1))).trans (hHeld.2.2.2.2.2.2.2.2.2.2.2.2.2.2.2.2.1)
              have HS17_ := (hb.cell (World.block_lt_of_cell? _ _ (hHeld.2.2.2.2.2.2.2.2.2.2.2.2.2.2.2.2.2.1))).trans (hHeld.2.2.2.2.2.2.2.2.2.2.2.2.2.2.2.2.2.1)
              have HS18_ := (hb.cell (World.block_lt_of_cell? _ _ (hHeld.2.2.2.2.2.2.2.2.2.2.2.2.2.2.2.2.2.2.1))).trans (hHeld.2.2.2.2.2.2.2.2.2.2.2.2.2.2.2.2.2.2.1)
              have HS19_ := (hb.cell (World.block_lt_of_cell? _ _ (hHeld.2.2.2.2.2.2.2.2.2.2.2.2.2.2.2.2.2.2.2.1))).trans (hHeld.2.2.2.2.2.2.2.2.2.2.2.2.2.2.2.2.2.2.2.1)
              have HS20_ := (hb.cell (World.block_lt_of_cell? _ _ (hHeld.2.2.2.2.2.2.2.2.2.2.2.2.2.2.2.2.2.2.2.2.1))).trans (hHeld.2.2.2.2.2.2.2.2.2.2.2.2.2.2.2.2.2.2.2.2.1)
              have HS21_ := (hb.cell (World.block_lt_of_cell? _ _ (hHeld.2.2.2.2.2.2.2.2.2.2.2.2.2.2.2.2.2.2.2.2.2.1))).trans (hHeld.2.2.2.2.2.2.2.2.2.2.2.2.2.2.2.2.2.2.2.2.2.1)
              have HS22_ := (hb.cell (World.block_lt_of_cell? _ _ (hHeld.2.2.2.2.2.2.2.2.2.2.2.2.2.2.2.2.2.2.2.2.2.2.1))).trans (hHeld.2.2.2.2.2.2.2.2.2.2.2.2.2.2.2.2.2.2.2.2.2.2.1)
              have HS23_ := (hb.cell (World.block_lt_of_cell? _ _ (hHeld.2.2.2.2.2.2.2.2.2.2.2.2.2.2.2.2.2.2.2.2.2.2.2.1))).trans (hHeld.2.2.2.2.2.2.2.2.2.2.2.2.2.2.2.2.2.2.2.2.2.2.2.1)
              have HS24_ := (hb.cell (World.block_lt_of_cell? _ _ (hHeld.2.2.2.2.2.2.2.2.2.2.2.2.2.2.2.2.2.2.2.2.2.2.2.2.1))).trans (hHeld.2.2.2.2.2.2.2.2.2.2.2.2.2.2.2.2.2.2.2.2.2.2.2.2.1)
              have HS25_ := (hb.cell (World.block_lt_of_cell? _ _ (hHeld.2.2.2.2.2.2.2.2.2.2.2.2.2.2.2.2.2.2.2.2.2.2.2.2.2.1))).trans (hHeld.2.2.2.2.2.2.2.2.2.2.2.2.2.2.2.2.2.2.2.2.2.2.2.2.2.1)
              have HS26_ := (hb.cell (World.block_lt_of_cell? _ _ (hHeld.2.2.2.2.2.2.2.2.2.2.2.2.2.2.2.2.2.2.2.2.2.2.2.2.2.2.1))).trans (hHeld.2.2.2.2.2.2.2.2.2.2.2.2.2.2.2.2.2.2.2.2.2.2.2.2.2.2.1)
              have HS27_ := (hb.cell (World.block_lt_of_cell? _ _ (hHeld.2.2.2.2.2.2.2.2.2.2.2.2.2.2.2.2.2.2.2.2.2.2.2.2.2.2.2.1))).trans (hHeld.2.2.2.2.2.2.2.2.2.2.2.2.2.2.2.2.2.2.2.2.2.2.2.2.2.2.2.1)
              have HS28_ := (hb.cell (World.block_lt_of_cell? _ _ (hHeld.2.2.2.2.2.2.2.2.2.2.2.2.2.2.2.2.2.2.2.2.2.2.2.2.2.2.2.2.1))).trans (hHeld.2.2.2.2.2.2.2.2.2.2.2.2.2.2.2.2.2.2.2.2.2.2.2.2.2.2.2.2.1)
              have HS29_ := (hb.cell (World.block_lt_of_cell? _ _ (hHeld.2.2.2.2.2.2.2.2.2.2.2.2.2.2.2.2.2.2.2.2.2.2.2.2.2.2.2.2.2.1))).trans (hHeld.2.2.2.2.2.2.2.2.2.2.2.2.2.2.2.2.2.2.2.2.2.2.2.2.2.2.2.2.2.1)
              have HS30_ := (hb.cell (World.block_lt_of_cell? _ _ (hHeld.2.2.2.2.2.2.2.2.2.2.2.2.2.2.2.2.2.2.2.2.2.2.2.2.2.2.2.2.2.2.1))).trans (hHeld.2.2.2.2.2.2.2.2.2.2.2.2.2.2.2.2.2.2.2.2.2.2.2.2.2.2.2.2.2.2.1)
              have HS31_ := (hb.cell (World.block_lt_of_cell? _ _ (hHeld.2.2.2.2.2.2.2.2.2.2.2.2.2.2.2.2.2.2.2.2.2.2.2.2.2.2.2.2.2.2.2.1))).trans (hHeld.2.2.2.2.2.2.2.2.2.2.2.2.2.2.2.2.2.2.2.2.2.2.2.2.2.2.2.2.2.2.2.1)
              have HS32_ := (hb.cell (World.block_lt_of_cell? _ _ (hHeld.2.2.2.2.2.2.2.2.2.2.2.2.2.2.2.2.2.2.2.2.2.2.2.2.2.2.2.2.2.2.2.2.1))).trans (hHeld.2.2.2.2.2.2.2.2.2.2.2.2.2.2.2.2.2.2.2.2.2.2.2.2.2.2.2.2.2.2.2.2.1)
              have HS33_ := (hb.cell (World.block_lt_of_cell? _ _ (hHeld.2.2.2.2.2.2.2.2.2.2.2.2.2.2.2.2.2.2.2.2.2.2.2.2.2.2.2.2.2.2.2.2.2.1))).trans (hHeld.2.2.2.2.2.2.2.2.2.2.2.2.2.2.2.2.2.2.2.2.2.2.2.2.2.2.2.2.2.2.2.2.2.1)
              have HS34_ := (hb.cell (World.block_lt_of_cell? _ _ (hHeld.2.2.2.2.2.2.2.2.2.2.2.2.2.2.2.2.2.2.2.2.2.2.2.2.2.2.2.2.2.2.2.2.2.2.1))).trans (hHeld.2.2.2.2.2.2.2.2.2.2.2.2.2.2.2.2.2.2.2.2.2.2.2.2.2.2.2.2.2.2.2.2.2.2.1)
              have HS35_ := (hb.cell (World.block_lt_of_cell? _ _ (hHeld.2.2.2.2.2.2.2.2.2.2.2.2.2.2.2.2.2.2.2.2.2.2.2.2.2.2.2.2.2.2.2.2.2.2.2))).trans (hHeld.2.2.2.2.2.2.2.2.2.2.2.2.2.2.2.2.2.2.2.2.2.2.2.2.2.2.2.2.2.2.2.2.2.2.2)
              refine ⟨_, rfl, ?_⟩
              have n0_ := Aside0.mk (Kd.R_below (pr HO1) hb)
              have n1_ := Aside0.mk (Kd.R_below (pr HO249) hb)
              have n2_ := Aside0.mk (blk_below (pb BK242) hb)
              have n3_ := Aside0.mk (blk_below (pb BK243) hb)
              have n4_ := Aside0.mk (Kept.below (S := (fun k_ => P1_ k_)) (by repeat (first | (with_reducible first | exact HK.out | apply Kept.alloc | apply Kept.drewN | apply Kept.drew | refine Kept.setCell ?_ (.inr GW242.out) _ | refine Kept.setCell ?_ (.inr GW243.out) _) | exact HK.out)) hb)
              have n5_ := Aside0.mk (below_step (by repeat (first | (with_reducible first | exact HB.out | apply ba_ | apply bd_ | apply be_ | refine below_set ?_ GE242.out | refine below_set ?_ GE243.out) | exact HB.out)) hb)
              clear HO1; clear HO249; clear BK242; clear BK243; clear HK; clear HB; have HO1 := n0_
              have HO249 := n1_
              have BK242 := n2_
              have BK243 := n3_
              have HK := n4_
              have HB := n5_
              clear n0_ n1_ n2_ n3_ n4_ n5_; (try clear hb); (try clear hb2); (try clear hk); (try clear hi); refine hK.out _ _ ⟨(blk_cell BK242.out 0).trans rfl, (blk_cell BK242.out 1).trans rfl, (blk_cell BK242.out 2).trans rfl, (blk_cell BK242.out 3).trans rfl, (blk_cell BK242.out 4).trans rfl, (blk_cell BK242.out 5).trans rfl, (blk_cell BK243.out 0).trans rfl, (blk_cell BK243.out 1).trans rfl, (blk_cell BK243.out 2).trans rfl, (blk_cell BK243.out 3).trans rfl, HS10_, HS11_, HS12_, HS13_, HS14_, HS15_, HS16_, HS17_, HS18_, HS19_, HS20_, HS21_, HS22_, HS23_, HS24_, HS25_, HS26_, HS27_, HS28_, HS29_, HS30_, HS31_, HS32_, HS33_, HS34_, HS35_⟩ (fun hHeld => ?_)
              clear hK K; refine norm_ (a' := ?_) ?_ ?_
              rotate_left
              · show Act.put _ (some 36) _ = _
                simp only [Act.put, sa_, sb_, sc_, i64_w, i32_w]
                rfl
              refine pure_ (i := 12) (N := some 37) (v := ?_) (a' := ?_) #[true, true, true, true, true, true, true, true, true, true, true, true, true, false, false, false, false, false, false, false, false, false, false, false, false] rfl rfl (any_of HT_.out (by kernel_rfl)) (fun _ _ _ h => h) (Or.inl ⟨by rfl, ?_⟩) ?_ ?_
              rotate_left
              · intro w'
                go_simp
                with_reducible rfl
              rotate_left
              · simp only [Act.put, sa_, sb_, sc_, i64_w, i32_w]; rfl
              refine pure_ (i := 13) (N := some 38) (v := ?_) (a' := ?_) #[true, true, true, true, true, true, true, true, true, true, true, true, true, true, false, false, false, false, false, false, false, false, false, false, false] rfl rfl (any_of HT_.out (by kernel_rfl)) (fun _ _ _ h => h) (Or.inl ⟨by rfl, ?_⟩) ?_ ?_
              rotate_left
              · intro w'
                go_simp
                with_reducible rfl
              rotate_left
              · simp only [Act.put, sa_, sb_, sc_, i64_w, i32_w]; rfl
              refine pure_ (i := 14) (N := some 39) (v := ?_) (a' := ?_) #[true, true, true, true, true, true, true, true, true, true, true, true, true, true, true, false, false, false, false, false, false, false, false, false, false] rfl rfl (any_of HT_.out (by kernel_rfl)) (fun _ _ _ h => h) (Or.inl ⟨by rfl, ?_⟩) ?_ ?_
              rotate_left
              · intro w'
                go_simp
                with_reducible rfl
              rotate_left
              · simp only [Act.put, sa_, sb_, sc_, i64_w, i32_w]; rfl
              refine pure_ (i := 15) (N := some 40) (v := ?_) (a' := ?_) #[true, true, true, true, true, true, true, true, true, true, true, true, true, true, true, true, false, false, false, false, false, false, false, false, false] rfl rfl (any_of HT_.out (by kernel_rfl)) (fun _ _ _ h => h) (Or.inl ⟨by rfl, ?_⟩) ?_ ?_
              rotate_left
              · intro w'
                go_simp
                with_reducible rfl
              rotate_left
              · simp only [Act.put, sa_, sb_, sc_, i64_w, i32_w]; rfl
              refine pure_ (i := 16) (N := some 41) (v := ?_) (a' := ?_) #[true, true, true, true, true, true, true, true, true, true, true, true, true, true, true, true, true, false, false, false, false, false, false, false, false] rfl rfl (any_of HT_.out (by kernel_rfl)) (fun _ _ _ h => h) (Or.inl ⟨by rfl, ?_⟩) ?_ ?_
              rotate_left
              · intro w'
                go_simp
                with_reducible rfl
              rotate_left
              · simp only [Act.put, sa_, sb_, sc_, i64_w, i32_w]; rfl
              refine pure_ (i := 17) (N := some 42) (v := ?_) (a' := ?_) #[true, true, true, true, true, true, true, true, true, true, true, true, true, true, true, true, true, true, false, false, false, false, false, false, false] rfl rfl (any_of HT_.out (by kernel_rfl)) (fun _ _ _ h => h) (Or.inl ⟨by rfl, ?_⟩) ?_ ?_
              rotate_left
              · intro w'
                go_simp
                with_reducible rfl
              rotate_left
              · simp only [Act.put, sa_, sb_, sc_, i64_w, i32_w]; rfl
              refine pure_ (i := 20) (N := some 45) (v := ?_) (a' := ?_) #[true, true, true, true, true, true, true, true, true, true, true, true, true, true, true, true, true, true, false, false, true, false, false, false, false] rfl rfl (any_of HT_.out (by kernel_rfl)) (fun _ _ _ h => h) (Or.inl ⟨by rfl, ?_⟩) ?_ ?_
              rotate_left
              · intro w'
                go_simp
                with_reducible rfl
              rotate_left
              · simp only [Act.put, sa_, sb_, sc_, i64_w, i32_w]; rfl
              refine take_ (i := 18) (N := some 43) (v := ?_) (a' := ?_) #[true, true, true, true, true, true, true, true, true, true, true, true, true, true, true, true, true, true, true, false, true, false, false, false, false] rfl rfl (take_ofW HT_.out HW_.out (by kernel_rfl)) (fun _ _ _ h => h) (Or.inl ⟨by rfl, ?_⟩) hHeld ?_ ?_
              rotate_left
              · rintro w' ⟨s0, s1, s2, s3, s4, s5, s6, s7, s8, s9, s10, s11, s12, s13, s14, s15, s16, s17, s18, s19, s20, s21, s22, s23, s24, s25, s26, s27, s28, s29, s30, s31, s32, s33, s34, s35⟩
                go_simp
                with_reducible rfl
              rotate_left
              · simp only [Act.put, sa_, sb_, sc_, i64_w, i32_w]; rfl
              refine pure_ (i := 19) (N := some 44) (v := ?_) (a' := ?_) #[true, true, true, true, true, true, true, true, true, true, true, true, true, true, true, true, true, true, true, true, true, false, false, false, false] rfl rfl (any_of HT_.out (by kernel_rfl)) (fun _ _ _ h => h) (Or.inl ⟨by rfl, ?_⟩) ?_ ?_
              rotate_left
              · intro w'
                go_simp
                with_reducible rfl
              rotate_left
              · simp only [Act.put, sa_, sb_, sc_, i64_w, i32_w]; rfl
              refine take_ (i := 21) (N := some 46) (v := ?_) (a' := ?_) #[true, true, true, true, true, true, true, true, true, true, true, true, true, true, true, true, true, true, true, true, true, true, false, false, false] rfl rfl (take_ofW HT_.out HW_.out (by kernel_rfl)) (fun _ _ _ h => h) (Or.inl ⟨by rfl, ?_⟩) hHeld ?_ ?_
              rotate_left
              · rintro w' ⟨s0, s1, s2, s3, s4, s5, s6, s7, s8, s9, s10, s11, s12, s13, s14, s15, s16, s17, s18, s19, s20, s21, s22, s23, s24, s25, s26, s27, s28, s29, s30, s31, s32, s33, s34, s35⟩
                go_simp
                with_reducible rfl
              rotate_left
              · simp only [Act.put, sa_, sb_, sc_, i64_w, i32_w]; rfl
              refine pure_ (i := 22) (N := some 47) (v := ?_) (a' := ?_) #[true, true, true, true, true, true, true, true, true, true, true, true, true, true, true, true, true, true, true, true, true, true, true, false, false] rfl rfl (any_of HT_.out (by kernel_rfl)) (fun _ _ _ h => h) (Or.inl ⟨by rfl, ?_⟩) ?_ ?_
              rotate_left
              · intro w'
                go_simp
                with_reducible rfl
              rotate_left
              · simp only [Act.put, sa_, sb_, sc_, i64_w, i32_w]; rfl
              refine pure_ (i := 23) (N := some 48) (v := ?_) (a' := ?_) #[true, true, true, true, true, true, true, true, true, true, true, true, true, true, true, true, true, true, true, true, true, true, true, true, false] rfl rfl (any_of HT_.out (by kernel_rfl)) (fun _ _ _ h => h) (Or.inl ⟨by rfl, ?_⟩) ?_ ?_
              rotate_left
              · intro w'
                go_simp
                with_reducible rfl
              rotate_left
              · simp only [Act.put, sa_, sb_, sc_, i64_w, i32_w]; rfl
              refine pure_ (i := 24) (N := some 49) (v := ?_) (a' := ?_) #[true, true, true, true, true, true, true, true, true, true, true, true, true, true, true, true, true, true, true, true, true, true, true, true, true] rfl rfl (any_of HT_.out (by kernel_rfl)) (fun _ _ _ h => h) (Or.inl ⟨by rfl, ?_⟩) ?_ ?_
              rotate_left
              · intro w'
                go_simp
                with_reducible rfl
              rotate_left
              · simp only [Act.put, sa_, sb_, sc_, i64_w, i32_w]; rfl
              refine done_ (done_of HT_.out (by kernel_rfl)) ?_
              try go_wp2
              go_meet
              case rel => exact ⟨_, (decide ((wrap64 (t245 - ((rd_T65 t247 t246).f0))) ≥ a0_4)), (by first | rfl | (simp; done) | (simp [*]; done) | (simp [i64_w]; done)), H', ⟨by first | omega | exact Nat.le_refl _⟩, ⟨by (with_reducible repeat (first | apply Kd.R_alloc | apply Kd.R_drewN | apply Kd.R_drew)); exact Kd.R_mono HO249.out (fun _ hk => hk.1.1)⟩, ⟨by (with_reducible repeat (first | refine kd_ ?_ _ | refine ke_ ?_ | refine ka_ ?_ _)); exact BK242.out⟩, ⟨by (with_reducible repeat (first | refine kd_ ?_ _ | refine ke_ ?_ | refine ka_ ?_ _)); exact BK243.out⟩, ⟨by repeat (first | (with_reducible first | exact HK.out | apply Kept.alloc | apply Kept.drewN | apply Kept.drew | refine Kept.setCell ?_ (.inr GW242.out) _ | refine Kept.setCell ?_ (.inr GW243.out) _) | exact HK.out)⟩, ⟨by repeat (first | (with_reducible first | exact HB.out | apply ba_ | apply bd_ | apply be_ | refine below_set ?_ GE242.out | refine below_set ?_ GE243.out) | exact HB.out)⟩⟩
            · replace c25 := Bool.eq_false_iff.mpr c25
              subst c25; have H1 : (signalboxref23_Hear.j0 k t247 t245 false a0_0 a0_1 a0_2 a0_3 a0_4 a0_5 a3_0 a3_1 a3_2 a3_3) = some r := by rw [if_neg (show ¬ (false = true) by decide)] at H; exact H
              clear H; have H := H1
              clear H1; have H' := Aside0.mk H; clear H; try go_wp2
              have n0_ := Aside0.mk (Kd.R_drew HO1.out)
              have n1_ := Aside0.mk (Kd.R_drew HO249.out)
              have n2_ := Aside0.mk (blk_drew BK242.out)
              have n3_ := Aside0.mk (blk_drew BK243.out)
              have n4_ := Aside0.mk (Kept.drew HK.out)
              have n5_ := Aside0.mk (below_drew1 HB.out)
              clear HO1; clear HO249; clear BK242; clear BK243; clear HK; clear HB; have HO1 := n0_
              have HO249 := n1_
              have BK242 := n2_
              have BK243 := n3_
              have HK := n4_
              have HB := n5_
              clear n0_ n1_ n2_ n3_ n4_ n5_; obtain ⟨Ao30, co30, eo30⟩ := Kd.R_slice HO249.out
              (first | subst eo30 | (injection eo30 with f1_ f2_ f3_; have f4_ := f1_.symm; have f5_ := f3_.symm; clear f1_ f2_ f3_; subst f4_; subst f5_))
              have p250 : 0 ≤ (t246 : Int) := of_decide_eq_true (by first | (with_reducible assumption) | assumption)
              have q250 : t246 < (t247.length : Int) := of_decide_eq_true (by first | (with_reducible assumption) | assumption)
              obtain ⟨ad250, e250, hx250_0, hx250_1, hx250_2, hx250_3, hx250_4, hx250_5, hx250_6, hx250_7, hx250_8, hx250_9, hx250_10, hx250_11, hx250_12⟩ := at_T65 (Kd.R_reads' HO249.out).2.2 t246 p250 q250
              cases e250
              replace p250 := eq_true p250
              replace q250 := eq_true q250
              refine start_ (n := 25) (S := fun w' => w'.cell? ⟨gb242, 0, none⟩ = some (.int .u32 a0_0) ∧ w'.cell? ⟨gb242, 1, none⟩ = some (.int .u32 a0_1) ∧ w'.cell? ⟨gb242, 2, none⟩ = some (.bool a0_2) ∧ w'.cell? ⟨gb242, 3, none⟩ = some (.string a0_3) ∧ w'.cell? ⟨gb242, 4, none⟩ = some (.int .i64 a0_4) ∧ w'.cell? ⟨gb242, 5, none⟩ = some (.int .i64 a0_5) ∧ w'.cell? ⟨gb243, 0, none⟩ = some (.int .i64 a3_0) ∧ w'.cell? ⟨gb243, 1, none⟩ = some (.int .i64 a3_1) ∧ w'.cell? ⟨gb243, 2, none⟩ = some (.int .i64 a3_2) ∧ w'.cell? ⟨gb243, 3, none⟩ = some (.string a3_3) ∧ w'.cell? (ad250.add ((t246).toNat * 13)) = some (.int .i64 ((rd_T65 t247 t246).f0)) ∧ w'.cell? ⟨(ad250.add ((t246).toNat * 13)).block, (ad250.add ((t246).toNat * 13)).off + 1, none⟩ = some (.bool ((rd_T65 t247 t246).f1)) ∧ w'.cell? ⟨(ad250.add ((t246).toNat * 13)).block, (ad250.add ((t246).toNat * 13)).off + 2, none⟩ = some (.int .i64 ((rd_T65 t247 t246).f2.f0)) ∧ w'.cell? ⟨(ad250.add ((t246).toNat * 13)).block, (ad250.add ((t246).toNat * 13)).off + 3, none⟩ = some (.int .i64 ((rd_T65 t247 t246).f2.f1)) ∧ w'.cell? ⟨(ad250.add ((t246).toNat * 13)).block, (ad250.add ((t246).toNat * 13)).off + 4, none⟩ = some (.int .i64 ((rd_T65 t247 t246).f2.f2.f0)) ∧ w'.cell? ⟨(ad250.add ((t246).toNat * 13)).block, (ad250.add ((t246).toNat * 13)).off + 5, none⟩ = some (.int .i64 ((rd_T65 t247 t246).f2.f2.f1)) ∧ w'.cell? ⟨(ad250.add ((t246).toNat * 13)).block, (ad250.add ((t246).toNat * 13)).off + 6, none⟩ = some (.int .i64 ((rd_T65 t247 t246).f2.f2.f2)) ∧ w'.cell? ⟨(ad250.add ((t246).toNat * 13)).block, (ad250.add ((t246).toNat * 13)).off + 7, none⟩ = some (.string ((rd_T65 t247 t246).f2.f2.f3)) ∧ w'.cell? ⟨(ad250.add ((t246).toNat * 13)).block, (ad250.add ((t246).toNat * 13)).off + 8, none⟩ = some (.int .i64 ((rd_T65 t247 t246).f2.f3)) ∧ w'.cell? ⟨(ad250.add ((t246).toNat * 13)).block, (ad250.add ((t246).toNat * 13)).off + 9, none⟩ = some (.int .i64 ((rd_T65 t247 t246).f3.f0)) ∧ w'.cell? ⟨(ad250.add ((t246).toNat * 13)).block, (ad250.add ((t246).toNat * 13)).off + 10, none⟩ = some (.int .i64 ((rd_T65 t247 t246).f3.f1)) ∧ w'.cell? ⟨(ad250.add ((t246).toNat * 13)).block, (ad250.add ((t246).toNat * 13)).off + 11, none⟩ = some (.int .i64 ((rd_T65 t247 t246).f3.f2)) ∧ w'.cell? ⟨(ad250.add ((t246).toNat * 13)).block, (ad250.add ((t246).toNat * 13)).off + 12, none⟩ = some (.string ((rd_T65 t247 t246).f3.f3))) (ds := []) #[false, false, false, false, false, false, false, false, false, false, false, false, false, false, false, false, false, false, false, false, false, false, false, false, false] (by kernel_rfl) rfl rfl ⟨(blk_cell BK242.out 0).trans rfl, (blk_cell BK242.out 1).trans rfl, (blk_cell BK242.out 2).trans rfl, (blk_cell BK242.out 3).trans rfl, (blk_cell BK242.out 4).trans rfl, (blk_cell BK242.out 5).trans rfl, (blk_cell BK243.out 0).trans rfl, (blk_cell BK243.out 1).trans rfl, (blk_cell BK243.out 2).trans rfl, (blk_cell BK243.out 3).trans rfl, hx250_0, hx250_1, hx250_2, hx250_3, hx250_4, hx250_5, hx250_6, hx250_7, hx250_8, hx250_9, hx250_10, hx250_11, hx250_12⟩ (fun hHeld => ?_); refine with_tabW signalboxref23_Hear.tab6 signalboxref23_Hear.bits6 (fun HT_ HW_ => ?_)
              generalize w19.drew = w29 at HO1 HO249 BK242 BK243 HK HB hx250_0 hx250_1 hx250_10 hx250_11 hx250_12 hx250_2 hx250_3 hx250_4 hx250_5 hx250_6 hx250_7 hx250_8 hx250_9 hHeld ⊢
              refine pure_ (i := 0) (N := some 25) (v := ?_) (a' := ?_) #[true, false, false, false, false, false, false, false, false, false, false, false, false, false, false, false, false, false, false, false, false, false, false, false, false] rfl rfl (any_of HT_.out (by kernel_rfl)) (fun _ _ _ h => h) (Or.inl ⟨by rfl, ?_⟩) ?_ ?_
              rotate_left
              · intro w'
                go_simp
                with_reducible rfl
              rotate_left
              · simp only [Act.put, sa_, sb_, sc_, i64_w, i32_w]; rfl
              refine pure_ (i := 1) (N := some 26) (v := ?_) (a' := ?_) #[true, true, false, false, false, false, false, false, false, false, false, false, false, false, false, false, false, false, false, false, false, false, false, false, false] rfl rfl (any_of HT_.out (by kernel_rfl)) (fun _ _ _ h => h) (Or.inl ⟨by rfl, ?_⟩) ?_ ?_
              rotate_left
              · intro w'
                go_simp
                with_reducible rfl
              rotate_left
              · simp only [Act.put, sa_, sb_, sc_, i64_w, i32_w]; rfl
              refine pure_ (i := 2) (N := some 27) (v := ?_) (a' := ?_) #[true, true, true, false, false, false, false, false, false, false, false, false, false, false, false, false, false, false, false, false, false, false, false, false, false] rfl rfl (any_of HT_.out (by kernel_rfl)) (fun _ _ _ h => h) (Or.inl ⟨by rfl, ?_⟩) ?_ ?_
              rotate_left
              · intro w'
                go_simp
                with_reducible rfl
              rotate_left
              · simp only [Act.put, sa_, sb_, sc_, i64_w, i32_w]; rfl
              refine pure_ (i := 4) (N := some 29) (v := ?_) (a' := ?_) #[true, true, true, false, true, false, false, false, false, false, false, false, false, false, false, false, false, false, false, false, false, false, false, false, false] rfl rfl (any_of HT_.out (by kernel_rfl)) (fun _ _ _ h => h) (Or.inl ⟨by rfl, ?_⟩) ?_ ?_
              rotate_left
              · intro w'
                go_simp
                with_reducible rfl
              rotate_left
              · simp only [Act.put, sa_, sb_, sc_, i64_w, i32_w]; rfl
              refine pure_ (i := 5) (N := some 30) (v := ?_) (a' := ?_) #[true, true, true, false, true, true, false, false, false, false, false, false, false, false, false, false, false, false, false, false, false, false, false, false, false] rfl rfl (any_of HT_.out (by kernel_rfl)) (fun _ _ _ h => h) (Or.inl ⟨by rfl, ?_⟩) ?_ ?_
              rotate_left
              · intro w'
                go_simp
                with_reducible rfl
              rotate_left
              · simp only [Act.put, sa_, sb_, sc_, i64_w, i32_w]; rfl
              refine pure_ (i := 6) (N := some 31) (v := ?_) (a' := ?_) #[true, true, true, false, true, true, true, false, false, false, false, false, false, false, false, false, false, false, false, false, false, false, false, false, false] rfl rfl (any_of HT_.out (by kernel_rfl)) (fun _ _ _ h => h) (Or.inl ⟨by rfl, ?_⟩) ?_ ?_
              rotate_left
              · intro w'
                go_simp
                with_reducible rfl
              rotate_left
              · simp only [Act.put, sa_, sb_, sc_, i64_w, i32_w]; rfl
              refine pure_ (i := 7) (N := some 32) (v := ?_) (a' := ?_) #[true, true, true, false, true, true, true, true, false, false, false, false, false, false, false, false, false, false, false, false, false, false, false, false, false] rfl rfl (any_of HT_.out (by kernel_rfl)) (fun _ _ _ h => h) (Or.inl ⟨by rfl, ?_⟩) ?_ ?_
              rotate_left
              · intro w'
                go_simp
                with_reducible rfl
              rotate_left
              · simp only [Act.put, sa_, sb_, sc_, i64_w, i32_w]; rfl
              refine pure_ (i := 8) (N := some 33) (v := ?_) (a' := ?_) #[true, true, true, false, true, true, true, true, true, false, false, false, false, false, false, false, false, false, false, false, false, false, false, false, false] rfl rfl (any_of HT_.out (by kernel_rfl)) (fun _ _ _ h => h) (Or.inl ⟨by rfl, ?_⟩) ?_ ?_
              rotate_left
              · intro w'
                go_simp
                with_reducible rfl
              rotate_left
              · simp only [Act.put, sa_, sb_, sc_, i64_w, i32_w]; rfl
              refine take_ (i := 3) (N := some 28) (v := ?_) (a' := ?_) #[true, true, true, true, true, true, true, true, true, false, false, false, false, false, false, false, false, false, false, false, false, false, false, false, false] rfl rfl (take_ofW HT_.out HW_.out (by kernel_rfl)) (fun _ _ _ h => h) (Or.inl ⟨by rfl, ?_⟩) hHeld ?_ ?_
              rotate_left
              · rintro w' ⟨s0, s1, s2, s3, s4, s5, s6, s7, s8, s9, s10, s11, s12, s13, s14, s15, s16, s17, s18, s19, s20, s21, s22⟩
                go_simp
                with_reducible rfl
              rotate_left
              · simp only [Act.put, sa_, sb_, sc_, i64_w, i32_w]; rfl
              refine take_ (i := 9) (N := some 34) (v := ?_) (a' := ?_) #[true, true, true, true, true, true, true, true, true, true, false, false, false, false, false, false, false, false, false, false, false, false, false, false, false] rfl rfl (take_ofW HT_.out HW_.out (by kernel_rfl)) (fun _ _ _ h => h) (Or.inl ⟨by rfl, ?_⟩) hHeld ?_ ?_
              rotate_left
              · rintro w' ⟨s0, s1, s2, s3, s4, s5, s6, s7, s8, s9, s10, s11, s12, s13, s14, s15, s16, s17, s18, s19, s20, s21, s22⟩
                go_simp
                with_reducible rfl
              rotate_left
              · simp only [Act.put, sa_, sb_, sc_, i64_w, i32_w]; rfl
              refine take_ (i := 10) (N := some 35) (v := ?_) (a' := ?_) #[true, true, true, true, true, true, true, true, true, true, true, false, false, false, false, false, false, false, false, false, false, false, false, false, false] rfl rfl (take_ofW HT_.out HW_.out (by kernel_rfl)) (fun _ _ _ h => h) (Or.inl ⟨by rfl, ?_⟩) hHeld ?_ ?_
              rotate_left
              · rintro w' ⟨s0, s1, s2, s3, s4, s5, s6, s7, s8, s9, s10, s11, s12, s13, s14, s15, s16, s17, s18, s19, s20, s21, s22⟩
                go_simp
                with_reducible rfl
              rotate_left
              · simp only [Act.put, sa_, sb_, sc_, i64_w, i32_w]; rfl
              refine one_ (i := 11) (N := some 36) #[true, true, true, true, true, true, true, true, true, true, true, true, false, false, false, false, false, false, false, false, false, false, false, false, false] rfl rfl (one_of HT_.out (by kernel_rfl)) (by decide) (fun K hK => ?_)
              refine goes_ Try.func16 (by kernel_rfl) rfl #[.agg #[.int .u32 a0_0, .int .u32 a0_1, .bool a0_2, .string a0_3, .int .i64 a0_4, .int .i64 a0_5], .agg #[.int .i64 ((rd_T65 t247 t246).f2.f2.f0), .int .i64 ((rd_T65 t247 t246).f2.f2.f1), .int .i64 ((rd_T65 t247 t246).f2.f2.f2), .string ((rd_T65 t247 t246).f2.f2.f3)], .agg #[.int .i64 a3_0, .int .i64 a3_1, .int .i64 a3_2, .string a3_3]] (by rfl) rfl rfl (by (try simp only [List.map_toArray, List.map_cons, List.map_nil]); first | done | rfl | (simp only [List.length_drop, List.length_take]; rfl)) ?_
              with_reducible refine (signalboxref23_Differ.calls k a0_0 a0_1 a0_2 a0_3 a0_4 a0_5 ((rd_T65 t247 t246).f2.f2.f0) ((rd_T65 t247 t246).f2.f2.f1) ((rd_T65 t247 t246).f2.f2.f2) ((rd_T65 t247 t246).f2.f2.f3) a3_0 a3_1 a3_2 a3_3 false _ A24.out).mono ?_
              rintro e w31 ⟨rfl, hb⟩
              have HS10_ := (hb.cell (World.block_lt_of_cell? _ _ (hHeld.2.2.2.2.2.2.2.2.2.2.1))).trans (hHeld.2.2.2.2.2.2.2.2.2.2.1)
              have HS11_ := (hb.cell (World.block_lt_of_cell? _ _ (hHeld.2.2.2.2.2.2.2.2.2.2.2.1))).trans (hHeld.2.2.2.2.2.2.2.2.2.2.2.1)
              have HS12_ := (hb.cell (World.block_lt_of_cell? _ _ (hHeld.2.2.2.2.2.2.2.2.2.2.2.2.1))).trans (hHeld.2.2.2.2.2.2.2.2.2.2.2.2.1)
              have HS13_ := (hb.cell (World.block_lt_of_cell? _ _ (hHeld.2.2.2.2.2.2.2.2.2.2.2.2.2.1))).trans (hHeld.2.2.2.2.2.2.2.2.2.2.2.2.2.1)
              have HS14_ := (hb.cell (World.block_lt_of_cell? _ _ (hHeld.2.2.2.2.2.2.2.2.2.2.2.2.2.2.1))).trans (hHeld.2.2.2.2.2.2.2.2.2.2.2.2.2.2.1)
              have HS15_ := (hb.cell (World.block_lt_of_cell? _ _ (hHeld.2.2.2.2.2.2.2.2.2.2.2.2.2.2.2.1))).trans (hHeld.2.2.2.2.2.2.2.2.2.2.2.2.2.2.2.1)
              have HS16_ := (hb.cell (World.block_lt_of_cell? _ _ (hHeld.2.2.2.2.2.2.2.2.2.2.2.2.2.2.2.2.1))).trans (hHeld.2.2.2.2.2.2.2.2.2.2.2.2.2.2.2.2.1)
              have HS17_ := (hb.cell (World.block_lt_of_cell? _ _ (hHeld.2.2.2.2.2.2.2.2.2.2.2.2.2.2.2.2.2.1))).trans (hHeld.2.2.2.2.2.2.2.2.2.2.2.2.2.2.2.2.2.1)
              have HS18_ := (hb.cell (World.block_lt_of_cell? _ _ (hHeld.2.2.2.2.2.2.2.2.2.2.2.2.2.2.2.2.2.2.1))).trans (hHeld.2.2.2.2.2.2.2.2.2.2.2.2.2.2.2.2.2.2.1)
              have HS19_ := (hb.cell (World.block_lt_of_cell? _ _ (hHeld.2.2.2.2.2.2.2.2.2.2.2.2.2.2.2.2.2.2.2.1))).trans (hHeld.2.2.2.2.2.2.2.2.2.2.2.2.2.2.2.2.2.2.2.1)
              have HS20_ := (hb.cell (World.block_lt_of_cell? _ _ (hHeld.2.2.2.2.2.2.2.2.2.2.2.2.2.2.2.2.2.2.2.2.1))).trans (hHeld.2.2.2.2.2.2.2.2.2.2.2.2.2.2.2.2.2.2.2.2.1)
              have HS21_ := (hb.cell (World.block_lt_of_cell? _ _ (hHeld.2.2.2.2.2.2.2.2.2.2.2.2.2.2.2.2.2.2.2.2.2.1))).trans (hHeld.2.2.2.2.2.2.2.2.2.2.2.2.2.2.2.2.2.2.2.2.2.1)
              have HS22_ := (hb.cell (World.block_lt_of_cell? _ _ (hHeld.2.2.2.2.2.2.2.2.2.2.2.2.2.2.2.2.2.2.2.2.2.2))).trans (hHeld.2.2.2.2.2.2.2.2.2.2.2.2.2.2.2.2.2.2.2.2.2.2)
              refine ⟨_, rfl, ?_⟩
              have n0_ := Aside0.mk (Kd.R_below (pr HO1) hb)
              have n1_ := Aside0.mk (Kd.R_below (pr HO249) hb)
              have n2_ := Aside0.mk (blk_below (pb BK242) hb)
              have n3_ := Aside0.mk (blk_below (pb BK243) hb)
              have n4_ := Aside0.mk (Kept.below (S := (fun k_ => P1_ k_)) (by repeat (first | (with_reducible first | exact HK.out | apply Kept.alloc | apply Kept.drewN | apply Kept.drew | refine Kept.setCell ?_ (.inr GW242.out) _ | refine Kept.setCell ?_ (.inr GW243.out) _) | exact HK.out)) hb)
              have n5_ := Aside0.mk (below_step (by repeat (first | (with_reducible first | exact HB.out | apply ba_ | apply bd_ | apply be_ | refine below_set ?_ GE242.out | refine below_set ?_ GE243.out) | exact HB.out)) hb)
              clear HO1; clear HO249; clear BK242; clear BK243; clear HK; clear HB; have HO1 := n0_
              have HO249 := n1_
              have BK242 := n2_
              have BK243 := n3_
              have HK := n4_
              have HB := n5_
              clear n0_ n1_ n2_ n3_ n4_ n5_; (try clear hb); (try clear hb2); (try clear hk); (try clear hi); refine hK.out _ _ ⟨(blk_cell BK242.out 0).trans rfl, (blk_cell BK242.out 1).trans rfl, (blk_cell BK242.out 2).trans rfl, (blk_cell BK242.out 3).trans rfl, (blk_cell BK242.out 4).trans rfl, (blk_cell BK242.out 5).trans rfl, (blk_cell BK243.out 0).trans rfl, (blk_cell BK243.out 1).trans rfl, (blk_cell BK243.out 2).trans rfl, (blk_cell BK243.out 3).trans rfl, HS10_, HS11_, HS12_, HS13_, HS14_, HS15_, HS16_, HS17_, HS18_, HS19_, HS20_, HS21_, HS22_⟩ (fun hHeld => ?_)
              clear hK K; refine norm_ (a' := ?_) ?_ ?_
              rotate_left
              · show Act.put _ (some 36) _ = _
                simp only [Act.put, sa_, sb_, sc_, i64_w, i32_w]
                rfl
              refine pure_ (i := 12) (N := some 37) (v := ?_) (a' := ?_) #[true, true, true, true, true, true, true, true, true, true, true, true, true, false, false, false, false, false, false, false, false, false, false, false, false] rfl rfl (any_of HT_.out (by kernel_rfl)) (fun _ _ _ h => h) (Or.inl ⟨by rfl, ?_⟩) ?_ ?_
              rotate_left
              · intro w'
                go_simp
                with_reducible rfl
              rotate_left
              · simp only [Act.put, sa_, sb_, sc_, i64_w, i32_w]; rfl
              refine pure_ (i := 13) (N := some 38) (v := undef) (a' := ?_) #[true, true, true, true, true, true, true, true, true, true, true, true, true, true, false, false, false, false, false, false, false, false, false, false, false] rfl rfl (any_of HT_.out (by kernel_rfl)) (fun _ _ _ h => h) (Or.inr ⟨by rfl, rfl⟩) ?_ ?_
              rotate_left
              · simp only [Act.put, sa_, sb_, sc_, i64_w, i32_w]; rfl
              refine pure_ (i := 14) (N := some 39) (v := undef) (a' := ?_) #[true, true, true, true, true, true, true, true, true, true, true, true, true, true, true, false, false, false, false, false, false, false, false, false, false] rfl rfl (any_of HT_.out (by kernel_rfl)) (fun _ _ _ h => h) (Or.inr ⟨by rfl, rfl⟩) ?_ ?_
              rotate_left
              · simp only [Act.put, sa_, sb_, sc_, i64_w, i32_w]; rfl
              refine pure_ (i := 15) (N := some 40) (v := undef) (a' := ?_) #[true, true, true, true, true, true, true, true, true, true, true, true, true, true, true, true, false, false, false, false, false, false, false, false, false] rfl rfl (any_of HT_.out (by kernel_rfl)) (fun _ _ _ h => h) (Or.inr ⟨by rfl, rfl⟩) ?_ ?_
              rotate_left
              · simp only [Act.put, sa_, sb_, sc_, i64_w, i32_w]; rfl
              refine pure_ (i := 16) (N := some 41) (v := undef) (a' := ?_) #[true, true, true, true, true, true, true, true, true, true, true, true, true, true, true, true, true, false, false, false, false, false, false, false, false] rfl rfl (any_of HT_.out (by kernel_rfl)) (fun _ _ _ h => h) (Or.inr ⟨by rfl, rfl⟩) ?_ ?_
              rotate_left
              · simp only [Act.put, sa_, sb_, sc_, i64_w, i32_w]; rfl
              refine pure_ (i := 17) (N := some 42) (v := undef) (a' := ?_) #[true, true, true, true, true, true, true, true, true, true, true, true, true, true, true, true, true, true, false, false, false, false, false, false, false] rfl rfl (any_of HT_.out (by kernel_rfl)) (fun _ _ _ h => h) (Or.inr ⟨by rfl, rfl⟩) ?_ ?_
              rotate_left
              · simp only [Act.put, sa_, sb_, sc_, i64_w, i32_w]; rfl
              refine pure_ (i := 18) (N := some 43) (v := undef) (a' := ?_) #[true, true, true, true, true, true, true, true, true, true, true, true, true, true, true, true, true, true, true, false, false, false, false, false, false] rfl rfl (any_of HT_.out (by kernel_rfl)) (fun _ _ _ h => h) (Or.inr ⟨by rfl, rfl⟩) ?_ ?_
              rotate_left
              · simp only [Act.put, sa_, sb_, sc_, i64_w, i32_w]; rfl
              refine pure_ (i := 19) (N := some 44) (v := undef) (a' := ?_) #[true, true, true, true, true, true, true, true, true, true, true, true, true, true, true, true, true, true, true, true, false, false, false, false, false] rfl rfl (any_of HT_.out (by kernel_rfl)) (fun _ _ _ h => h) (Or.inr ⟨by rfl, rfl⟩) ?_ ?_
              rotate_left
              · simp only [Act.put, sa_, sb_, sc_, i64_w, i32_w]; rfl
              refine pure_ (i := 20) (N := some 45) (v := undef) (a' := ?_) #[true, true, true, true, true, true, true, true, true, true, true, true, true, true, true, true, true, true, true, true, true, false, false, false, false] rfl rfl (any_of HT_.out (by kernel_rfl)) (fun _ _ _ h => h) (Or.inr ⟨by rfl, rfl⟩) ?_ ?_
              rotate_left
              · simp only [Act.put, sa_, sb_, sc_, i64_w, i32_w]; rfl
              refine pure_ (i := 21) (N := some 46) (v := undef) (a' := ?_) #[true, true, true, true, true, true, true, true, true, true, true, true, true, true, true, true, true, true, true, true, true, true, false, false, false] rfl rfl (any_of HT_.out (by kernel_rfl)) (fun _ _ _ h => h) (Or.inr ⟨by rfl, rfl⟩) ?_ ?_
              rotate_left
              · simp only [Act.put, sa_, sb_, sc_, i64_w, i32_w]; rfl
              refine pure_ (i := 22) (N := some 47) (v := undef) (a' := ?_) #[true, true, true, true, true, true, true, true, true, true, true, true, true, true, true, true, true, true, true, true, true, true, true, false, false] rfl rfl (any_of HT_.out (by kernel_rfl)) (fun _ _ _ h => h) (Or.inr ⟨by rfl, rfl⟩) ?_ ?_
              rotate_left
              · simp only [Act.put, sa_, sb_, sc_, i64_w, i32_w]; rfl
              refine pure_ (i := 23) (N := some 48) (v := ?_) (a' := ?_) #[true, true, true, true, true, true, true, true, true, true, true, true, true, true, true, true, true, true, true, true, true, true, true, true, false] rfl rfl (any_of HT_.out (by kernel_rfl)) (fun _ _ _ h => h) (Or.inl ⟨by rfl, ?_⟩) ?_ ?_
              rotate_left
              · intro w'
                go_simp
                with_reducible rfl
              rotate_left
              · simp only [Act.put, sa_, sb_, sc_, i64_w, i32_w]; rfl
              refine pure_ (i := 24) (N := some 49) (v := ?_) (a' := ?_) #[true, true, true, true, true, true, true, true, true, true, true, true, true, true, true, true, true, true, true, true, true, true, true, true, true] rfl rfl (any_of HT_.out (by kernel_rfl)) (fun _ _ _ h => h) (Or.inl ⟨by rfl, ?_⟩) ?_ ?_
              rotate_left
              · intro w'
                go_simp
                with_reducible rfl
              rotate_left
              · simp only [Act.put, sa_, sb_, sc_, i64_w, i32_w]; rfl
              refine done_ (done_of HT_.out (by kernel_rfl)) ?_
              try go_wp2
              go_meet
              case rel => exact ⟨_, (false), (by first | rfl | (simp; done) | (simp [*]; done)), H', ⟨by first | omega | exact Nat.le_refl _⟩, ⟨by (with_reducible repeat (first | apply Kd.R_alloc | apply Kd.R_drewN | apply Kd.R_drew)); exact Kd.R_mono HO249.out (fun _ hk => hk.1.1)⟩, ⟨by (with_reducible repeat (first | refine kd_ ?_ _ | refine ke_ ?_ | refine ka_ ?_ _)); exact BK242.out⟩, ⟨by (with_reducible repeat (first | refine kd_ ?_ _ | refine ke_ ?_ | refine ka_ ?_ _)); exact BK243.out⟩, ⟨by repeat (first | (with_reducible first | exact HK.out | apply Kept.alloc | apply Kept.drewN | apply Kept.drew | refine Kept.setCell ?_ (.inr GW242.out) _ | refine Kept.setCell ?_ (.inr GW243.out) _) | exact HK.out)⟩, ⟨by repeat (first | (with_reducible first | exact HB.out | apply ba_ | apply bd_ | apply be_ | refine below_set ?_ GE242.out | refine below_set ?_ GE243.out) | exact HB.out)⟩⟩
          · rw [if_neg c23] at H
            exact absurd H (by simp)
        · rw [if_neg c22] at H
          exact absurd H (by simp)
    case rest =>
      clear HC10; (try clear c1); (try clear c2); (try clear p2); (try clear q2); (try clear hx2); (try clear p6); (try clear c16); (try clear c20); (try clear c20b0); (try clear c22); (try clear c22b0); (try clear c23); (try clear c23b0); (try clear c25); (try clear p25); (try clear q25); (try clear hx25); (try clear hx250_0); (try clear hx250_1); (try clear hx250_10); (try clear hx250_11); (try clear hx250_12); (try clear hx250_2); (try clear hx250_3); (try clear hx250_4); (try clear hx250_5); (try clear hx250_6); (try clear hx250_7); (try clear hx250_8); (try clear hx250_9); (try clear hx252_0); (try clear hx252_1); (try clear hx252_10); (try clear hx252_11); (try clear hx252_12); (try clear hx252_2); (try clear hx252_3); (try clear hx252_4); (try clear hx252_5); (try clear hx252_6); (try clear hx252_7); (try clear hx252_8); (try clear hx252_9); (try clear p250); (try clear p252); (try clear q250); (try clear q252); (try clear HA); (try clear HJ9); (try clear HO_1); (try clear BK242); (try clear BK243); (try clear HK); (try clear HB); obtain ⟨kq, x49_9, rfl, HA, HJ9, HO_1, BK242, BK243, HK, HB⟩ := hcut
      cases kq with
      | zero => exact absurd HA.out (by simp [signalboxref23_Hear.j0])
      | succ kj9 =>
        have H := HA.out
        clear HA; simp only [signalboxref23_Hear.j0] at H
        by_cases c32 : x49_9 = true
        · subst c32
          have H1 : ((signalboxref23_changed.f a0_0 a0_1 a0_2 a0_3 a0_4 a0_5 t245 a3_0 a3_1 a3_2 a3_3).bind fun bt253 => ((signalboxref23_put.f t247 bt253.1 bt253.2.1 bt253.2.2.1 bt253.2.2.2.1 bt253.2.2.2.2.1 bt253.2.2.2.2.2.1 bt253.2.2.2.2.2.2.1 bt253.2.2.2.2.2.2.2.1 bt253.2.2.2.2.2.2.2.2.1 bt253.2.2.2.2.2.2.2.2.2.1 bt253.2.2.2.2.2.2.2.2.2.2.1 bt253.2.2.2.2.2.2.2.2.2.2.2.1 bt253.2.2.2.2.2.2.2.2.2.2.2.2).bind fun t266 => (some t266))) = some r := by rw [if_pos rfl] at H; exact H
          clear H; have H := H1
          clear H1; replace H := Option.bind_eq_some_iff.mp H
          obtain ⟨⟨t253, t254, t255, t256, t257, t258, t259, t260, t261, t262, t263, t264, t265⟩, A330, H⟩ := H
          replace H : ((signalboxref23_put.f t247 t253 t254 t255 t256 t257 t258 t259 t260 t261 t262 t263 t264 t265).bind fun t266 => (some t266)) = some r := H
          have A33 := Aside0.mk A330; clear A330; replace H := Option.bind_eq_some_iff.mp H
          obtain ⟨t266, A340, H⟩ := H
          replace H : (some t266) = some r := H
          have A34 := Aside0.mk A340; clear A340; obtain rfl := Option.some.inj H
          have hnb35 := NB242_243.out
          have hnc35 := NB243_242.out
          have hcz36_0 : wc.cell? ⟨gb242, 0, none⟩ = some (.int .u32 a0_0) := (blk_cell BK242.out 0).trans rfl
          have hcz36_1 : wc.cell? ⟨gb242, 1, none⟩ = some (.int .u32 a0_1) := (blk_cell BK242.out 1).trans rfl
          have hcz36_2 : wc.cell? ⟨gb242, 2, none⟩ = some (.bool a0_2) := (blk_cell BK242.out 2).trans rfl
          have hcz36_3 : wc.cell? ⟨gb242, 3, none⟩ = some (.string a0_3) := (blk_cell BK242.out 3).trans rfl
          have hcz36_4 : wc.cell? ⟨gb242, 4, none⟩ = some (.int .i64 a0_4) := (blk_cell BK242.out 4).trans rfl
          have hcz36_5 : wc.cell? ⟨gb242, 5, none⟩ = some (.int .i64 a0_5) := (blk_cell BK242.out 5).trans rfl
          have hfz36_0 := blk_frozen BK242.out 0
          have hfz36_1 := blk_frozen BK242.out 1
          have hfz36_2 := blk_frozen BK242.out 2
          have hfz36_3 := blk_frozen BK242.out 3
          have hfz36_4 := blk_frozen BK242.out 4
          have hfz36_5 := blk_frozen BK242.out 5
          have hcz37_0 : wc.cell? ⟨gb243, 0, none⟩ = some (.int .i64 a3_0) := (blk_cell BK243.out 0).trans rfl
          have hcz37_1 : wc.cell? ⟨gb243, 1, none⟩ = some (.int .i64 a3_1) := (blk_cell BK243.out 1).trans rfl
          have hcz37_2 : wc.cell? ⟨gb243, 2, none⟩ = some (.int .i64 a3_2) := (blk_cell BK243.out 2).trans rfl
          have hcz37_3 : wc.cell? ⟨gb243, 3, none⟩ = some (.string a3_3) := (blk_cell BK243.out 3).trans rfl
          have hfz37_0 := blk_frozen BK243.out 0
          have hfz37_1 := blk_frozen BK243.out 1
          have hfz37_2 := blk_frozen BK243.out 2
          have hfz37_3 := blk_frozen BK243.out 3
          go_wp2_with (first | ((with_reducible refine gate_callee (f := 38) rfl ?_); refine goesL_ (some 54) rfl rfl Try.func38 (by kernel_rfl) rfl #[.agg #[.int .u32 a0_0, .int .u32 a0_1, .bool a0_2, .string a0_3, .int .i64 a0_4, .int .i64 a0_5], .int .i64 t245, .agg #[.int .i64 a3_0, .int .i64 a3_1, .int .i64 a3_2, .string a3_3]] rfl (by (try simp only [List.map_toArray, List.map_cons, List.map_nil]); first | done | rfl | (simp only [List.length_drop, List.length_take]; rfl)) ?_; (with_reducible refine (signalboxref23_changed.calls a0_0 a0_1 a0_2 a0_3 a0_4 a0_5 t245 a3_0 a3_1 a3_2 a3_3 t253 t254 t255 t256 t257 t258 t259 t260 t261 t262 t263 t264 t265 _ A33.out).mono ?_); rintro e w38 ⟨rfl, hb⟩; refine ⟨_, rfl, ?_⟩; have n0_ := Aside0.mk (Kd.R_below (pr HO_1) hb); have n1_ := Aside0.mk (blk_below (pb BK242) hb); have n2_ := Aside0.mk (blk_below (pb BK243) hb); have n3_ := Aside0.mk (Kept.below (S := (fun k_ => P1_ k_)) (by repeat (first | (with_reducible first | exact HK.out | apply Kept.alloc | apply Kept.drewN | apply Kept.drew | refine Kept.setCell ?_ (.inr GW242.out) _ | refine Kept.setCell ?_ (.inr GW243.out) _) | exact HK.out)) hb); have n4_ := Aside0.mk (below_step (by repeat (first | (with_reducible first | exact HB.out | apply ba_ | apply bd_ | apply be_ | refine below_set ?_ GE242.out | refine below_set ?_ GE243.out) | exact HB.out)) hb); clear HO_1; clear BK242; clear BK243; clear HK; clear HB; have HO_1 := n0_; have BK242 := n1_; have BK243 := n2_; have HK := n3_; have HB := n4_; clear n0_ n1_ n2_ n3_ n4_; (try clear hb); (try clear hb2); (try clear hk); (try clear hi); obtain ⟨Ao39, co39, eo39⟩ := Kd.R_slice HO_1.out; subst eo39) | ((with_reducible refine gate_callee (f := 37) rfl ?_); refine goesL_ (some 55) rfl rfl Try.func37 (by kernel_rfl) rfl #[.slice Ao39 t247.length co39, .agg #[.int .i64 t253, .bool t254, .int .i64 t255, .int .i64 t256, .int .i64 t257, .int .i64 t258, .int .i64 t259, .string t260, .int .i64 t261, .int .i64 t262, .int .i64 t263, .int .i64 t264, .string t265]] rfl (by (try simp only [List.map_toArray, List.map_cons, List.map_nil]); first | done | rfl | (simp only [List.length_drop, List.length_take]; rfl)) ?_; (with_reducible refine (signalboxref23_put.calls _ _ t247 t253 t254 t255 t256 t257 t258 t259 t260 t261 t262 t263 t264 t265 t266 _ ?side1 ?side2 A34.out).mono ?_); (case side1 => repeat (first | exact (Kd.R_reads' HO_1.out).2.2 | (with_reducible refine Kd.C_alloc ?_ _) | (with_reducible refine Kd.C_drewN ?_ _) | (with_reducible refine Kd.C_drew ?_))); (case side2 => exact (Kd.R_reads' HO_1.out).2.1); rintro e w40 ⟨v267, rfl, ho0, hb⟩; refine ⟨_, rfl, ?_⟩; have n0_ := Aside0.mk (Kd.R_elder' (pr HO_1) (Kd.R_base ho0) hb); have n1_ := Aside0.mk (Kd.R_lower (Kd.R_new' (Kd.R_newM (M := fun k_ => (P1_ k_ ∨ w.heap.size ≤ k_)) ho0 (by first | exact HK.out.1 | exact (show Kept w _ (fun k_ => P1_ k_) from by repeat (first | (with_reducible first | exact HK.out | apply Kept.alloc | apply Kept.drewN | apply Kept.drew | refine Kept.setCell ?_ (.inr GW242.out) _ | refine Kept.setCell ?_ (.inr GW243.out) _) | exact HK.out)).1) (fun k_ h_ => .inr h_)) (Kd.R_lt (pr HO_1))) (below_size (by repeat (first | (with_reducible first | exact HB.out | apply ba_ | apply bd_ | apply be_ | refine below_set ?_ GE242.out | refine below_set ?_ GE243.out) | exact HB.out)))); have n2_ := Aside0.mk (blk_below (pb BK242) hb); have n3_ := Aside0.mk (blk_below (pb BK243) hb); have n4_ := Aside0.mk (Kept.below (S := (fun k_ => P1_ k_)) (by repeat (first | (with_reducible first | exact HK.out | apply Kept.alloc | apply Kept.drewN | apply Kept.drew | refine Kept.setCell ?_ (.inr GW242.out) _ | refine Kept.setCell ?_ (.inr GW243.out) _) | exact HK.out)) hb); have n5_ := Aside0.mk (below_step (by repeat (first | (with_reducible first | exact HB.out | apply ba_ | apply bd_ | apply be_ | refine below_set ?_ GE242.out | refine below_set ?_ GE243.out) | exact HB.out)) hb); clear HO_1; clear BK242; clear BK243; clear HK; clear HB; have HO_1 := n0_; have HO268 := n1_; have BK242 := n2_; have BK243 := n3_; have HK := n4_; have HB := n5_; clear n0_ n1_ n2_ n3_ n4_ n5_; (try clear hb); (try clear hb2); (try clear hk); (try clear hi); (try clear ho0)))
          go_ret
          exact ⟨_, by first | rfl | (simp [errW_none, errW_some] <;> rfl) | (simp [*, errW_none, errW_some] <;> rfl), by (with_reducible repeat (first | apply Kd.R_alloc | apply Kd.R_drewN | apply Kd.R_drew)); exact Kd.R_mono HO268.out (fun _ hk => hk.1.1), by repeat (first | (with_reducible first | exact HB.out | apply ba_ | apply bd_ | apply be_ | refine below_set ?_ GE242.out | refine below_set ?_ GE243.out) | exact HB.out), by repeat (first | (with_reducible first | exact HK.out | apply Kept.alloc | apply Kept.drewN | apply Kept.drew | refine Kept.setCell ?_ (.inr GW242.out) _ | refine Kept.setCell ?_ (.inr GW243.out) _) | exact HK.out)⟩
        · replace c32 := Bool.eq_false_iff.mpr c32
          subst c32; have H1 : (some t247) = some r := by rw [if_neg (show ¬ (false = true) by decide)] at H; exact H
          clear H; have H := H1
          clear H1; obtain rfl := Option.some.inj H
          go_wp2; go_ret
          exact ⟨_, by first | rfl | (simp [errW_none, errW_some] <;> rfl) | (simp [*, errW_none, errW_some] <;> rfl), by (with_reducible repeat (first | apply Kd.R_alloc | apply Kd.R_drewN | apply Kd.R_drew)); exact HO_1.out, by repeat (first | (with_reducible first | exact HB.out | apply ba_ | apply bd_ | apply be_ | refine below_set ?_ GE242.out | refine below_set ?_ GE243.out) | exact HB.out), by repeat (first | (with_reducible first | exact HK.out | apply Kept.alloc | apply Kept.drewN | apply Kept.drew | refine Kept.setCell ?_ (.inr GW242.out) _ | refine Kept.setCell ?_ (.inr GW243.out) _) | exact HK.out)⟩
  · replace c6 := Bool.eq_false_iff.mpr c6
    subst c6; have H1 : (some l1) = some r := by rw [if_neg (show ¬ (false = true) by decide)] at H; exact H
    clear H; have H := H1
    clear H1; obtain rfl := Option.some.inj H
    go_enter Try.func25, Try.ntmps25
    go_wp2_with (first | ((with_reducible refine gate_dst (N := 4) rfl ?_); refine box_event ?hg (N := 4) ?hd (cs := #[.int .u32 a0_0, .int .u32 a0_1, .bool a0_2, .string a0_3, .int .i64 a0_4, .int .i64 a0_5]) (t := 31) ?hr ?_; (case hd => rfl); (case hg => rfl); (case hr => first | (go_simp; done) | (go_simp; rfl)); intro gb242 hg w41 hbox hb; have n0_ := Aside0.mk (Kd.R_below (pr HO1) hb); have n1_ := Aside0.mk (Kept.below (S := (fun k_ => P1_ k_)) (by repeat (first | (with_reducible first | exact HK.out | apply Kept.alloc | apply Kept.drewN | apply Kept.drew) | exact HK.out)) hb); have n2_ := Aside0.mk (below_step (pe HB) hb); have n3_ := Aside0.mk (hbox); have n4_ := Aside0.mk ((by rw [hg]; exact (by first | exact HK.out.1 | exact (show Kept w _ (fun k_ => P1_ k_) from by repeat (first | (with_reducible first | exact HK.out | apply Kept.alloc | apply Kept.drewN | apply Kept.drew) | exact HK.out)).1) : w.heap.size ≤ gb242)); have n5_ := Aside0.mk ((by rw [hg]; exact (below_size (pe HB)) : w0.heap.size ≤ gb242)); clear HO1; clear HK; clear HB; have HO1 := n0_; have HK := n1_; have HB := n2_; have BK242 := n3_; have GW242 := n4_; have GE242 := n5_; clear n0_ n1_ n2_ n3_ n4_ n5_; clear hb hbox hg) | ((with_reducible refine gate_dst (N := 7) rfl ?_); refine box_event ?hg (N := 7) ?hd (cs := #[.int .i64 a3_0, .int .i64 a3_1, .int .i64 a3_2, .string a3_3]) (t := 33) ?hr ?_; (case hd => rfl); (case hg => rfl); (case hr => first | (go_simp; done) | (go_simp; rfl)); intro gb243 hg w42 hbox hb; have n0_ := Aside0.mk (Kd.R_below (pr HO1) hb); have n1_ := Aside0.mk (blk_below (pb BK242) hb); have n2_ := Aside0.mk (Kept.below (S := (fun k_ => P1_ k_)) (by repeat (first | (with_reducible first | exact HK.out | apply Kept.alloc | apply Kept.drewN | apply Kept.drew | refine Kept.setCell ?_ (.inr GW242.out) _) | exact HK.out)) hb); have n3_ := Aside0.mk (below_step (by repeat (first | (with_reducible first | exact HB.out | apply ba_ | apply bd_ | apply be_ | refine below_set ?_ GE242.out) | exact HB.out)) hb); have n4_ := Aside0.mk (hbox); have n5_ := Aside0.mk ((by rw [hg]; exact (by first | exact HK.out.1 | exact (show Kept w _ (fun k_ => P1_ k_) from by repeat (first | (with_reducible first | exact HK.out | apply Kept.alloc | apply Kept.drewN | apply Kept.drew | refine Kept.setCell ?_ (.inr GW242.out) _) | exact HK.out)).1) : w.heap.size ≤ gb243)); have n6_ := Aside0.mk ((by rw [hg]; exact (below_size (by repeat (first | (with_reducible first | exact HB.out | apply ba_ | apply bd_ | apply be_ | refine below_set ?_ GE242.out) | exact HB.out))) : w0.heap.size ≤ gb243)); have n7_ := Aside0.mk ((by rw [hg]; exact Nat.ne_of_lt (blk_lt (pb BK242)) : gb242 ≠ gb243)); have n8_ := Aside0.mk ((by rw [hg]; exact Nat.ne_of_gt (blk_lt (pb BK242)) : gb243 ≠ gb242)); clear HO1; clear BK242; clear HK; clear HB; have HO1 := n0_; have BK242 := n1_; have HK := n2_; have HB := n3_; have BK243 := n4_; have GW243 := n5_; have GE243 := n6_; have NB242_243 := n7_; have NB243_242 := n8_; clear n0_ n1_ n2_ n3_ n4_ n5_ n6_ n7_ n8_; clear hb hbox hg; have hnb43 := NB242_243.out; have hnc43 := NB243_242.out; have hcz44_0 : w42.cell? ⟨gb242, 0, none⟩ = some (.int .u32 a0_0) := (blk_cell BK242.out 0).trans rfl; have hcz44_1 : w42.cell? ⟨gb242, 1, none⟩ = some (.int .u32 a0_1) := (blk_cell BK242.out 1).trans rfl; have hcz44_2 : w42.cell? ⟨gb242, 2, none⟩ = some (.bool a0_2) := (blk_cell BK242.out 2).trans rfl; have hcz44_3 : w42.cell? ⟨gb242, 3, none⟩ = some (.string a0_3) := (blk_cell BK242.out 3).trans rfl; have hcz44_4 : w42.cell? ⟨gb242, 4, none⟩ = some (.int .i64 a0_4) := (blk_cell BK242.out 4).trans rfl; have hcz44_5 : w42.cell? ⟨gb242, 5, none⟩ = some (.int .i64 a0_5) := (blk_cell BK242.out 5).trans rfl; have hfz44_0 := blk_frozen BK242.out 0; have hfz44_1 := blk_frozen BK242.out 1; have hfz44_2 := blk_frozen BK242.out 2; have hfz44_3 := blk_frozen BK242.out 3; have hfz44_4 := blk_frozen BK242.out 4; have hfz44_5 := blk_frozen BK242.out 5; have hcz45_0 : w42.cell? ⟨gb243, 0, none⟩ = some (.int .i64 a3_0) := (blk_cell BK243.out 0).trans rfl; have hcz45_1 : w42.cell? ⟨gb243, 1, none⟩ = some (.int .i64 a3_1) := (blk_cell BK243.out 1).trans rfl; have hcz45_2 : w42.cell? ⟨gb243, 2, none⟩ = some (.int .i64 a3_2) := (blk_cell BK243.out 2).trans rfl; have hcz45_3 : w42.cell? ⟨gb243, 3, none⟩ = some (.string a3_3) := (blk_cell BK243.out 3).trans rfl; have hfz45_0 := blk_frozen BK243.out 0; have hfz45_1 := blk_frozen BK243.out 1; have hfz45_2 := blk_frozen BK243.out 2; have hfz45_3 := blk_frozen BK243.out 3) | ((with_reducible refine gate_callee (f := 40) rfl ?_); refine goesL_ (some 13) rfl rfl Try.func40 (by kernel_rfl) rfl #[.agg #[.int .u32 a0_0, .int .u32 a0_1, .bool a0_2], .agg #[.int .i64 a3_0, .int .i64 a3_1, .int .i64 a3_2, .string a3_3]] rfl (by (try simp only [List.map_toArray, List.map_cons, List.map_nil]); first | done | rfl | (simp only [List.length_drop, List.length_take]; rfl)) ?_; (with_reducible refine (signalboxref05_Match.calls k a0_0 a0_1 a0_2 a3_0 a3_1 a3_2 a3_3 false _ A5.out).mono ?_); rintro e w46 ⟨rfl, hb⟩; refine ⟨_, rfl, ?_⟩; have n0_ := Aside0.mk (Kd.R_below (pr HO1) hb); have n1_ := Aside0.mk (blk_below (pb BK242) hb); have n2_ := Aside0.mk (blk_below (pb BK243) hb); have n3_ := Aside0.mk (Kept.below (S := (fun k_ => P1_ k_)) (by repeat (first | (with_reducible first | exact HK.out | apply Kept.alloc | apply Kept.drewN | apply Kept.drew | refine Kept.setCell ?_ (.inr GW242.out) _ | refine Kept.setCell ?_ (.inr GW243.out) _) | exact HK.out)) hb); have n4_ := Aside0.mk (below_step (by repeat (first | (with_reducible first | exact HB.out | apply ba_ | apply bd_ | apply be_ | refine below_set ?_ GE242.out | refine below_set ?_ GE243.out) | exact HB.out)) hb); clear HO1; clear BK242; clear BK243; clear HK; clear HB; have HO1 := n0_; have BK242 := n1_; have BK243 := n2_; have HK := n3_; have HB := n4_; clear n0_ n1_ n2_ n3_ n4_; (try clear hb); (try clear hb2); (try clear hk); (try clear hi)))
    go_ret
    exact ⟨_, by first | rfl | (simp [errW_none, errW_some] <;> rfl) | (simp [*, errW_none, errW_some] <;> rfl), by (with_reducible repeat (first | apply Kd.R_alloc | apply Kd.R_drewN | apply Kd.R_drew)); exact HO1.out, by repeat (first | (with_reducible first | exact HB.out | apply ba_ | apply bd_ | apply be_ | refine below_set ?_ GE242.out | refine below_set ?_ GE243.out) | exact HB.out), by repeat (first | (with_reducible first | exact HK.out | apply Kept.alloc | apply Kept.drewN | apply Kept.drew | refine Kept.setCell ?_ (.inr GW242.out) _ | refine Kept.setCell ?_ (.inr GW243.out) _) | exact HK.out)⟩

end Go.Proofs.Ytelplkdbjfkfmaa.PWatchPlays
