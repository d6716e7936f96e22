-- Laid by a program of the session over the kit's print. Not trusted: Lean checks it.
import Derived.Test.YtelplkdbjfkfmaaPWatchPlaysx0
import Derived.Test.YtelplkdbjfkfmaaPWatchPlaysx6
import Derived.Test.YtelplkdbjfkfmaaPWatchPlaysx7
namespace Go.Proofs.Ytelplkdbjfkfmaa.PWatchPlays
open Go.RowKit Go.Proofs.YtelplkdbjfkfmaaW.PrintWords Go.Proofs.YtelplkdbjfkfmaaW.PrintLast Go.Proofs.YtelplkdbjfkfmaaW.PrintMore
attribute [local go_sem] max2_int min2_int max_two min_two max_three min_three max_four min_four   -- for this text's walks alone
set_option linter.unusedVariables false
set_option linter.unusedSimpArgs false

/-! ### signalboxref23_Held: function 27 -/
def signalboxref23_Held.f (k : Nat) (a0_0 : Int) (a0_1 : Int) (a0_2 : Bool) (a0_3 : ByteArray) (a0_4 : Int) (a0_5 : Int) (l1 : List (S65)) : Option (Int × Int × Int × ByteArray × Bool) := (signalboxref23_last.f k l1).bind fun t153 => ((signalboxref23_heard.f k l1).bind fun t154 => (if t153 < 0 then (some (0, 0, 0, (⟨#[]⟩ : ByteArray), false)) else (if t154 < t153 then (some (0, 0, 0, (⟨#[]⟩ : ByteArray), false)) else (if 0 ≤ t153 then (if t153 < (l1.length : Int) then (if 0 ≤ t154 then (if t154 < (l1.length : Int) then ((signalboxref23_Differ.f k a0_0 a0_1 a0_2 a0_3 a0_4 a0_5 ((rd_T65 l1 t153).f2.f2.f0) ((rd_T65 l1 t153).f2.f2.f1) ((rd_T65 l1 t153).f2.f2.f2) ((rd_T65 l1 t153).f2.f2.f3) ((rd_T65 l1 t154).f3.f0) ((rd_T65 l1 t154).f3.f1) ((rd_T65 l1 t154).f3.f2) ((rd_T65 l1 t154).f3.f3)).bind fun t157 => (if t157 = true then (some ((rd_T65 l1 t154).f3.f0, (rd_T65 l1 t154).f3.f1, (rd_T65 l1 t154).f3.f2, (rd_T65 l1 t154).f3.f3, true)) else (some (0, 0, 0, (⟨#[]⟩ : ByteArray), false)))) else (none)) else (none)) else (none)) else (none)))))
theorem signalboxref23_Held.mono : ∀ a0 a1 a2 a3 a4 a5 a6 k, LeO (signalboxref23_Held.f k a0 a1 a2 a3 a4 a5 a6) (signalboxref23_Held.f (k + 1) a0 a1 a2 a3 a4 a5 a6) := by
  intro a0 a1 a2 a3 a4 a5 a6 k
  unfold signalboxref23_Held.f
  repeat' first
      | (with_reducible exact signalboxref23_Differ.mono _ _ _ _ _ _ _ _ _ _ _ _ _ _ _)
      | (with_reducible exact signalboxref23_heard.mono _ _)
      | (with_reducible exact signalboxref23_last.mono _ _)
      | (with_reducible exact LeO.refl _)
      | (with_reducible exact LeO.none _)
      | (with_reducible refine LeO.ite ?_ ?_)
      | (with_reducible refine LeO.bind ?_ (fun _ => ?_))
      | exact signalboxref23_Differ.mono _ _ _ _ _ _ _ _ _ _ _ _ _ _ _
      | exact signalboxref23_heard.mono _ _
      | exact signalboxref23_last.mono _ _
      | exact LeO.none _
      | refine LeO.ite ?_ ?_
      | refine LeO.bind ?_ (fun _ => ?_)
def signalboxref23_Held.T2 : Bool × List (List Nat × List Nat) := (true, [([], []), ([0], [0]), ([1], [1]), ([2], [2]), ([2], [2]), ([3, 4, 2], [2, 3, 4]), ([2, 5], [2, 5]), ([6, 2], [6]), ([7], [7]), ([7], [7]), ([7], [7]), ([9, 10, 7], [7, 9, 10]), ([11, 7], [7, 11]), ([12, 7], [7, 12]), ([13, 7], [7, 13]), ([7], [7]), ([7], [7]), ([15, 16, 7], [7, 15, 16]), ([17, 7], [7, 17]), ([18, 7], [7, 18]), ([8, 14, 19, 7, 7], [7, 8, 14, 19]), ([20, 7], [7, 20]), ([7, 21], [7, 21])])
def signalboxref23_Held.B2 : List Nat := [0, 1, 3, 7, 7, 31, 63, 127, 255, 255, 255, 1791, 3839, 7935, 16127, 255, 255, 98559, 229631, 491775, 1048575, 2097151, 4194303]
theorem signalboxref23_Held.tab2 : rtab .any (opsOf Try.f27 2) = signalboxref23_Held.T2 := by kernel_rfl
theorem signalboxref23_Held.bits2 : waitsOk signalboxref23_Held.T2.2 signalboxref23_Held.B2 = true := by kernel_rfl
set_option maxHeartbeats 8000000 in
set_option maxRecDepth 100000 in
theorem signalboxref23_Held.calls (k : Nat) (a0_0 : Int) (a0_1 : Int) (a0_2 : Bool) (a0_3 : ByteArray) (a0_4 : Int) (a0_5 : Int) (A1 : Option Addr) (c1 : Nat) (l1 : List (S65)) (r1 : Int) (r2 : Int) (r3 : Int) (r4 : ByteArray) (r5 : Bool) (w : World) (hr1 : Kd.C k65 w A1 l1.length l1) (hc1 : l1.length ≤ c1) (h : signalboxref23_Held.f k a0_0 a0_1 a0_2 a0_3 a0_4 a0_5 l1 = some (r1, r2, r3, r4, r5)) :
    Calls Try.prog 27 #[.agg #[.int .u32 a0_0, .int .u32 a0_1, .bool a0_2, .string a0_3, .int .i64 a0_4, .int .i64 a0_5], .slice A1 l1.length c1] w fun e w' => e = .returned (.tuple #[.agg #[.int .i64 r1, .int .i64 r2, .int .i64 r3, .string r4], .bool r5]) ∧ Below w.heap.size w w' := by
  have hu31 := Try.underlying31
  have hu33 := Try.underlying33
  have HR1 := Aside0.mk hr1; have HC1 := Aside0.mk hc1; clear hr1 hc1; have HB := Aside0.mk (Below.refl w.heap.size w)
  have H : ((signalboxref23_last.f k l1).bind fun t153 => ((signalboxref23_heard.f k l1).bind fun t154 => (if t153 < 0 then (some (0, 0, 0, (⟨#[]⟩ : ByteArray), false)) else (if t154 < t153 then (some (0, 0, 0, (⟨#[]⟩ : ByteArray), false)) else (if 0 ≤ t153 then (if t153 < (l1.length : Int) then (if 0 ≤ t154 then (if t154 < (l1.length : Int) then ((signalboxref23_Differ.f k a0_0 a0_1 a0_2 a0_3 a0_4 a0_5 ((rd_T65 l1 t153).f2.f2.f0) ((rd_T65 l1 t153).f2.f2.f1) ((rd_T65 l1 t153).f2.f2.f2) ((rd_T65 l1 t153).f2.f2.f3) ((rd_T65 l1 t154).f3.f0) ((rd_T65 l1 t154).f3.f1) ((rd_T65 l1 t154).f3.f2) ((rd_T65 l1 t154).f3.f3)).bind fun t157 => (if t157 = true then (some ((rd_T65 l1 t154).f3.f0, (rd_T65 l1 t154).f3.f1, (rd_T65 l1 t154).f3.f2, (rd_T65 l1 t154).f3.f3, true)) else (some (0, 0, 0, (⟨#[]⟩ : ByteArray), false)))) else (none)) else (none)) else (none)) else (none)))))) = some (r1, r2, r3, r4, r5) := h
  clear h; replace H := Option.bind_eq_some_iff.mp H
  obtain ⟨t153, A30, H⟩ := H
  replace H : ((signalboxref23_heard.f k l1).bind fun t154 => (if t153 < 0 then (some (0, 0, 0, (⟨#[]⟩ : ByteArray), false)) else (if t154 < t153 then (some (0, 0, 0, (⟨#[]⟩ : ByteArray), false)) else (if 0 ≤ t153 then (if t153 < (l1.length : Int) then (if 0 ≤ t154 then (if t154 < (l1.length : Int) then ((signalboxref23_Differ.f k a0_0 a0_1 a0_2 a0_3 a0_4 a0_5 ((rd_T65 l1 t153).f2.f2.f0) ((rd_T65 l1 t153).f2.f2.f1) ((rd_T65 l1 t153).f2.f2.f2) ((rd_T65 l1 t153).f2.f2.f3) ((rd_T65 l1 t154).f3.f0) ((rd_T65 l1 t154).f3.f1) ((rd_T65 l1 t154).f3.f2) ((rd_T65 l1 t154).f3.f3)).bind fun t157 => (if t157 = true then (some ((rd_T65 l1 t154).f3.f0, (rd_T65 l1 t154).f3.f1, (rd_T65 l1 t154).f3.f2, (rd_T65 l1 t154).f3.f3, true)) else (some (0, 0, 0, (⟨#[]⟩ : ByteArray), false)))) else (none)) else (none)) else (none)) else (none))))) = some (r1, r2, r3, r4, r5) := H
  have A3 := Aside0.mk A30; clear A30; replace H := Option.bind_eq_some_iff.mp H
  obtain ⟨t154, A40, H⟩ := H
  replace H : (if t153 < 0 then (some (0, 0, 0, (⟨#[]⟩ : ByteArray), false)) else (if t154 < t153 then (some (0, 0, 0, (⟨#[]⟩ : ByteArray), false)) else (if 0 ≤ t153 then (if t153 < (l1.length : Int) then (if 0 ≤ t154 then (if t154 < (l1.length : Int) then ((signalboxref23_Differ.f k a0_0 a0_1 a0_2 a0_3 a0_4 a0_5 ((rd_T65 l1 t153).f2.f2.f0) ((rd_T65 l1 t153).f2.f2.f1) ((rd_T65 l1 t153).f2.f2.f2) ((rd_T65 l1 t153).f2.f2.f3) ((rd_T65 l1 t154).f3.f0) ((rd_T65 l1 t154).f3.f1) ((rd_T65 l1 t154).f3.f2) ((rd_T65 l1 t154).f3.f3)).bind fun t157 => (if t157 = true then (some ((rd_T65 l1 t154).f3.f0, (rd_T65 l1 t154).f3.f1, (rd_T65 l1 t154).f3.f2, (rd_T65 l1 t154).f3.f3, true)) else (some (0, 0, 0, (⟨#[]⟩ : ByteArray), false)))) else (none)) else (none)) else (none)) else (none)))) = some (r1, r2, r3, r4, r5) := H
  have A4 := Aside0.mk A40; clear A40; by_cases c5 : t153 < 0
  · rw [if_pos c5] at H
    have c5b0 : decide (t153 < 0) = true := decide_eq_true c5
    clear c5; simp only [Option.some.injEq, Prod.mk.injEq] at H
    obtain ⟨rfl, rfl, rfl, rfl, rfl⟩ := H
    go_enter Try.func27, Try.ntmps27
    try go_wp2_with (first | ((with_reducible refine gate_dst (N := 2) rfl ?_); refine box_event ?hg (N := 2) ?hd (cs := #[.int .u32 a0_0, .int .u32 a0_1, .bool a0_2, .string a0_3, .int .i64 a0_4, .int .i64 a0_5]) (t := 31) ?hr ?_; (case hd => rfl); (case hg => rfl); (case hr => first | (go_simp; done) | (go_simp; rfl)); intro gb151 hg w6 hbox hb; have n0_ := Aside0.mk (below_step (pe HB) hb); have n1_ := Aside0.mk (hbox); have n2_ := Aside0.mk ((by rw [hg]; exact (below_size (pe HB)) : w.heap.size ≤ gb151)); have n3_ := Aside0.mk ((by rw [hg]; exact (below_size (pe HB)) : w.heap.size ≤ gb151)); clear HB; have HB := n0_; have BK151 := n1_; have GW151 := n2_; have GE151 := n3_; clear n0_ n1_ n2_ n3_; clear hb hbox hg) | ((with_reducible refine gate_dst (N := 4) rfl ?_); refine box_event ?hg (N := 4) ?hd (cs := #[.int .i64 0, .int .i64 0, .int .i64 0, .string (⟨#[]⟩ : ByteArray)]) (t := 33) ?hr ?_; (case hd => rfl); (case hg => rfl); (case hr => first | (go_simp; done) | (go_simp; rfl)); intro gb152 hg w7 hbox hb; have n0_ := Aside0.mk (blk_below (pb BK151) hb); have n1_ := Aside0.mk (below_step (by repeat (first | (with_reducible first | exact HB.out | apply ba_ | apply bd_ | apply be_ | refine below_set ?_ GE151.out) | exact HB.out)) hb); have n2_ := Aside0.mk (hbox); have n3_ := Aside0.mk ((by rw [hg]; exact (below_size (by repeat (first | (with_reducible first | exact HB.out | apply ba_ | apply bd_ | apply be_ | refine below_set ?_ GE151.out) | exact HB.out))) : w.heap.size ≤ gb152)); have n4_ := Aside0.mk ((by rw [hg]; exact (below_size (by repeat (first | (with_reducible first | exact HB.out | apply ba_ | apply bd_ | apply be_ | refine below_set ?_ GE151.out) | exact HB.out))) : w.heap.size ≤ gb152)); have n5_ := Aside0.mk ((by rw [hg]; exact Nat.ne_of_lt (blk_lt (pb BK151)) : gb151 ≠ gb152)); have n6_ := Aside0.mk ((by rw [hg]; exact Nat.ne_of_gt (blk_lt (pb BK151)) : gb152 ≠ gb151)); clear BK151; clear HB; have BK151 := n0_; have HB := n1_; have BK152 := n2_; have GW152 := n3_; have GE152 := n4_; have NB151_152 := n5_; have NB152_151 := n6_; clear n0_ n1_ n2_ n3_ n4_ n5_ n6_; clear hb hbox hg) | ((with_reducible refine gate_callee (f := 36) rfl ?_); refine goesL_ (some 9) rfl rfl Try.func36 (by kernel_rfl) rfl #[.slice A1 l1.length c1] rfl (by (try simp only [List.map_toArray, List.map_cons, List.map_nil]); first | done | rfl | (simp only [List.length_drop, List.length_take]; rfl)) ?_; (with_reducible refine (signalboxref23_last.calls k _ _ l1 t153 _ ?side1 ?side2 A3.out).mono ?_); (case side1 => repeat (first | exact (Kd.C_below HR1.out HB.out) | (with_reducible refine Kd.C_alloc ?_ _) | (with_reducible refine Kd.C_drewN ?_ _) | (with_reducible refine Kd.C_drew ?_))); (case side2 => exact HC1.out); rintro e w' ⟨rfl, ⟨nd, rfl⟩⟩; refine ⟨_, rfl, ?_⟩; (try (rw [drewN_self w7]; generalize hq_ : World.drewN w7 _ = w7; have n0_ : Aside0 (w7.heap[gb151]? = some (.cells #[.int .u32 a0_0, .int .u32 a0_1, .bool a0_2, .string a0_3, .int .i64 a0_4, .int .i64 a0_5] 31 (0, 0))) := ⟨by rw [← hq_]; exact (pb BK151)⟩; have n1_ : Aside0 (w7.heap[gb152]? = some (.cells #[.int .i64 0, .int .i64 0, .int .i64 0, .string (⟨#[]⟩ : ByteArray)] 33 (0, 0))) := ⟨by rw [← hq_]; exact (pb BK152)⟩; have n2_ : Aside0 (Below w.heap.size w w7) := ⟨by rw [← hq_]; exact (by repeat (first | (with_reducible first | exact HB.out | apply ba_ | apply bd_ | apply be_ | refine below_set ?_ GE151.out | refine below_set ?_ GE152.out) | exact HB.out))⟩; clear BK151 BK152 HB hq_; have BK151 := n0_; have BK152 := n1_; have HB := n2_; clear n0_ n1_ n2_))) | ((with_reducible refine gate_callee (f := 39) rfl ?_); refine goesL_ (some 11) rfl rfl Try.func39 (by kernel_rfl) rfl #[.slice A1 l1.length c1] rfl (by (try simp only [List.map_toArray, List.map_cons, List.map_nil]); first | done | rfl | (simp only [List.length_drop, List.length_take]; rfl)) ?_; (with_reducible refine (signalboxref23_heard.calls k _ _ l1 t154 _ ?side1 ?side2 A4.out).mono ?_); (case side1 => repeat (first | exact (Kd.C_below HR1.out HB.out) | (with_reducible refine Kd.C_alloc ?_ _) | (with_reducible refine Kd.C_drewN ?_ _) | (with_reducible refine Kd.C_drew ?_))); (case side2 => exact HC1.out); rintro e w' ⟨rfl, ⟨nd, rfl⟩⟩; refine ⟨_, rfl, ?_⟩; (try (rw [drewN_self w7]; generalize hq_ : World.drewN w7 _ = w7; have n0_ : Aside0 (w7.heap[gb151]? = some (.cells #[.int .u32 a0_0, .int .u32 a0_1, .bool a0_2, .string a0_3, .int .i64 a0_4, .int .i64 a0_5] 31 (0, 0))) := ⟨by rw [← hq_]; exact (pb BK151)⟩; have n1_ : Aside0 (w7.heap[gb152]? = some (.cells #[.int .i64 0, .int .i64 0, .int .i64 0, .string (⟨#[]⟩ : ByteArray)] 33 (0, 0))) := ⟨by rw [← hq_]; exact (pb BK152)⟩; have n2_ : Aside0 (Below w.heap.size w w7) := ⟨by rw [← hq_]; exact (by repeat (first | (with_reducible first | exact HB.out | apply ba_ | apply bd_ | apply be_ | refine below_set ?_ GE151.out | refine below_set ?_ GE152.out) | exact HB.out))⟩; clear BK151 BK152 HB hq_; have BK151 := n0_; have BK152 := n1_; have HB := n2_; clear n0_ n1_ n2_))))
    have n0_ := Aside0.mk (blk_drew BK151.out)
    have n1_ := Aside0.mk (blk_drew BK152.out)
    have n2_ := Aside0.mk (below_drew1 HB.out)
    clear BK151; clear BK152; clear HB; have BK151 := n0_
    have BK152 := n1_
    have HB := n2_
    clear n0_ n1_ n2_; refine start_ (n := 23) (S := fun w' => True) (ds := []) #[false, false, false, false, false, false, false, false, false, false, false, false, false, false, false, false, false, false, false, false, false, false, false] (by kernel_rfl) rfl rfl trivial (fun hHeld => ?_); refine with_tabW signalboxref23_Held.tab2 signalboxref23_Held.bits2 (fun HT_ HW_ => ?_)
    generalize w7.drew = w8 at BK151 BK152 HB hHeld ⊢
    refine pure_ (i := 0) (N := some 12) (v := ?_) (a' := ?_) #[true, false, false, false, false, false, false, false, false, false, false, false, false, false, false, false, false, false, false, false, false, false, false] rfl rfl (any_of HT_.out (by kernel_rfl)) (fun _ _ _ h => h) (Or.inl ⟨by rfl, ?_⟩) ?_ ?_
    rotate_left
    · intro w'
      go_simp
      with_reducible rfl
    rotate_left
    · simp only [Act.put, sa_, sb_, sc_, i64_w, i32_w]; rfl
    refine pure_ (i := 1) (N := some 13) (v := ?_) (a' := ?_) #[true, true, false, false, false, false, false, false, false, false, false, false, false, false, false, false, false, false, false, false, false, false, false] rfl rfl (any_of HT_.out (by kernel_rfl)) (fun _ _ _ h => h) (Or.inl ⟨by rfl, ?_⟩) ?_ ?_
    rotate_left
    · intro w'
      go_simp
      with_reducible rfl
    rotate_left
    · simp only [Act.put, sa_, sb_, sc_, i64_w, i32_w]; rfl
    refine pure_ (i := 2) (N := some 14) (v := ?_) (a' := ?_) #[true, true, true, false, false, false, false, false, false, false, false, false, false, false, false, false, false, false, false, false, false, false, false] rfl rfl (any_of HT_.out (by kernel_rfl)) (fun _ _ _ h => h) (Or.inl ⟨by rfl, ?_⟩) ?_ ?_
    rotate_left
    · intro w'
      go_simp
      with_reducible rfl
    rotate_left
    · simp only [Act.put, sa_, sb_, sc_, i64_w, i32_w]; rfl
    refine pure_ (i := 3) (N := some 15) (v := undef) (a' := ?_) #[true, true, true, true, false, false, false, false, false, false, false, false, false, false, false, false, false, false, false, false, false, false, false] rfl rfl (any_of HT_.out (by kernel_rfl)) (fun _ _ _ h => h) (Or.inr ⟨by rfl, rfl⟩) ?_ ?_
    rotate_left
    · simp only [Act.put, sa_, sb_, sc_, i64_w, i32_w]; rfl
    refine pure_ (i := 4) (N := some 16) (v := undef) (a' := ?_) #[true, true, true, true, true, false, false, false, false, false, false, false, false, false, false, false, false, false, false, false, false, false, false] rfl rfl (any_of HT_.out (by kernel_rfl)) (fun _ _ _ h => h) (Or.inr ⟨by rfl, rfl⟩) ?_ ?_
    rotate_left
    · simp only [Act.put, sa_, sb_, sc_, i64_w, i32_w]; rfl
    refine pure_ (i := 5) (N := some 17) (v := undef) (a' := ?_) #[true, true, true, true, true, true, false, false, false, false, false, false, false, false, false, false, false, false, false, false, false, false, false] rfl rfl (any_of HT_.out (by kernel_rfl)) (fun _ _ _ h => h) (Or.inr ⟨by rfl, rfl⟩) ?_ ?_
    rotate_left
    · simp only [Act.put, sa_, sb_, sc_, i64_w, i32_w]; rfl
    refine pure_ (i := 6) (N := some 18) (v := ?_) (a' := ?_) #[true, true, true, true, true, true, true, false, false, false, false, false, false, false, false, false, false, false, false, false, false, false, false] rfl rfl (any_of HT_.out (by kernel_rfl)) (fun _ _ _ h => h) (Or.inl ⟨by rfl, ?_⟩) ?_ ?_
    rotate_left
    · intro w'
      go_simp
      with_reducible rfl
    rotate_left
    · simp only [Act.put, sa_, sb_, sc_, i64_w, i32_w]; rfl
    refine pure_ (i := 7) (N := some 19) (v := ?_) (a' := ?_) #[true, true, true, true, true, true, true, true, false, false, false, false, false, false, false, false, false, false, false, false, false, false, false] rfl rfl (any_of HT_.out (by kernel_rfl)) (fun _ _ _ h => h) (Or.inl ⟨by rfl, ?_⟩) ?_ ?_
    rotate_left
    · intro w'
      go_simp
      with_reducible rfl
    rotate_left
    · simp only [Act.put, sa_, sb_, sc_, i64_w, i32_w]; rfl
    refine pure_ (i := 8) (N := some 20) (v := undef) (a' := ?_) #[true, true, true, true, true, true, true, true, true, false, false, false, false, false, false, false, false, false, false, false, false, false, false] rfl rfl (any_of HT_.out (by kernel_rfl)) (fun _ _ _ h => h) (Or.inr ⟨by rfl, rfl⟩) ?_ ?_
    rotate_left
    · simp only [Act.put, sa_, sb_, sc_, i64_w, i32_w]; rfl
    refine pure_ (i := 9) (N := some 21) (v := undef) (a' := ?_) #[true, true, true, true, true, true, true, true, true, true, false, false, false, false, false, false, false, false, false, false, false, false, false] rfl rfl (any_of HT_.out (by kernel_rfl)) (fun _ _ _ h => h) (Or.inr ⟨by rfl, rfl⟩) ?_ ?_
    rotate_left
    · simp only [Act.put, sa_, sb_, sc_, i64_w, i32_w]; rfl
    refine pure_ (i := 10) (N := some 22) (v := undef) (a' := ?_) #[true, true, true, true, true, true, true, true, true, true, true, false, false, false, false, false, false, false, false, false, false, false, false] rfl rfl (any_of HT_.out (by kernel_rfl)) (fun _ _ _ h => h) (Or.inr ⟨by rfl, rfl⟩) ?_ ?_
    rotate_left
    · simp only [Act.put, sa_, sb_, sc_, i64_w, i32_w]; rfl
    refine pure_ (i := 11) (N := some 23) (v := undef) (a' := ?_) #[true, true, true, true, true, true, true, true, true, true, true, true, false, false, false, false, false, false, false, false, false, false, false] rfl rfl (any_of HT_.out (by kernel_rfl)) (fun _ _ _ h => h) (Or.inr ⟨by rfl, rfl⟩) ?_ ?_
    rotate_left
    · simp only [Act.put, sa_, sb_, sc_, i64_w, i32_w]; rfl
    refine pure_ (i := 12) (N := some 24) (v := undef) (a' := ?_) #[true, true, true, true, true, true, true, true, true, true, true, true, true, false, false, false, false, false, false, false, false, false, false] rfl rfl (any_of HT_.out (by kernel_rfl)) (fun _ _ _ h => h) (Or.inr ⟨by rfl, rfl⟩) ?_ ?_
    rotate_left
    · simp only [Act.put, sa_, sb_, sc_, i64_w, i32_w]; rfl
    refine pure_ (i := 13) (N := some 25) (v := undef) (a' := ?_) #[true, true, true, true, true, true, true, true, true, true, true, true, true, true, false, false, false, false, false, false, false, false, false] rfl rfl (any_of HT_.out (by kernel_rfl)) (fun _ _ _ h => h) (Or.inr ⟨by rfl, rfl⟩) ?_ ?_
    rotate_left
    · simp only [Act.put, sa_, sb_, sc_, i64_w, i32_w]; rfl
    refine pure_ (i := 14) (N := some 26) (v := undef) (a' := ?_) #[true, true, true, true, true, true, true, true, true, true, true, true, true, true, true, false, false, false, false, false, false, false, false] rfl rfl (any_of HT_.out (by kernel_rfl)) (fun _ _ _ h => h) (Or.inr ⟨by rfl, rfl⟩) ?_ ?_
    rotate_left
    · simp only [Act.put, sa_, sb_, sc_, i64_w, i32_w]; rfl
    refine pure_ (i := 15) (N := some 27) (v := undef) (a' := ?_) #[true, true, true, true, true, true, true, true, true, true, true, true, true, true, true, true, false, false, false, false, false, false, false] rfl rfl (any_of HT_.out (by kernel_rfl)) (fun _ _ _ h => h) (Or.inr ⟨by rfl, rfl⟩) ?_ ?_
    rotate_left
    · simp only [Act.put, sa_, sb_, sc_, i64_w, i32_w]; rfl
    refine pure_ (i := 16) (N := some 28) (v := undef) (a' := ?_) #[true, true, true, true, true, true, true, true, true, true, true, true, true, true, true, true, true, false, false, false, false, false, false] rfl rfl (any_of HT_.out (by kernel_rfl)) (fun _ _ _ h => h) (Or.inr ⟨by rfl, rfl⟩) ?_ ?_
    rotate_left
    · simp only [Act.put, sa_, sb_, sc_, i64_w, i32_w]; rfl
    refine pure_ (i := 17) (N := some 29) (v := undef) (a' := ?_) #[true, true, true, true, true, true, true, true, true, true, true, true, true, true, true, true, true, true, false, false, false, false, false] rfl rfl (any_of HT_.out (by kernel_rfl)) (fun _ _ _ h => h) (Or.inr ⟨by rfl, rfl⟩) ?_ ?_
    rotate_left
    · simp only [Act.put, sa_, sb_, sc_, i64_w, i32_w]; rfl
    refine pure_ (i := 18) (N := some 30) (v := undef) (a' := ?_) #[true, true, true, true, true, true, true, true, true, true, true, true, true, true, true, true, true, true, true, false, false, false, false] rfl rfl (any_of HT_.out (by kernel_rfl)) (fun _ _ _ h => h) (Or.inr ⟨by rfl, rfl⟩) ?_ ?_
    rotate_left
    · simp only [Act.put, sa_, sb_, sc_, i64_w, i32_w]; rfl
    refine pure_ (i := 19) (N := some 31) (v := undef) (a' := ?_) #[true, true, true, true, true, true, true, true, true, true, true, true, true, true, true, true, true, true, true, true, false, false, false] rfl rfl (any_of HT_.out (by kernel_rfl)) (fun _ _ _ h => h) (Or.inr ⟨by rfl, rfl⟩) ?_ ?_
    rotate_left
    · simp only [Act.put, sa_, sb_, sc_, i64_w, i32_w]; rfl
    refine pure_ (i := 20) (N := some 32) (v := undef) (a' := ?_) #[true, true, true, true, true, true, true, true, true, true, true, true, true, true, true, true, true, true, true, true, true, false, false] rfl rfl (any_of HT_.out (by kernel_rfl)) (fun _ _ _ h => h) (Or.inr ⟨by rfl, rfl⟩) ?_ ?_
    rotate_left
    · simp only [Act.put, sa_, sb_, sc_, i64_w, i32_w]; rfl
    refine pure_ (i := 21) (N := some 33) (v := undef) (a' := ?_) #[true, true, true, true, true, true, true, true, true, true, true, true, true, true, true, true, true, true, true, true, true, true, false] rfl rfl (any_of HT_.out (by kernel_rfl)) (fun _ _ _ h => h) (Or.inr ⟨by rfl, rfl⟩) ?_ ?_
    rotate_left
    · simp only [Act.put, sa_, sb_, sc_, i64_w, i32_w]; rfl
    refine pure_ (i := 22) (N := some 34) (v := ?_) (a' := ?_) #[true, true, true, true, true, true, true, true, true, true, true, true, true, true, true, true, true, true, true, true, true, true, true] rfl rfl (any_of HT_.out (by kernel_rfl)) (fun _ _ _ h => h) (Or.inl ⟨by rfl, ?_⟩) ?_ ?_
    rotate_left
    · intro w'
      go_simp
      with_reducible rfl
    rotate_left
    · simp only [Act.put, sa_, sb_, sc_, i64_w, i32_w]; rfl
    refine done_ (done_of HT_.out (by kernel_rfl)) ?_
    have hnb9 := NB152_151.out
    have hnc9 := NB151_152.out
    have hcz10_0 : w8.cell? ⟨gb152, 0, none⟩ = some (.int .i64 0) := (blk_cell BK152.out 0).trans rfl
    have hcz10_1 : w8.cell? ⟨gb152, 1, none⟩ = some (.int .i64 0) := (blk_cell BK152.out 1).trans rfl
    have hcz10_2 : w8.cell? ⟨gb152, 2, none⟩ = some (.int .i64 0) := (blk_cell BK152.out 2).trans rfl
    have hcz10_3 : w8.cell? ⟨gb152, 3, none⟩ = some (.string (⟨#[]⟩ : ByteArray)) := (blk_cell BK152.out 3).trans rfl
    have hfz10_0 := blk_frozen BK152.out 0
    have hfz10_1 := blk_frozen BK152.out 1
    have hfz10_2 := blk_frozen BK152.out 2
    have hfz10_3 := blk_frozen BK152.out 3
    try go_wp2
    refine bodyPost_ret (results_ct rfl _ _ gb152 33 #[.int .i64 0, .int .i64 0, .int .i64 0, .string (⟨#[]⟩ : ByteArray)] (0, 0) _ rfl (by (with_reducible repeat (first | refine kd_ ?_ _ | refine ke_ ?_ | refine ka_ ?_ _)); refine blk_put (cs := #[.int .i64 0, .int .i64 0, .int .i64 0, .string (⟨#[]⟩ : ByteArray)]) ?_ 3 _ rfl; (with_reducible repeat (first | refine kd_ ?_ _ | refine ke_ ?_ | refine ka_ ?_ _)); refine blk_put (cs := #[.int .i64 0, .int .i64 0, .int .i64 0, .string (⟨#[]⟩ : ByteArray)]) ?_ 2 _ rfl; (with_reducible repeat (first | refine kd_ ?_ _ | refine ke_ ?_ | refine ka_ ?_ _)); refine blk_put (cs := #[.int .i64 0, .int .i64 0, .int .i64 0, .string (⟨#[]⟩ : ByteArray)]) ?_ 1 _ rfl; (with_reducible repeat (first | refine kd_ ?_ _ | refine ke_ ?_ | refine ka_ ?_ _)); refine blk_put (cs := #[.int .i64 0, .int .i64 0, .int .i64 0, .string (⟨#[]⟩ : ByteArray)]) ?_ 0 _ rfl; (with_reducible repeat (first | refine kd_ ?_ _ | refine ke_ ?_ | refine ka_ ?_ _)); exact BK152.out) Try.underlying33 rfl (by kernel_rfl)) rfl ?_
    exact ⟨by first | rfl | (simp [errW_none, errW_some] <;> rfl) | (simp [*, errW_none, errW_some] <;> rfl), by repeat (first | (with_reducible first | exact HB.out | apply ba_ | apply bd_ | apply be_ | refine below_set ?_ GE151.out | refine below_set ?_ GE152.out) | exact HB.out)⟩
  · rw [if_neg c5] at H
    have c5b0 : decide (t153 < 0) = false := decide_eq_false c5
    clear c5; by_cases c11 : t154 < t153
    · rw [if_pos c11] at H
      have c11b0 : decide (t154 < t153) = true := decide_eq_true c11
      clear c11; simp only [Option.some.injEq, Prod.mk.injEq] at H
      obtain ⟨rfl, rfl, rfl, rfl, rfl⟩ := H
      go_enter Try.func27, Try.ntmps27
      try go_wp2_with (first | ((with_reducible refine gate_dst (N := 2) rfl ?_); refine box_event ?hg (N := 2) ?hd (cs := #[.int .u32 a0_0, .int .u32 a0_1, .bool a0_2, .string a0_3, .int .i64 a0_4, .int .i64 a0_5]) (t := 31) ?hr ?_; (case hd => rfl); (case hg => rfl); (case hr => first | (go_simp; done) | (go_simp; rfl)); intro gb151 hg w12 hbox hb; have n0_ := Aside0.mk (below_step (pe HB) hb); have n1_ := Aside0.mk (hbox); have n2_ := Aside0.mk ((by rw [hg]; exact (below_size (pe HB)) : w.heap.size ≤ gb151)); have n3_ := Aside0.mk ((by rw [hg]; exact (below_size (pe HB)) : w.heap.size ≤ gb151)); clear HB; have HB := n0_; have BK151 := n1_; have GW151 := n2_; have GE151 := n3_; clear n0_ n1_ n2_ n3_; clear hb hbox hg) | ((with_reducible refine gate_dst (N := 4) rfl ?_); refine box_event ?hg (N := 4) ?hd (cs := #[.int .i64 0, .int .i64 0, .int .i64 0, .string (⟨#[]⟩ : ByteArray)]) (t := 33) ?hr ?_; (case hd => rfl); (case hg => rfl); (case hr => first | (go_simp; done) | (go_simp; rfl)); intro gb152 hg w13 hbox hb; have n0_ := Aside0.mk (blk_below (pb BK151) hb); have n1_ := Aside0.mk (below_step (by repeat (first | (with_reducible first | exact HB.out | apply ba_ | apply bd_ | apply be_ | refine below_set ?_ GE151.out) | exact HB.out)) hb); have n2_ := Aside0.mk (hbox); have n3_ := Aside0.mk ((by rw [hg]; exact (below_size (by repeat (first | (with_reducible first | exact HB.out | apply ba_ | apply bd_ | apply be_ | refine below_set ?_ GE151.out) | exact HB.out))) : w.heap.size ≤ gb152)); have n4_ := Aside0.mk ((by rw [hg]; exact (below_size (by repeat (first | (with_reducible first | exact HB.out | apply ba_ | apply bd_ | apply be_ | refine below_set ?_ GE151.out) | exact HB.out))) : w.heap.size ≤ gb152)); have n5_ := Aside0.mk ((by rw [hg]; exact Nat.ne_of_lt (blk_lt (pb BK151)) : gb151 ≠ gb152)); have n6_ := Aside0.mk ((by rw [hg]; exact Nat.ne_of_gt (blk_lt (pb BK151)) : gb152 ≠ gb151)); clear BK151; clear HB; have BK151 := n0_; have HB := n1_; have BK152 := n2_; have GW152 := n3_; have GE152 := n4_; have NB151_152 := n5_; have NB152_151 := n6_; clear n0_ n1_ n2_ n3_ n4_ n5_ n6_; clear hb hbox hg) | ((with_reducible refine gate_callee (f := 36) rfl ?_); refine goesL_ (some 9) rfl rfl Try.func36 (by kernel_rfl) rfl #[.slice A1 l1.length c1] rfl (by (try simp only [List.map_toArray, List.map_cons, List.map_nil]); first | done | rfl | (simp only [List.length_drop, List.length_take]; rfl)) ?_; (with_reducible refine (signalboxref23_last.calls k _ _ l1 t153 _ ?side1 ?side2 A3.out).mono ?_); (case side1 => repeat (first | exact (Kd.C_below HR1.out HB.out) | (with_reducible refine Kd.C_alloc ?_ _) | (with_reducible refine Kd.C_drewN ?_ _) | (with_reducible refine Kd.C_drew ?_))); (case side2 => exact HC1.out); rintro e w' ⟨rfl, ⟨nd, rfl⟩⟩; refine ⟨_, rfl, ?_⟩; (try (rw [drewN_self w13]; generalize hq_ : World.drewN w13 _ = w13; have n0_ : Aside0 (w13.heap[gb151]? = some (.cells #[.int .u32 a0_0, .int .u32 a0_1, .bool a0_2, .string a0_3, .int .i64 a0_4, .int .i64 a0_5] 31 (0, 0))) := ⟨by rw [← hq_]; exact (pb BK151)⟩; have n1_ : Aside0 (w13.heap[gb152]? = some (.cells #[.int .i64 0, .int .i64 0, .int .i64 0, .string (⟨#[]⟩ : ByteArray)] 33 (0, 0))) := ⟨by rw [← hq_]; exact (pb BK152)⟩; have n2_ : Aside0 (Below w.heap.size w w13) := ⟨by rw [← hq_]; exact (by repeat (first | (with_reducible first | exact HB.out | apply ba_ | apply bd_ | apply be_ | refine below_set ?_ GE151.out | refine below_set ?_ GE152.out) | exact HB.out))⟩; clear BK151 BK152 HB hq_; have BK151 := n0_; have BK152 := n1_; have HB := n2_; clear n0_ n1_ n2_))) | ((with_reducible refine gate_callee (f := 39) rfl ?_); refine goesL_ (some 11) rfl rfl Try.func39 (by kernel_rfl) rfl #[.slice A1 l1.length c1] rfl (by (try simp only [List.map_toArray, List.map_cons, List.map_nil]); first | done | rfl | (simp only [List.length_drop, List.length_take]; rfl)) ?_; (with_reducible refine (signalboxref23_heard.calls k _ _ l1 t154 _ ?side1 ?side2 A4.out).mono ?_); (case side1 => repeat (first | exact (Kd.C_below HR1.out HB.out) | (with_reducible refine Kd.C_alloc ?_ _) | (with_reducible refine Kd.C_drewN ?_ _) | (with_reducible refine Kd.C_drew ?_))); (case side2 => exact HC1.out); rintro e w' ⟨rfl, ⟨nd, rfl⟩⟩; refine ⟨_, rfl, ?_⟩; (try (rw [drewN_self w13]; generalize hq_ : World.drewN w13 _ = w13; have n0_ : Aside0 (w13.heap[gb151]? = some (.cells #[.int .u32 a0_0, .int .u32 a0_1, .bool a0_2, .string a0_3, .int .i64 a0_4, .int .i64 a0_5] 31 (0, 0))) := ⟨by rw [← hq_]; exact (pb BK151)⟩; have n1_ : Aside0 (w13.heap[gb152]? = some (.cells #[.int .i64 0, .int .i64 0, .int .i64 0, .string (⟨#[]⟩ : ByteArray)] 33 (0, 0))) := ⟨by rw [← hq_]; exact (pb BK152)⟩; have n2_ : Aside0 (Below w.heap.size w w13) := ⟨by rw [← hq_]; exact (by repeat (first | (with_reducible first | exact HB.out | apply ba_ | apply bd_ | apply be_ | refine below_set ?_ GE151.out | refine below_set ?_ GE152.out) | exact HB.out))⟩; clear BK151 BK152 HB hq_; have BK151 := n0_; have BK152 := n1_; have HB := n2_; clear n0_ n1_ n2_))))
      have n0_ := Aside0.mk (blk_drew BK151.out)
      have n1_ := Aside0.mk (blk_drew BK152.out)
      have n2_ := Aside0.mk (below_drew1 HB.out)
      clear BK151; clear BK152; clear HB; have BK151 := n0_
      have BK152 := n1_
      have HB := n2_
      clear n0_ n1_ n2_; refine start_ (n := 23) (S := fun w' => True) (ds := []) #[false, false, false, false, false, false, false, false, false, false, false, false, false, false, false, false, false, false, false, false, false, false, false] (by kernel_rfl) rfl rfl trivial (fun hHeld => ?_); refine with_tabW signalboxref23_Held.tab2 signalboxref23_Held.bits2 (fun HT_ HW_ => ?_)
      generalize w13.drew = w14 at BK151 BK152 HB hHeld ⊢
      refine pure_ (i := 0) (N := some 12) (v := ?_) (a' := ?_) #[true, false, false, false, false, false, false, false, false, false, false, false, false, false, false, false, false, false, false, false, false, false, false] rfl rfl (any_of HT_.out (by kernel_rfl)) (fun _ _ _ h => h) (Or.inl ⟨by rfl, ?_⟩) ?_ ?_
      rotate_left
      · intro w'
        go_simp
        with_reducible rfl
      rotate_left
      · simp only [Act.put, sa_, sb_, sc_, i64_w, i32_w]; rfl
      refine pure_ (i := 1) (N := some 13) (v := ?_) (a' := ?_) #[true, true, false, false, false, false, false, false, false, false, false, false, false, false, false, false, false, false, false, false, false, false, false] rfl rfl (any_of HT_.out (by kernel_rfl)) (fun _ _ _ h => h) (Or.inl ⟨by rfl, ?_⟩) ?_ ?_
      rotate_left
      · intro w'
        go_simp
        with_reducible rfl
      rotate_left
      · simp only [Act.put, sa_, sb_, sc_, i64_w, i32_w]; rfl
      refine pure_ (i := 2) (N := some 14) (v := ?_) (a' := ?_) #[true, true, true, false, false, false, false, false, false, false, false, false, false, false, false, false, false, false, false, false, false, false, false] rfl rfl (any_of HT_.out (by kernel_rfl)) (fun _ _ _ h => h) (Or.inl ⟨by rfl, ?_⟩) ?_ ?_
      rotate_left
      · intro w'
        go_simp
        with_reducible rfl
      rotate_left
      · simp only [Act.put, sa_, sb_, sc_, i64_w, i32_w]; rfl
      refine pure_ (i := 3) (N := some 15) (v := ?_) (a' := ?_) #[true, true, true, true, false, false, false, false, false, false, false, false, false, false, false, false, false, false, false, false, false, false, false] rfl rfl (any_of HT_.out (by kernel_rfl)) (fun _ _ _ h => h) (Or.inl ⟨by rfl, ?_⟩) ?_ ?_
      rotate_left
      · intro w'
        go_simp
        with_reducible rfl
      rotate_left
      · simp only [Act.put, sa_, sb_, sc_, i64_w, i32_w]; rfl
      refine pure_ (i := 4) (N := some 16) (v := ?_) (a' := ?_) #[true, true, true, true, true, false, false, false, false, false, false, false, false, false, false, false, false, false, false, false, false, false, false] rfl rfl (any_of HT_.out (by kernel_rfl)) (fun _ _ _ h => h) (Or.inl ⟨by rfl, ?_⟩) ?_ ?_
      rotate_left
      · intro w'
        go_simp
        with_reducible rfl
      rotate_left
      · simp only [Act.put, sa_, sb_, sc_, i64_w, i32_w]; rfl
      refine pure_ (i := 5) (N := some 17) (v := ?_) (a' := ?_) #[true, true, true, true, true, true, false, false, false, false, false, false, false, false, false, false, false, false, false, false, false, false, false] rfl rfl (any_of HT_.out (by kernel_rfl)) (fun _ _ _ h => h) (Or.inl ⟨by rfl, ?_⟩) ?_ ?_
      rotate_left
      · intro w'
        go_simp
        with_reducible rfl
      rotate_left
      · simp only [Act.put, sa_, sb_, sc_, i64_w, i32_w]; rfl
      refine pure_ (i := 6) (N := some 18) (v := ?_) (a' := ?_) #[true, true, true, true, true, true, true, false, false, false, false, false, false, false, false, false, false, false, false, false, false, false, false] rfl rfl (any_of HT_.out (by kernel_rfl)) (fun _ _ _ h => h) (Or.inl ⟨by rfl, ?_⟩) ?_ ?_
      rotate_left
      · intro w'
        go_simp
        with_reducible rfl
      rotate_left
      · simp only [Act.put, sa_, sb_, sc_, i64_w, i32_w]; rfl
      refine pure_ (i := 7) (N := some 19) (v := ?_) (a' := ?_) #[true, true, true, true, true, true, true, true, false, false, false, false, false, false, false, false, false, false, false, false, false, false, false] rfl rfl (any_of HT_.out (by kernel_rfl)) (fun _ _ _ h => h) (Or.inl ⟨by rfl, ?_⟩) ?_ ?_
      rotate_left
      · intro w'
        go_simp
        with_reducible rfl
      rotate_left
      · simp only [Act.put, sa_, sb_, sc_, i64_w, i32_w]; rfl
      refine pure_ (i := 8) (N := some 20) (v := undef) (a' := ?_) #[true, true, true, true, true, true, true, true, true, false, false, false, false, false, false, false, false, false, false, false, false, false, false] rfl rfl (any_of HT_.out (by kernel_rfl)) (fun _ _ _ h => h) (Or.inr ⟨by rfl, rfl⟩) ?_ ?_
      rotate_left
      · simp only [Act.put, sa_, sb_, sc_, i64_w, i32_w]; rfl
      refine pure_ (i := 9) (N := some 21) (v := undef) (a' := ?_) #[true, true, true, true, true, true, true, true, true, true, false, false, false, false, false, false, false, false, false, false, false, false, false] rfl rfl (any_of HT_.out (by kernel_rfl)) (fun _ _ _ h => h) (Or.inr ⟨by rfl, rfl⟩) ?_ ?_
      rotate_left
      · simp only [Act.put, sa_, sb_, sc_, i64_w, i32_w]; rfl
      refine pure_ (i := 10) (N := some 22) (v := undef) (a' := ?_) #[true, true, true, true, true, true, true, true, true, true, true, false, false, false, false, false, false, false, false, false, false, false, false] rfl rfl (any_of HT_.out (by kernel_rfl)) (fun _ _ _ h => h) (Or.inr ⟨by rfl, rfl⟩) ?_ ?_
      rotate_left
      · simp only [Act.put, sa_, sb_, sc_, i64_w, i32_w]; rfl
      refine pure_ (i := 11) (N := some 23) (v := undef) (a' := ?_) #[true, true, true, true, true, true, true, true, true, true, true, true, false, false, false, false, false, false, false, false, false, false, false] rfl rfl (any_of HT_.out (by kernel_rfl)) (fun _ _ _ h => h) (Or.inr ⟨by rfl, rfl⟩) ?_ ?_
      rotate_left
      · simp only [Act.put, sa_, sb_, sc_, i64_w, i32_w]; rfl
      refine pure_ (i := 12) (N := some 24) (v := undef) (a' := ?_) #[true, true, true, true, true, true, true, true, true, true, true, true, true, false, false, false, false, false, false, false, false, false, false] rfl rfl (any_of HT_.out (by kernel_rfl)) (fun _ _ _ h => h) (Or.inr ⟨by rfl, rfl⟩) ?_ ?_
      rotate_left
      · simp only [Act.put, sa_, sb_, sc_, i64_w, i32_w]; rfl
      refine pure_ (i := 13) (N := some 25) (v := undef) (a' := ?_) #[true, true, true, true, true, true, true, true, true, true, true, true, true, true, false, false, false, false, false, false, false, false, false] rfl rfl (any_of HT_.out (by kernel_rfl)) (fun _ _ _ h => h) (Or.inr ⟨by rfl, rfl⟩) ?_ ?_
      rotate_left
      · simp only [Act.put, sa_, sb_, sc_, i64_w, i32_w]; rfl
      refine pure_ (i := 14) (N := some 26) (v := undef) (a' := ?_) #[true, true, true, true, true, true, true, true, true, true, true, true, true, true, true, false, false, false, false, false, false, false, false] rfl rfl (any_of HT_.out (by kernel_rfl)) (fun _ _ _ h => h) (Or.inr ⟨by rfl, rfl⟩) ?_ ?_
      rotate_left
      · simp only [Act.put, sa_, sb_, sc_, i64_w, i32_w]; rfl
      refine pure_ (i := 15) (N := some 27) (v := undef) (a' := ?_) #[true, true, true, true, true, true, true, true, true, true, true, true, true, true, true, true, false, false, false, false, false, false, false] rfl rfl (any_of HT_.out (by kernel_rfl)) (fun _ _ _ h => h) (Or.inr ⟨by rfl, rfl⟩) ?_ ?_
      rotate_left
      · simp only [Act.put, sa_, sb_, sc_, i64_w, i32_w]; rfl
      refine pure_ (i := 16) (N := some 28) (v := undef) (a' := ?_) #[true, true, true, true, true, true, true, true, true, true, true, true, true, true, true, true, true, false, false, false, false, false, false] rfl rfl (any_of HT_.out (by kernel_rfl)) (fun _ _ _ h => h) (Or.inr ⟨by rfl, rfl⟩) ?_ ?_
      rotate_left
      · simp only [Act.put, sa_, sb_, sc_, i64_w, i32_w]; rfl
      refine pure_ (i := 17) (N := some 29) (v := undef) (a' := ?_) #[true, true, true, true, true, true, true, true, true, true, true, true, true, true, true, true, true, true, false, false, false, false, false] rfl rfl (any_of HT_.out (by kernel_rfl)) (fun _ _ _ h => h) (Or.inr ⟨by rfl, rfl⟩) ?_ ?_
      rotate_left
      · simp only [Act.put, sa_, sb_, sc_, i64_w, i32_w]; rfl
      refine pure_ (i := 18) (N := some 30) (v := undef) (a' := ?_) #[true, true, true, true, true, true, true, true, true, true, true, true, true, true, true, true, true, true, true, false, false, false, false] rfl rfl (any_of HT_.out (by kernel_rfl)) (fun _ _ _ h => h) (Or.inr ⟨by rfl, rfl⟩) ?_ ?_
      rotate_left
      · simp only [Act.put, sa_, sb_, sc_, i64_w, i32_w]; rfl
      refine pure_ (i := 19) (N := some 31) (v := undef) (a' := ?_) #[true, true, true, true, true, true, true, true, true, true, true, true, true, true, true, true, true, true, true, true, false, false, false] rfl rfl (any_of HT_.out (by kernel_rfl)) (fun _ _ _ h => h) (Or.inr ⟨by rfl, rfl⟩) ?_ ?_
      rotate_left
      · simp only [Act.put, sa_, sb_, sc_, i64_w, i32_w]; rfl
      refine pure_ (i := 20) (N := some 32) (v := undef) (a' := ?_) #[true, true, true, true, true, true, true, true, true, true, true, true, true, true, true, true, true, true, true, true, true, false, false] rfl rfl (any_of HT_.out (by kernel_rfl)) (fun _ _ _ h => h) (Or.inr ⟨by rfl, rfl⟩) ?_ ?_
      rotate_left
      · simp only [Act.put, sa_, sb_, sc_, i64_w, i32_w]; rfl
      refine pure_ (i := 21) (N := some 33) (v := undef) (a' := ?_) #[true, true, true, true, true, true, true, true, true, true, true, true, true, true, true, true, true, true, true, true, true, true, false] rfl rfl (any_of HT_.out (by kernel_rfl)) (fun _ _ _ h => h) (Or.inr ⟨by rfl, rfl⟩) ?_ ?_
      rotate_left
      · simp only [Act.put, sa_, sb_, sc_, i64_w, i32_w]; rfl
      refine pure_ (i := 22) (N := some 34) (v := ?_) (a' := ?_) #[true, true, true, true, true, true, true, true, true, true, true, true, true, true, true, true, true, true, true, true, true, true, true] rfl rfl (any_of HT_.out (by kernel_rfl)) (fun _ _ _ h => h) (Or.inl ⟨by rfl, ?_⟩) ?_ ?_
      rotate_left
      · intro w'
        go_simp
        with_reducible rfl
      rotate_left
      · simp only [Act.put, sa_, sb_, sc_, i64_w, i32_w]; rfl
      refine done_ (done_of HT_.out (by kernel_rfl)) ?_
      have hnb15 := NB152_151.out
      have hnc15 := NB151_152.out
      have hcz16_0 : w14.cell? ⟨gb152, 0, none⟩ = some (.int .i64 0) := (blk_cell BK152.out 0).trans rfl
      have hcz16_1 : w14.cell? ⟨gb152, 1, none⟩ = some (.int .i64 0) := (blk_cell BK152.out 1).trans rfl
      have hcz16_2 : w14.cell? ⟨gb152, 2, none⟩ = some (.int .i64 0) := (blk_cell BK152.out 2).trans rfl
      have hcz16_3 : w14.cell? ⟨gb152, 3, none⟩ = some (.string (⟨#[]⟩ : ByteArray)) := (blk_cell BK152.out 3).trans rfl
      have hfz16_0 := blk_frozen BK152.out 0
      have hfz16_1 := blk_frozen BK152.out 1
      have hfz16_2 := blk_frozen BK152.out 2
      have hfz16_3 := blk_frozen BK152.out 3
      try go_wp2
      refine bodyPost_ret (results_ct rfl _ _ gb152 33 #[.int .i64 0, .int .i64 0, .int .i64 0, .string (⟨#[]⟩ : ByteArray)] (0, 0) _ rfl (by (with_reducible repeat (first | refine kd_ ?_ _ | refine ke_ ?_ | refine ka_ ?_ _)); refine blk_put (cs := #[.int .i64 0, .int .i64 0, .int .i64 0, .string (⟨#[]⟩ : ByteArray)]) ?_ 3 _ rfl; (with_reducible repeat (first | refine kd_ ?_ _ | refine ke_ ?_ | refine ka_ ?_ _)); refine blk_put (cs := #[.int .i64 0, .int .i64 0, .int .i64 0, .string (⟨#[]⟩ : ByteArray)]) ?_ 2 _ rfl; (with_reducible repeat (first | refine kd_ ?_ _ | refine ke_ ?_ | refine ka_ ?_ _)); refine blk_put (cs := #[.int .i64 0, .int .i64 0, .int .i64 0, .string (⟨#[]⟩ : ByteArray)]) ?_ 1 _ rfl; (with_reducible repeat (first | refine kd_ ?_ _ | refine ke_ ?_ | refine ka_ ?_ _)); refine blk_put (cs := #[.int .i64 0, .int .i64 0, .int .i64 0, .string (⟨#[]⟩ : ByteArray)]) ?_ 0 _ rfl; (with_reducible repeat (first | refine kd_ ?_ _ | refine ke_ ?_ | refine ka_ ?_ _)); exact BK152.out) Try.underlying33 rfl (by kernel_rfl)) rfl ?_
      exact ⟨by first | rfl | (simp [errW_none, errW_some] <;> rfl) | (simp [*, errW_none, errW_some] <;> rfl), by repeat (first | (with_reducible first | exact HB.out | apply ba_ | apply bd_ | apply be_ | refine below_set ?_ GE151.out | refine below_set ?_ GE152.out) | exact HB.out)⟩
    · rw [if_neg c11] at H
      have c11b0 : decide (t154 < t153) = false := decide_eq_false c11
      clear c11; by_cases c17 : 0 ≤ t153
      · rw [if_pos c17] at H
        have c17b0 : decide (0 ≤ t153) = true := decide_eq_true c17
        clear c17; by_cases c18 : t153 < (l1.length : Int)
        · rw [if_pos c18] at H
          have c18b0 : decide (t153 < (l1.length : Int)) = true := decide_eq_true c18
          clear c18; by_cases c19 : 0 ≤ t154
          · rw [if_pos c19] at H
            have c19b0 : decide (0 ≤ t154) = true := decide_eq_true c19
            clear c19; by_cases c20 : t154 < (l1.length : Int)
            · rw [if_pos c20] at H
              have c20b0 : decide (t154 < (l1.length : Int)) = true := decide_eq_true c20
              clear c20; replace H := Option.bind_eq_some_iff.mp H
              obtain ⟨t157, A210, H⟩ := H
              replace H : (if t157 = true then (some ((rd_T65 l1 t154).f3.f0, (rd_T65 l1 t154).f3.f1, (rd_T65 l1 t154).f3.f2, (rd_T65 l1 t154).f3.f3, true)) else (some (0, 0, 0, (⟨#[]⟩ : ByteArray), false))) = some (r1, r2, r3, r4, r5) := H
              have A21 := Aside0.mk A210; clear A210; by_cases c22 : t157 = true
              · subst c22
                have H1 : (some ((rd_T65 l1 t154).f3.f0, (rd_T65 l1 t154).f3.f1, (rd_T65 l1 t154).f3.f2, (rd_T65 l1 t154).f3.f3, true)) = some (r1, r2, r3, r4, r5) := by rw [if_pos rfl] at H; exact H
                clear H; have H := H1
                clear H1; simp only [Option.some.injEq, Prod.mk.injEq] at H
                obtain ⟨rfl, rfl, rfl, rfl, rfl⟩ := H
                go_enter Try.func27, Try.ntmps27
                try go_wp2_with (first | ((with_reducible refine gate_dst (N := 2) rfl ?_); refine box_event ?hg (N := 2) ?hd (cs := #[.int .u32 a0_0, .int .u32 a0_1, .bool a0_2, .string a0_3, .int .i64 a0_4, .int .i64 a0_5]) (t := 31) ?hr ?_; (case hd => rfl); (case hg => rfl); (case hr => first | (go_simp; done) | (go_simp; rfl)); intro gb151 hg w23 hbox hb; have n0_ := Aside0.mk (below_step (pe HB) hb); have n1_ := Aside0.mk (hbox); have n2_ := Aside0.mk ((by rw [hg]; exact (below_size (pe HB)) : w.heap.size ≤ gb151)); have n3_ := Aside0.mk ((by rw [hg]; exact (below_size (pe HB)) : w.heap.size ≤ gb151)); clear HB; have HB := n0_; have BK151 := n1_; have GW151 := n2_; have GE151 := n3_; clear n0_ n1_ n2_ n3_; clear hb hbox hg) | ((with_reducible refine gate_dst (N := 4) rfl ?_); refine box_event ?hg (N := 4) ?hd (cs := #[.int .i64 0, .int .i64 0, .int .i64 0, .string (⟨#[]⟩ : ByteArray)]) (t := 33) ?hr ?_; (case hd => rfl); (case hg => rfl); (case hr => first | (go_simp; done) | (go_simp; rfl)); intro gb152 hg w24 hbox hb; have n0_ := Aside0.mk (blk_below (pb BK151) hb); have n1_ := Aside0.mk (below_step (by repeat (first | (with_reducible first | exact HB.out | apply ba_ | apply bd_ | apply be_ | refine below_set ?_ GE151.out) | exact HB.out)) hb); have n2_ := Aside0.mk (hbox); have n3_ := Aside0.mk ((by rw [hg]; exact (below_size (by repeat (first | (with_reducible first | exact HB.out | apply ba_ | apply bd_ | apply be_ | refine below_set ?_ GE151.out) | exact HB.out))) : w.heap.size ≤ gb152)); have n4_ := Aside0.mk ((by rw [hg]; exact (below_size (by repeat (first | (with_reducible first | exact HB.out | apply ba_ | apply bd_ | apply be_ | refine below_set ?_ GE151.out) | exact HB.out))) : w.heap.size ≤ gb152)); have n5_ := Aside0.mk ((by rw [hg]; exact Nat.ne_of_lt (blk_lt (pb BK151)) : gb151 ≠ gb152)); have n6_ := Aside0.mk ((by rw [hg]; exact Nat.ne_of_gt (blk_lt (pb BK151)) : gb152 ≠ gb151)); clear BK151; clear HB; have BK151 := n0_; have HB := n1_; have BK152 := n2_; have GW152 := n3_; have GE152 := n4_; have NB151_152 := n5_; have NB152_151 := n6_; clear n0_ n1_ n2_ n3_ n4_ n5_ n6_; clear hb hbox hg) | ((with_reducible refine gate_callee (f := 36) rfl ?_); refine goesL_ (some 9) rfl rfl Try.func36 (by kernel_rfl) rfl #[.slice A1 l1.length c1] rfl (by (try simp only [List.map_toArray, List.map_cons, List.map_nil]); first | done | rfl | (simp only [List.length_drop, List.length_take]; rfl)) ?_; (with_reducible refine (signalboxref23_last.calls k _ _ l1 t153 _ ?side1 ?side2 A3.out).mono ?_); (case side1 => repeat (first | exact (Kd.C_below HR1.out HB.out) | (with_reducible refine Kd.C_alloc ?_ _) | (with_reducible refine Kd.C_drewN ?_ _) | (with_reducible refine Kd.C_drew ?_))); (case side2 => exact HC1.out); rintro e w' ⟨rfl, ⟨nd, rfl⟩⟩; refine ⟨_, rfl, ?_⟩; (try (rw [drewN_self w24]; generalize hq_ : World.drewN w24 _ = w24; have n0_ : Aside0 (w24.heap[gb151]? = some (.cells #[.int .u32 a0_0, .int .u32 a0_1, .bool a0_2, .string a0_3, .int .i64 a0_4, .int .i64 a0_5] 31 (0, 0))) := ⟨by rw [← hq_]; exact (pb BK151)⟩; have n1_ : Aside0 (w24.heap[gb152]? = some (.cells #[.int .i64 0, .int .i64 0, .int .i64 0, .string (⟨#[]⟩ : ByteArray)] 33 (0, 0))) := ⟨by rw [← hq_]; exact (pb BK152)⟩; have n2_ : Aside0 (Below w.heap.size w w24) := ⟨by rw [← hq_]; exact (by repeat (first | (with_reducible first | exact HB.out | apply ba_ | apply bd_ | apply be_ | refine below_set ?_ GE151.out | refine below_set ?_ GE152.out) | exact HB.out))⟩; clear BK151 BK152 HB hq_; have BK151 := n0_; have BK152 := n1_; have HB := n2_; clear n0_ n1_ n2_))) | ((with_reducible refine gate_callee (f := 39) rfl ?_); refine goesL_ (some 11) rfl rfl Try.func39 (by kernel_rfl) rfl #[.slice A1 l1.length c1] rfl (by (try simp only [List.map_toArray, List.map_cons, List.map_nil]); first | done | rfl | (simp only [List.length_drop, List.length_take]; rfl)) ?_; (with_reducible refine (signalboxref23_heard.calls k _ _ l1 t154 _ ?side1 ?side2 A4.out).mono ?_); (case side1 => repeat (first | exact (Kd.C_below HR1.out HB.out) | (with_reducible refine Kd.C_alloc ?_ _) | (with_reducible refine Kd.C_drewN ?_ _) | (with_reducible refine Kd.C_drew ?_))); (case side2 => exact HC1.out); rintro e w' ⟨rfl, ⟨nd, rfl⟩⟩; refine ⟨_, rfl, ?_⟩; (try (rw [drewN_self w24]; generalize hq_ : World.drewN w24 _ = w24; have n0_ : Aside0 (w24.heap[gb151]? = some (.cells #[.int .u32 a0_0, .int .u32 a0_1, .bool a0_2, .string a0_3, .int .i64 a0_4, .int .i64 a0_5] 31 (0, 0))) := ⟨by rw [← hq_]; exact (pb BK151)⟩; have n1_ : Aside0 (w24.heap[gb152]? = some (.cells #[.int .i64 0, .int .i64 0, .int .i64 0, .string (⟨#[]⟩ : ByteArray)] 33 (0, 0))) := ⟨by rw [← hq_]; exact (pb BK152)⟩; have n2_ : Aside0 (Below w.heap.size w w24) := ⟨by rw [← hq_]; exact (by repeat (first | (with_reducible first | exact HB.out | apply ba_ | apply bd_ | apply be_ | refine below_set ?_ GE151.out | refine below_set ?_ GE152.out) | exact HB.out))⟩; clear BK151 BK152 HB hq_; have BK151 := n0_; have BK152 := n1_; have HB := n2_; clear n0_ n1_ n2_))))
                have n0_ := Aside0.mk (blk_drew BK151.out)
                have n1_ := Aside0.mk (blk_drew BK152.out)
                have n2_ := Aside0.mk (below_drew1 HB.out)
                clear BK151; clear BK152; clear HB; have BK151 := n0_
                have BK152 := n1_
                have HB := n2_
                clear n0_ n1_ n2_; have p155 : 0 ≤ (t153 : Int) := of_decide_eq_true (by first | (with_reducible assumption) | assumption)
                have q155 : t153 < (l1.length : Int) := of_decide_eq_true (by first | (with_reducible assumption) | assumption)
                obtain ⟨ad155, e155, hx155_0, hx155_1, hx155_2, hx155_3, hx155_4, hx155_5, hx155_6, hx155_7, hx155_8, hx155_9, hx155_10, hx155_11, hx155_12⟩ := at_T65 HR1.out t153 p155 q155
                have hw155_12 := hx155_12
                have hw155_11 := hx155_11
                have hw155_10 := hx155_10
                have hw155_9 := hx155_9
                have hw155_8 := hx155_8
                have hw155_7 := hx155_7
                have hw155_6 := hx155_6
                have hw155_5 := hx155_5
                have hw155_4 := hx155_4
                have hw155_3 := hx155_3
                have hw155_2 := hx155_2
                have hw155_1 := hx155_1
                have hw155_0 := hx155_0
                cases e155
                replace hx155_0 := cu_ HB hx155_0
                replace hx155_1 := cu_ HB hx155_1
                replace hx155_2 := cu_ HB hx155_2
                replace hx155_3 := cu_ HB hx155_3
                replace hx155_4 := cu_ HB hx155_4
                replace hx155_5 := cu_ HB hx155_5
                replace hx155_6 := cu_ HB hx155_6
                replace hx155_7 := cu_ HB hx155_7
                replace hx155_8 := cu_ HB hx155_8
                replace hx155_9 := cu_ HB hx155_9
                replace hx155_10 := cu_ HB hx155_10
                replace hx155_11 := cu_ HB hx155_11
                replace hx155_12 := cu_ HB hx155_12
                replace p155 := eq_true p155
                replace q155 := eq_true q155
                have p156 : 0 ≤ (t154 : Int) := of_decide_eq_true (by first | (with_reducible assumption) | assumption)
                have q156 : t154 < (l1.length : Int) := of_decide_eq_true (by first | (with_reducible assumption) | assumption)
                obtain ⟨ad156, e156, hx156_0, hx156_1, hx156_2, hx156_3, hx156_4, hx156_5, hx156_6, hx156_7, hx156_8, hx156_9, hx156_10, hx156_11, hx156_12⟩ := at_T65 HR1.out t154 p156 q156
                have hw156_12 := hx156_12
                have hw156_11 := hx156_11
                have hw156_10 := hx156_10
                have hw156_9 := hx156_9
                have hw156_8 := hx156_8
                have hw156_7 := hx156_7
                have hw156_6 := hx156_6
                have hw156_5 := hx156_5
                have hw156_4 := hx156_4
                have hw156_3 := hx156_3
                have hw156_2 := hx156_2
                have hw156_1 := hx156_1
                have hw156_0 := hx156_0
                obtain rfl : ad155 = ad156 := (by injection e156)
                replace hx156_0 := cu_ HB hx156_0
                replace hx156_1 := cu_ HB hx156_1
                replace hx156_2 := cu_ HB hx156_2
                replace hx156_3 := cu_ HB hx156_3
                replace hx156_4 := cu_ HB hx156_4
                replace hx156_5 := cu_ HB hx156_5
                replace hx156_6 := cu_ HB hx156_6
                replace hx156_7 := cu_ HB hx156_7
                replace hx156_8 := cu_ HB hx156_8
                replace hx156_9 := cu_ HB hx156_9
                replace hx156_10 := cu_ HB hx156_10
                replace hx156_11 := cu_ HB hx156_11
                replace hx156_12 := cu_ HB hx156_12
                replace p156 := eq_true p156
                replace q156 := eq_true q156
                refine start_ (n := 23) (S := fun w' => w'.cell? ⟨gb151, 0, none⟩ = some (.int .u32 a0_0) ∧ w'.cell? ⟨gb151, 1, none⟩ = some (.int .u32 a0_1) ∧ w'.cell? ⟨gb151, 2, none⟩ = some (.bool a0_2) ∧ w'.cell? ⟨gb151, 3, none⟩ = some (.string a0_3) ∧ w'.cell? ⟨gb151, 4, none⟩ = some (.int .i64 a0_4) ∧ w'.cell? ⟨gb151, 5, none⟩ = some (.int .i64 a0_5) ∧ w'.cell? (ad155.add ((t153).toNat * 13)) = some (.int .i64 ((rd_T65 l1 t153).f0)) ∧ w'.cell? ⟨(ad155.add ((t153).toNat * 13)).block, (ad155.add ((t153).toNat * 13)).off + 1, none⟩ = some (.bool ((rd_T65 l1 t153).f1)) ∧ w'.cell? ⟨(ad155.add ((t153).toNat * 13)).block, (ad155.add ((t153).toNat * 13)).off + 2, none⟩ = some (.int .i64 ((rd_T65 l1 t153).f2.f0)) ∧ w'.cell? ⟨(ad155.add ((t153).toNat * 13)).block, (ad155.add ((t153).toNat * 13)).off + 3, none⟩ = some (.int .i64 ((rd_T65 l1 t153).f2.f1)) ∧ w'.cell? ⟨(ad155.add ((t153).toNat * 13)).block, (ad155.add ((t153).toNat * 13)).off + 4, none⟩ = some (.int .i64 ((rd_T65 l1 t153).f2.f2.f0)) ∧ w'.cell? ⟨(ad155.add ((t153).toNat * 13)).block, (ad155.add ((t153).toNat * 13)).off + 5, none⟩ = some (.int .i64 ((rd_T65 l1 t153).f2.f2.f1)) ∧ w'.cell? ⟨(ad155.add ((t153).toNat * 13)).block, (ad155.add ((t153).toNat * 13)).off + 6, none⟩ = some (.int .i64 ((rd_T65 l1 t153).f2.f2.f2)) ∧ w'.cell? ⟨(ad155.add ((t153).toNat * 13)).block, (ad155.add ((t153).toNat * 13)).off + 7, none⟩ = some (.string ((rd_T65 l1 t153).f2.f2.f3)) ∧ w'.cell? ⟨(ad155.add ((t153).toNat * 13)).block, (ad155.add ((t153).toNat * 13)).off + 8, none⟩ = some (.int .i64 ((rd_T65 l1 t153).f2.f3)) ∧ w'.cell? ⟨(ad155.add ((t153).toNat * 13)).block, (ad155.add ((t153).toNat * 13)).off + 9, none⟩ = some (.int .i64 ((rd_T65 l1 t153).f3.f0)) ∧ w'.cell? ⟨(ad155.add ((t153).toNat * 13)).block, (ad155.add ((t153).toNat * 13)).off + 10, none⟩ = some (.int .i64 ((rd_T65 l1 t153).f3.f1)) ∧ w'.cell? ⟨(ad155.add ((t153).toNat * 13)).block, (ad155.add ((t153).toNat * 13)).off + 11, none⟩ = some (.int .i64 ((rd_T65 l1 t153).f3.f2)) ∧ w'.cell? ⟨(ad155.add ((t153).toNat * 13)).block, (ad155.add ((t153).toNat * 13)).off + 12, none⟩ = some (.string ((rd_T65 l1 t153).f3.f3)) ∧ w'.cell? (ad155.add ((t154).toNat * 13)) = some (.int .i64 ((rd_T65 l1 t154).f0)) ∧ w'.cell? ⟨(ad155.add ((t154).toNat * 13)).block, (ad155.add ((t154).toNat * 13)).off + 1, none⟩ = some (.bool ((rd_T65 l1 t154).f1)) ∧ w'.cell? ⟨(ad155.add ((t154).toNat * 13)).block, (ad155.add ((t154).toNat * 13)).off + 2, none⟩ = some (.int .i64 ((rd_T65 l1 t154).f2.f0)) ∧ w'.cell? ⟨(ad155.add ((t154).toNat * 13)).block, (ad155.add ((t154).toNat * 13)).off + 3, none⟩ = some (.int .i64 ((rd_T65 l1 t154).f2.f1)) ∧ w'.cell? ⟨(ad155.add ((t154).toNat * 13)).block, (ad155.add ((t154).toNat * 13)).off + 4, none⟩ = some (.int .i64 ((rd_T65 l1 t154).f2.f2.f0)) ∧ w'.cell? ⟨(ad155.add ((t154).toNat * 13)).block, (ad155.add ((t154).toNat * 13)).off + 5, none⟩ = some (.int .i64 ((rd_T65 l1 t154).f2.f2.f1)) ∧ w'.cell? ⟨(ad155.add ((t154).toNat * 13)).block, (ad155.add ((t154).toNat * 13)).off + 6, none⟩ = some (.int .i64 ((rd_T65 l1 t154).f2.f2.f2)) ∧ w'.cell? ⟨(ad155.add ((t154).toNat * 13)).block, (ad155.add ((t154).toNat * 13)).off + 7, none⟩ = some (.string ((rd_T65 l1 t154).f2.f2.f3)) ∧ w'.cell? ⟨(ad155.add ((t154).toNat * 13)).block, (ad155.add ((t154).toNat * 13)).off + 8, none⟩ = some (.int .i64 ((rd_T65 l1 t154).f2.f3)) ∧ w'.cell? ⟨(ad155.add ((t154).toNat * 13)).block, (ad155.add ((t154).toNat * 13)).off + 9, none⟩ = some (.int .i64 ((rd_T65 l1 t154).f3.f0)) ∧ w'.cell? ⟨(ad155.add ((t154).toNat * 13)).block, (ad155.add ((t154).toNat * 13)).off + 10, none⟩ = some (.int .i64 ((rd_T65 l1 t154).f3.f1)) ∧ w'.cell? ⟨(ad155.add ((t154).toNat * 13)).block, (ad155.add ((t154).toNat * 13)).off + 11, none⟩ = some (.int .i64 ((rd_T65 l1 t154).f3.f2)) ∧ w'.cell? ⟨(ad155.add ((t154).toNat * 13)).block, (ad155.add ((t154).toNat * 13)).off + 12, none⟩ = some (.string ((rd_T65 l1 t154).f3.f3))) (ds := []) #[false, false, false, false, false, false, false, false, false, false, false, false, false, false, false, false, false, false, false, false, false, false, false] (by kernel_rfl) rfl rfl ⟨(blk_cell BK151.out 0).trans rfl, (blk_cell BK151.out 1).trans rfl, (blk_cell BK151.out 2).trans rfl, (blk_cell BK151.out 3).trans rfl, (blk_cell BK151.out 4).trans rfl, (blk_cell BK151.out 5).trans rfl, (cu_ HB hw155_0), (cu_ HB hw155_1), (cu_ HB hw155_2), (cu_ HB hw155_3), (cu_ HB hw155_4), (cu_ HB hw155_5), (cu_ HB hw155_6), (cu_ HB hw155_7), (cu_ HB hw155_8), (cu_ HB hw155_9), (cu_ HB hw155_10), (cu_ HB hw155_11), (cu_ HB hw155_12), (cu_ HB hw156_0), (cu_ HB hw156_1), (cu_ HB hw156_2), (cu_ HB hw156_3), (cu_ HB hw156_4), (cu_ HB hw156_5), (cu_ HB hw156_6), (cu_ HB hw156_7), (cu_ HB hw156_8), (cu_ HB hw156_9), (cu_ HB hw156_10), (cu_ HB hw156_11), (cu_ HB hw156_12)⟩ (fun hHeld => ?_); refine with_tabW signalboxref23_Held.tab2 signalboxref23_Held.bits2 (fun HT_ HW_ => ?_)
                generalize w24.drew = w25 at BK151 BK152 HB hx155_0 hx155_1 hx155_10 hx155_11 hx155_12 hx155_2 hx155_3 hx155_4 hx155_5 hx155_6 hx155_7 hx155_8 hx155_9 hx156_0 hx156_1 hx156_10 hx156_11 hx156_12 hx156_2 hx156_3 hx156_4 hx156_5 hx156_6 hx156_7 hx156_8 hx156_9 hHeld ⊢
                refine pure_ (i := 0) (N := some 12) (v := ?_) (a' := ?_) #[true, false, false, false, false, false, false, false, false, false, false, false, false, false, false, false, false, false, false, false, false, false, false] rfl rfl (any_of HT_.out (by kernel_rfl)) (fun _ _ _ h => h) (Or.inl ⟨by rfl, ?_⟩) ?_ ?_
                rotate_left
                · intro w'
                  go_simp
                  with_reducible rfl
                rotate_left
                · simp only [Act.put, sa_, sb_, sc_, i64_w, i32_w]; rfl
                refine pure_ (i := 1) (N := some 13) (v := ?_) (a' := ?_) #[true, true, false, false, false, false, false, false, false, false, false, false, false, false, false, false, false, false, false, false, false, false, false] rfl rfl (any_of HT_.out (by kernel_rfl)) (fun _ _ _ h => h) (Or.inl ⟨by rfl, ?_⟩) ?_ ?_
                rotate_left
                · intro w'
                  go_simp
                  with_reducible rfl
                rotate_left
                · simp only [Act.put, sa_, sb_, sc_, i64_w, i32_w]; rfl
                refine pure_ (i := 2) (N := some 14) (v := ?_) (a' := ?_) #[true, true, true, false, false, false, false, false, false, false, false, false, false, false, false, false, false, false, false, false, false, false, false] rfl rfl (any_of HT_.out (by kernel_rfl)) (fun _ _ _ h => h) (Or.inl ⟨by rfl, ?_⟩) ?_ ?_
                rotate_left
                · intro w'
                  go_simp
                  with_reducible rfl
                rotate_left
                · simp only [Act.put, sa_, sb_, sc_, i64_w, i32_w]; rfl
                refine pure_ (i := 3) (N := some 15) (v := ?_) (a' := ?_) #[true, true, true, true, false, false, false, false, false, false, false, false, false, false, false, false, false, false, false, false, false, false, false] rfl rfl (any_of HT_.out (by kernel_rfl)) (fun _ _ _ h => h) (Or.inl ⟨by rfl, ?_⟩) ?_ ?_
                rotate_left
                · intro w'
                  go_simp
                  with_reducible rfl
                rotate_left
                · simp only [Act.put, sa_, sb_, sc_, i64_w, i32_w]; rfl
                refine pure_ (i := 4) (N := some 16) (v := ?_) (a' := ?_) #[true, true, true, true, true, false, false, false, false, false, false, false, false, false, false, false, false, false, false, false, false, false, false] rfl rfl (any_of HT_.out (by kernel_rfl)) (fun _ _ _ h => h) (Or.inl ⟨by rfl, ?_⟩) ?_ ?_
                rotate_left
                · intro w'
                  go_simp
                  with_reducible rfl
                rotate_left
                · simp only [Act.put, sa_, sb_, sc_, i64_w, i32_w]; rfl
                refine pure_ (i := 5) (N := some 17) (v := ?_) (a' := ?_) #[true, true, true, true, true, true, false, false, false, false, false, false, false, false, false, false, false, false, false, false, false, false, false] rfl rfl (any_of HT_.out (by kernel_rfl)) (fun _ _ _ h => h) (Or.inl ⟨by rfl, ?_⟩) ?_ ?_
                rotate_left
                · intro w'
                  go_simp
                  with_reducible rfl
                rotate_left
                · simp only [Act.put, sa_, sb_, sc_, i64_w, i32_w]; rfl
                refine pure_ (i := 6) (N := some 18) (v := ?_) (a' := ?_) #[true, true, true, true, true, true, true, false, false, false, false, false, false, false, false, false, false, false, false, false, false, false, false] rfl rfl (any_of HT_.out (by kernel_rfl)) (fun _ _ _ h => h) (Or.inl ⟨by rfl, ?_⟩) ?_ ?_
                rotate_left
                · intro w'
                  go_simp
                  with_reducible rfl
                rotate_left
                · simp only [Act.put, sa_, sb_, sc_, i64_w, i32_w]; rfl
                refine pure_ (i := 7) (N := some 19) (v := ?_) (a' := ?_) #[true, true, true, true, true, true, true, true, false, false, false, false, false, false, false, false, false, false, false, false, false, false, false] rfl rfl (any_of HT_.out (by kernel_rfl)) (fun _ _ _ h => h) (Or.inl ⟨by rfl, ?_⟩) ?_ ?_
                rotate_left
                · intro w'
                  go_simp
                  with_reducible rfl
                rotate_left
                · simp only [Act.put, sa_, sb_, sc_, i64_w, i32_w]; rfl
                refine pure_ (i := 9) (N := some 21) (v := ?_) (a' := ?_) #[true, true, true, true, true, true, true, true, false, true, false, false, false, false, false, false, false, false, false, false, false, false, false] rfl rfl (any_of HT_.out (by kernel_rfl)) (fun _ _ _ h => h) (Or.inl ⟨by rfl, ?_⟩) ?_ ?_
                rotate_left
                · intro w'
                  go_simp
                  with_reducible rfl
                rotate_left
                · simp only [Act.put, sa_, sb_, sc_, i64_w, i32_w]; rfl
                refine pure_ (i := 10) (N := some 22) (v := ?_) (a' := ?_) #[true, true, true, true, true, true, true, true, false, true, true, false, false, false, false, false, false, false, false, false, false, false, false] rfl rfl (any_of HT_.out (by kernel_rfl)) (fun _ _ _ h => h) (Or.inl ⟨by rfl, ?_⟩) ?_ ?_
                rotate_left
                · intro w'
                  go_simp
                  with_reducible rfl
                rotate_left
                · simp only [Act.put, sa_, sb_, sc_, i64_w, i32_w]; rfl
                refine pure_ (i := 11) (N := some 23) (v := ?_) (a' := ?_) #[true, true, true, true, true, true, true, true, false, true, true, true, false, false, false, false, false, false, false, false, false, false, false] rfl rfl (any_of HT_.out (by kernel_rfl)) (fun _ _ _ h => h) (Or.inl ⟨by rfl, ?_⟩) ?_ ?_
                rotate_left
                · intro w'
                  go_simp
                  with_reducible rfl
                rotate_left
                · simp only [Act.put, sa_, sb_, sc_, i64_w, i32_w]; rfl
                refine pure_ (i := 12) (N := some 24) (v := ?_) (a' := ?_) #[true, true, true, true, true, true, true, true, false, true, true, true, true, false, false, false, false, false, false, false, false, false, false] rfl rfl (any_of HT_.out (by kernel_rfl)) (fun _ _ _ h => h) (Or.inl ⟨by rfl, ?_⟩) ?_ ?_
                rotate_left
                · intro w'
                  go_simp
                  with_reducible rfl
                rotate_left
                · simp only [Act.put, sa_, sb_, sc_, i64_w, i32_w]; rfl
                refine pure_ (i := 13) (N := some 25) (v := ?_) (a' := ?_) #[true, true, true, true, true, true, true, true, false, true, true, true, true, true, false, false, false, false, false, false, false, false, false] rfl rfl (any_of HT_.out (by kernel_rfl)) (fun _ _ _ h => h) (Or.inl ⟨by rfl, ?_⟩) ?_ ?_
                rotate_left
                · intro w'
                  go_simp
                  with_reducible rfl
                rotate_left
                · simp only [Act.put, sa_, sb_, sc_, i64_w, i32_w]; rfl
                refine pure_ (i := 15) (N := some 27) (v := ?_) (a' := ?_) #[true, true, true, true, true, true, true, true, false, true, true, true, true, true, false, true, false, false, false, false, false, false, false] rfl rfl (any_of HT_.out (by kernel_rfl)) (fun _ _ _ h => h) (Or.inl ⟨by rfl, ?_⟩) ?_ ?_
                rotate_left
                · intro w'
                  go_simp
                  with_reducible rfl
                rotate_left
                · simp only [Act.put, sa_, sb_, sc_, i64_w, i32_w]; rfl
                refine pure_ (i := 16) (N := some 28) (v := ?_) (a' := ?_) #[true, true, true, true, true, true, true, true, false, true, true, true, true, true, false, true, true, false, false, false, false, false, false] rfl rfl (any_of HT_.out (by kernel_rfl)) (fun _ _ _ h => h) (Or.inl ⟨by rfl, ?_⟩) ?_ ?_
                rotate_left
                · intro w'
                  go_simp
                  with_reducible rfl
                rotate_left
                · simp only [Act.put, sa_, sb_, sc_, i64_w, i32_w]; rfl
                refine pure_ (i := 17) (N := some 29) (v := ?_) (a' := ?_) #[true, true, true, true, true, true, true, true, false, true, true, true, true, true, false, true, true, true, false, false, false, false, false] rfl rfl (any_of HT_.out (by kernel_rfl)) (fun _ _ _ h => h) (Or.inl ⟨by rfl, ?_⟩) ?_ ?_
                rotate_left
                · intro w'
                  go_simp
                  with_reducible rfl
                rotate_left
                · simp only [Act.put, sa_, sb_, sc_, i64_w, i32_w]; rfl
                refine pure_ (i := 18) (N := some 30) (v := ?_) (a' := ?_) #[true, true, true, true, true, true, true, true, false, true, true, true, true, true, false, true, true, true, true, false, false, false, false] rfl rfl (any_of HT_.out (by kernel_rfl)) (fun _ _ _ h => h) (Or.inl ⟨by rfl, ?_⟩) ?_ ?_
                rotate_left
                · intro w'
                  go_simp
                  with_reducible rfl
                rotate_left
                · simp only [Act.put, sa_, sb_, sc_, i64_w, i32_w]; rfl
                refine take_ (i := 8) (N := some 20) (v := ?_) (a' := ?_) #[true, true, true, true, true, true, true, true, true, true, true, true, true, true, false, true, true, true, true, false, false, false, false] rfl rfl (take_ofW HT_.out HW_.out (by kernel_rfl)) (fun _ _ _ h => h) (Or.inl ⟨by rfl, ?_⟩) hHeld ?_ ?_
                rotate_left
                · rintro w' ⟨s0, s1, s2, s3, s4, s5, s6, s7, s8, s9, s10, s11, s12, s13, s14, s15, s16, s17, s18, s19, s20, s21, s22, s23, s24, s25, s26, s27, s28, s29, s30, s31⟩
                  go_simp
                  with_reducible rfl
                rotate_left
                · simp only [Act.put, sa_, sb_, sc_, i64_w, i32_w]; rfl
                refine take_ (i := 14) (N := some 26) (v := ?_) (a' := ?_) #[true, true, true, true, true, true, true, true, true, true, true, true, true, true, true, true, true, true, true, false, false, false, false] rfl rfl (take_ofW HT_.out HW_.out (by kernel_rfl)) (fun _ _ _ h => h) (Or.inl ⟨by rfl, ?_⟩) hHeld ?_ ?_
                rotate_left
                · rintro w' ⟨s0, s1, s2, s3, s4, s5, s6, s7, s8, s9, s10, s11, s12, s13, s14, s15, s16, s17, s18, s19, s20, s21, s22, s23, s24, s25, s26, s27, s28, s29, s30, s31⟩
                  go_simp
                  with_reducible rfl
                rotate_left
                · simp only [Act.put, sa_, sb_, sc_, i64_w, i32_w]; rfl
                refine take_ (i := 19) (N := some 31) (v := ?_) (a' := ?_) #[true, true, true, true, true, true, true, true, true, true, true, true, true, true, true, true, true, true, true, true, false, false, false] rfl rfl (take_ofW HT_.out HW_.out (by kernel_rfl)) (fun _ _ _ h => h) (Or.inl ⟨by rfl, ?_⟩) hHeld ?_ ?_
                rotate_left
                · rintro w' ⟨s0, s1, s2, s3, s4, s5, s6, s7, s8, s9, s10, s11, s12, s13, s14, s15, s16, s17, s18, s19, s20, s21, s22, s23, s24, s25, s26, s27, s28, s29, s30, s31⟩
                  go_simp
                  with_reducible rfl
                rotate_left
                · simp only [Act.put, sa_, sb_, sc_, i64_w, i32_w]; rfl
                refine one_ (i := 20) (N := some 32) #[true, true, true, true, true, true, true, true, true, true, true, true, true, true, true, true, true, true, true, true, true, false, false] rfl rfl (one_of HT_.out (by kernel_rfl)) (by decide) (fun K hK => ?_)
                refine goes_ Try.func16 (by kernel_rfl) rfl #[.agg #[.int .u32 a0_0, .int .u32 a0_1, .bool a0_2, .string a0_3, .int .i64 a0_4, .int .i64 a0_5], .agg #[.int .i64 ((rd_T65 l1 t153).f2.f2.f0), .int .i64 ((rd_T65 l1 t153).f2.f2.f1), .int .i64 ((rd_T65 l1 t153).f2.f2.f2), .string ((rd_T65 l1 t153).f2.f2.f3)], .agg #[.int .i64 ((rd_T65 l1 t154).f3.f0), .int .i64 ((rd_T65 l1 t154).f3.f1), .int .i64 ((rd_T65 l1 t154).f3.f2), .string ((rd_T65 l1 t154).f3.f3)]] (by rfl) rfl rfl (by (try simp only [List.map_toArray, List.map_cons, List.map_nil]); first | done | rfl | (simp only [List.length_drop, List.length_take]; rfl)) ?_
                with_reducible refine (signalboxref23_Differ.calls k a0_0 a0_1 a0_2 a0_3 a0_4 a0_5 ((rd_T65 l1 t153).f2.f2.f0) ((rd_T65 l1 t153).f2.f2.f1) ((rd_T65 l1 t153).f2.f2.f2) ((rd_T65 l1 t153).f2.f2.f3) ((rd_T65 l1 t154).f3.f0) ((rd_T65 l1 t154).f3.f1) ((rd_T65 l1 t154).f3.f2) ((rd_T65 l1 t154).f3.f3) true _ A21.out).mono ?_
                rintro e w26 ⟨rfl, hb⟩
                refine ⟨_, rfl, ?_⟩
                have n0_ := Aside0.mk (blk_below (pb BK151) hb)
                have n1_ := Aside0.mk (blk_below (pb BK152) hb)
                have n2_ := Aside0.mk (below_step (by repeat (first | (with_reducible first | exact HB.out | apply ba_ | apply bd_ | apply be_ | refine below_set ?_ GE151.out | refine below_set ?_ GE152.out) | exact HB.out)) hb)
                clear BK151; clear BK152; clear HB; have BK151 := n0_
                have BK152 := n1_
                have HB := n2_
                clear n0_ n1_ n2_; (try clear hb); (try clear hb2); (try clear hk); (try clear hi); refine hK.out _ _ ⟨(blk_cell BK151.out 0).trans rfl, (blk_cell BK151.out 1).trans rfl, (blk_cell BK151.out 2).trans rfl, (blk_cell BK151.out 3).trans rfl, (blk_cell BK151.out 4).trans rfl, (blk_cell BK151.out 5).trans rfl, (cu_ HB hw155_0), (cu_ HB hw155_1), (cu_ HB hw155_2), (cu_ HB hw155_3), (cu_ HB hw155_4), (cu_ HB hw155_5), (cu_ HB hw155_6), (cu_ HB hw155_7), (cu_ HB hw155_8), (cu_ HB hw155_9), (cu_ HB hw155_10), (cu_ HB hw155_11), (cu_ HB hw155_12), (cu_ HB hw156_0), (cu_ HB hw156_1), (cu_ HB hw156_2), (cu_ HB hw156_3), (cu_ HB hw156_4), (cu_ HB hw156_5), (cu_ HB hw156_6), (cu_ HB hw156_7), (cu_ HB hw156_8), (cu_ HB hw156_9), (cu_ HB hw156_10), (cu_ HB hw156_11), (cu_ HB hw156_12)⟩ (fun hHeld => ?_)
                clear hK K; refine norm_ (a' := ?_) ?_ ?_
                rotate_left
                · show Act.put _ (some 32) _ = _
                  simp only [Act.put, sa_, sb_, sc_, i64_w, i32_w]
                  rfl
                refine pure_ (i := 21) (N := some 33) (v := ?_) (a' := ?_) #[true, true, true, true, true, true, true, true, true, true, true, true, true, true, true, true, true, true, true, true, true, true, false] rfl rfl (any_of HT_.out (by kernel_rfl)) (fun _ _ _ h => h) (Or.inl ⟨by rfl, ?_⟩) ?_ ?_
                rotate_left
                · intro w'
                  go_simp
                  with_reducible rfl
                rotate_left
                · simp only [Act.put, sa_, sb_, sc_, i64_w, i32_w]; rfl
                refine pure_ (i := 22) (N := some 34) (v := ?_) (a' := ?_) #[true, true, true, true, true, true, true, true, true, true, true, true, true, true, true, true, true, true, true, true, true, true, true] rfl rfl (any_of HT_.out (by kernel_rfl)) (fun _ _ _ h => h) (Or.inl ⟨by rfl, ?_⟩) ?_ ?_
                rotate_left
                · intro w'
                  go_simp
                  with_reducible rfl
                rotate_left
                · simp only [Act.put, sa_, sb_, sc_, i64_w, i32_w]; rfl
                refine done_ (done_of HT_.out (by kernel_rfl)) ?_
                have p158 : 0 ≤ (t154 : Int) := of_decide_eq_true (by first | (with_reducible assumption) | assumption)
                have q158 : t154 < (l1.length : Int) := of_decide_eq_true (by first | (with_reducible assumption) | assumption)
                obtain ⟨ad158, e158, hx158_0, hx158_1, hx158_2, hx158_3, hx158_4, hx158_5, hx158_6, hx158_7, hx158_8, hx158_9, hx158_10, hx158_11, hx158_12⟩ := at_T65 HR1.out t154 p158 q158
                obtain rfl : ad155 = ad158 := (by injection e158)
                replace hx158_0 := cu_ HB hx158_0
                replace hx158_1 := cu_ HB hx158_1
                replace hx158_2 := cu_ HB hx158_2
                replace hx158_3 := cu_ HB hx158_3
                replace hx158_4 := cu_ HB hx158_4
                replace hx158_5 := cu_ HB hx158_5
                replace hx158_6 := cu_ HB hx158_6
                replace hx158_7 := cu_ HB hx158_7
                replace hx158_8 := cu_ HB hx158_8
                replace hx158_9 := cu_ HB hx158_9
                replace hx158_10 := cu_ HB hx158_10
                replace hx158_11 := cu_ HB hx158_11
                replace hx158_12 := cu_ HB hx158_12
                replace p158 := eq_true p158
                replace q158 := eq_true q158
                have hnb27 := NB152_151.out
                have hnc27 := NB151_152.out
                have hcz28_0 : w26.cell? ⟨gb152, 0, none⟩ = some (.int .i64 0) := (blk_cell BK152.out 0).trans rfl
                have hcz28_1 : w26.cell? ⟨gb152, 1, none⟩ = some (.int .i64 0) := (blk_cell BK152.out 1).trans rfl
                have hcz28_2 : w26.cell? ⟨gb152, 2, none⟩ = some (.int .i64 0) := (blk_cell BK152.out 2).trans rfl
                have hcz28_3 : w26.cell? ⟨gb152, 3, none⟩ = some (.string (⟨#[]⟩ : ByteArray)) := (blk_cell BK152.out 3).trans rfl
                have hfz28_0 := blk_frozen BK152.out 0
                have hfz28_1 := blk_frozen BK152.out 1
                have hfz28_2 := blk_frozen BK152.out 2
                have hfz28_3 := blk_frozen BK152.out 3
                try go_wp2
                refine bodyPost_ret (results_ct rfl _ _ gb152 33 #[.int .i64 ((rd_T65 l1 t154).f3.f0), .int .i64 ((rd_T65 l1 t154).f3.f1), .int .i64 ((rd_T65 l1 t154).f3.f2), .string ((rd_T65 l1 t154).f3.f3)] (0, 0) _ rfl (by (with_reducible repeat (first | refine kd_ ?_ _ | refine ke_ ?_ | refine ka_ ?_ _)); refine blk_put (cs := #[.int .i64 ((rd_T65 l1 t154).f3.f0), .int .i64 ((rd_T65 l1 t154).f3.f1), .int .i64 ((rd_T65 l1 t154).f3.f2), .string (⟨#[]⟩ : ByteArray)]) ?_ 3 _ rfl; (with_reducible repeat (first | refine kd_ ?_ _ | refine ke_ ?_ | refine ka_ ?_ _)); refine blk_put (cs := #[.int .i64 ((rd_T65 l1 t154).f3.f0), .int .i64 ((rd_T65 l1 t154).f3.f1), .int .i64 0, .string (⟨#[]⟩ : ByteArray)]) ?_ 2 _ rfl; (with_reducible repeat (first | refine kd_ ?_ _ | refine ke_ ?_ | refine ka_ ?_ _)); refine blk_put (cs := #[.int .i64 ((rd_T65 l1 t154).f3.f0), .int .i64 0, .int .i64 0, .string (⟨#[]⟩ : ByteArray)]) ?_ 1 _ rfl; (with_reducible repeat (first | refine kd_ ?_ _ | refine ke_ ?_ | refine ka_ ?_ _)); refine blk_put (cs := #[.int .i64 0, .int .i64 0, .int .i64 0, .string (⟨#[]⟩ : ByteArray)]) ?_ 0 _ rfl; (with_reducible repeat (first | refine kd_ ?_ _ | refine ke_ ?_ | refine ka_ ?_ _)); exact BK152.out) Try.underlying33 rfl (by kernel_rfl)) rfl ?_
                exact ⟨by first | rfl | (simp [errW_none, errW_some] <;> rfl) | (simp [*, errW_none, errW_some] <;> rfl), by repeat (first | (with_reducible first | exact HB.out | apply ba_ | apply bd_ | apply be_ | refine below_set ?_ GE151.out | refine below_set ?_ GE152.out) | exact HB.out)⟩
              · replace c22 := Bool.eq_false_iff.mpr c22
                subst c22; have H1 : (some (0, 0, 0, (⟨#[]⟩ : ByteArray), false)) = some (r1, r2, r3, r4, r5) := by rw [if_neg (show ¬ (false = true) by decide)] at H; exact H
                clear H; have H := H1
                clear H1; simp only [Option.some.injEq, Prod.mk.injEq] at H
                obtain ⟨rfl, rfl, rfl, rfl, rfl⟩ := H
                go_enter Try.func27, Try.ntmps27
                try go_wp2_with (first | ((with_reducible refine gate_dst (N := 2) rfl ?_); refine box_event ?hg (N := 2) ?hd (cs := #[.int .u32 a0_0, .int .u32 a0_1, .bool a0_2, .string a0_3, .int .i64 a0_4, .int .i64 a0_5]) (t := 31) ?hr ?_; (case hd => rfl); (case hg => rfl); (case hr => first | (go_simp; done) | (go_simp; rfl)); intro gb151 hg w29 hbox hb; have n0_ := Aside0.mk (below_step (pe HB) hb); have n1_ := Aside0.mk (hbox); have n2_ := Aside0.mk ((by rw [hg]; exact (below_size (pe HB)) : w.heap.size ≤ gb151)); have n3_ := Aside0.mk ((by rw [hg]; exact (below_size (pe HB)) : w.heap.size ≤ gb151)); clear HB; have HB := n0_; have BK151 := n1_; have GW151 := n2_; have GE151 := n3_; clear n0_ n1_ n2_ n3_; clear hb hbox hg) | ((with_reducible refine gate_dst (N := 4) rfl ?_); refine box_event ?hg (N := 4) ?hd (cs := #[.int .i64 0, .int .i64 0, .int .i64 0, .string (⟨#[]⟩ : ByteArray)]) (t := 33) ?hr ?_; (case hd => rfl); (case hg => rfl); (case hr => first | (go_simp; done) | (go_simp; rfl)); intro gb152 hg w30 hbox hb; have n0_ := Aside0.mk (blk_below (pb BK151) hb); have n1_ := Aside0.mk (below_step (by repeat (first | (with_reducible first | exact HB.out | apply ba_ | apply bd_ | apply be_ | refine below_set ?_ GE151.out) | exact HB.out)) hb); have n2_ := Aside0.mk (hbox); have n3_ := Aside0.mk ((by rw [hg]; exact (below_size (by repeat (first | (with_reducible first | exact HB.out | apply ba_ | apply bd_ | apply be_ | refine below_set ?_ GE151.out) | exact HB.out))) : w.heap.size ≤ gb152)); have n4_ := Aside0.mk ((by rw [hg]; exact (below_size (by repeat (first | (with_reducible first | exact HB.out | apply ba_ | apply bd_ | apply be_ | refine below_set ?_ GE151.out) | exact HB.out))) : w.heap.size ≤ gb152)); have n5_ := Aside0.mk ((by rw [hg]; exact Nat.ne_of_lt (blk_lt (pb BK151)) : gb151 ≠ gb152)); have n6_ := Aside0.mk ((by rw [hg]; exact Nat.ne_of_gt (blk_lt (pb BK151)) : gb152 ≠ gb151)); clear BK151; clear HB; have BK151 := n0_; have HB := n1_; have BK152 := n2_; have GW152 := n3_; have GE152 := n4_; have NB151_152 := n5_; have NB152_151 := n6_; clear n0_ n1_ n2_ n3_ n4_ n5_ n6_; clear hb hbox hg) | ((with_reducible refine gate_callee (f := 36) rfl ?_); refine goesL_ (some 9) rfl rfl Try.func36 (by kernel_rfl) rfl #[.slice A1 l1.length c1] rfl (by (try simp only [List.map_toArray, List.map_cons, List.map_nil]); first | done | rfl | (simp only [List.length_drop, List.length_take]; rfl)) ?_; (with_reducible refine (signalboxref23_last.calls k _ _ l1 t153 _ ?side1 ?side2 A3.out).mono ?_); (case side1 => repeat (first | exact (Kd.C_below HR1.out HB.out) | (with_reducible refine Kd.C_alloc ?_ _) | (with_reducible refine Kd.C_drewN ?_ _) | (with_reducible refine Kd.C_drew ?_))); (case side2 => exact HC1.out); rintro e w' ⟨rfl, ⟨nd, rfl⟩⟩; refine ⟨_, rfl, ?_⟩; (try (rw [drewN_self w30]; generalize hq_ : World.drewN w30 _ = w30; have n0_ : Aside0 (w30.heap[gb151]? = some (.cells #[.int .u32 a0_0, .int .u32 a0_1, .bool a0_2, .string a0_3, .int .i64 a0_4, .int .i64 a0_5] 31 (0, 0))) := ⟨by rw [← hq_]; exact (pb BK151)⟩; have n1_ : Aside0 (w30.heap[gb152]? = some (.cells #[.int .i64 0, .int .i64 0, .int .i64 0, .string (⟨#[]⟩ : ByteArray)] 33 (0, 0))) := ⟨by rw [← hq_]; exact (pb BK152)⟩; have n2_ : Aside0 (Below w.heap.size w w30) := ⟨by rw [← hq_]; exact (by repeat (first | (with_reducible first | exact HB.out | apply ba_ | apply bd_ | apply be_ | refine below_set ?_ GE151.out | refine below_set ?_ GE152.out) | exact HB.out))⟩; clear BK151 BK152 HB hq_; have BK151 := n0_; have BK152 := n1_; have HB := n2_; clear n0_ n1_ n2_))) | ((with_reducible refine gate_callee (f := 39) rfl ?_); refine goesL_ (some 11) rfl rfl Try.func39 (by kernel_rfl) rfl #[.slice A1 l1.length c1] rfl (by (try simp only [List.map_toArray, List.map_cons, List.map_nil]); first | done | rfl | (simp only [List.length_drop, List.length_take]; rfl)) ?_; (with_reducible refine (signalboxref23_heard.calls k _ _ l1 t154 _ ?side1 ?side2 A4.out).mono ?_); (case side1 => repeat (first | exact (Kd.C_below HR1.out HB.out) | (with_reducible refine Kd.C_alloc ?_ _) | (with_reducible refine Kd.C_drewN ?_ _) | (with_reducible refine Kd.C_drew ?_))); (case side2 => exact HC1.out); rintro e w' ⟨rfl, ⟨nd, rfl⟩⟩; refine ⟨_, rfl, ?_⟩; (try (rw [drewN_self w30]; generalize hq_ : World.drewN w30 _ = w30; have n0_ : Aside0 (w30.heap[gb151]? = some (.cells #[.int .u32 a0_0, .int .u32 a0_1, .bool a0_2, .string a0_3, .int .i64 a0_4, .int .i64 a0_5] 31 (0, 0))) := ⟨by rw [← hq_]; exact (pb BK151)⟩; have n1_ : Aside0 (w30.heap[gb152]? = some (.cells #[.int .i64 0, .int .i64 0, .int .i64 0, .string (⟨#[]⟩ : ByteArray)] 33 (0, 0))) := ⟨by rw [← hq_]; exact (pb BK152)⟩; have n2_ : Aside0 (Below w.heap.size w w30) := ⟨by rw [← hq_]; exact (by repeat (first | (with_reducible first | exact HB.out | apply ba_ | apply bd_ | apply be_ | refine below_set ?_ GE151.out | refine below_set ?_ GE152.out) | exact HB.out))⟩; clear BK151 BK152 HB hq_; have BK151 := n0_; have BK152 := n1_; have HB := n2_; clear n0_ n1_ n2_))))
                have n0_ := Aside0.mk (blk_drew BK151.out)
                have n1_ := Aside0.mk (blk_drew BK152.out)
                have n2_ := Aside0.mk (below_drew1 HB.out)
                clear BK151; clear BK152; clear HB; have BK151 := n0_
                have BK152 := n1_
                have HB := n2_
                clear n0_ n1_ n2_; have p155 : 0 ≤ (t153 : Int) := of_decide_eq_true (by first | (with_reducible assumption) | assumption)
                have q155 : t153 < (l1.length : Int) := of_decide_eq_true (by first | (with_reducible assumption) | assumption)
                obtain ⟨ad155, e155, hx155_0, hx155_1, hx155_2, hx155_3, hx155_4, hx155_5, hx155_6, hx155_7, hx155_8, hx155_9, hx155_10, hx155_11, hx155_12⟩ := at_T65 HR1.out t153 p155 q155
                have hw155_12 := hx155_12
                have hw155_11 := hx155_11
                have hw155_10 := hx155_10
                have hw155_9 := hx155_9
                have hw155_8 := hx155_8
                have hw155_7 := hx155_7
                have hw155_6 := hx155_6
                have hw155_5 := hx155_5
                have hw155_4 := hx155_4
                have hw155_3 := hx155_3
                have hw155_2 := hx155_2
                have hw155_1 := hx155_1
                have hw155_0 := hx155_0
                cases e155
                replace hx155_0 := cu_ HB hx155_0
                replace hx155_1 := cu_ HB hx155_1
                replace hx155_2 := cu_ HB hx155_2
                replace hx155_3 := cu_ HB hx155_3
                replace hx155_4 := cu_ HB hx155_4
                replace hx155_5 := cu_ HB hx155_5
                replace hx155_6 := cu_ HB hx155_6
                replace hx155_7 := cu_ HB hx155_7
                replace hx155_8 := cu_ HB hx155_8
                replace hx155_9 := cu_ HB hx155_9
                replace hx155_10 := cu_ HB hx155_10
                replace hx155_11 := cu_ HB hx155_11
                replace hx155_12 := cu_ HB hx155_12
                replace p155 := eq_true p155
                replace q155 := eq_true q155
                have p156 : 0 ≤ (t154 : Int) := of_decide_eq_true (by first | (with_reducible assumption) | assumption)
                have q156 : t154 < (l1.length : Int) := of_decide_eq_true (by first | (with_reducible assumption) | assumption)
                obtain ⟨ad156, e156, hx156_0, hx156_1, hx156_2, hx156_3, hx156_4, hx156_5, hx156_6, hx156_7, hx156_8, hx156_9, hx156_10, hx156_11, hx156_12⟩ := at_T65 HR1.out t154 p156 q156
                have hw156_12 := hx156_12
                have hw156_11 := hx156_11
                have hw156_10 := hx156_10
                have hw156_9 := hx156_9
                have hw156_8 := hx156_8
                have hw156_7 := hx156_7
                have hw156_6 := hx156_6
                have hw156_5 := hx156_5
                have hw156_4 := hx156_4
                have hw156_3 := hx156_3
                have hw156_2 := hx156_2
                have hw156_1 := hx156_1
                have hw156_0 := hx156_0
                obtain rfl : ad155 = ad156 := (by injection e156)
                replace hx156_0 := cu_ HB hx156_0
                replace hx156_1 := cu_ HB hx156_1
                replace hx156_2 := cu_ HB hx156_2
                replace hx156_3 := cu_ HB hx156_3
                replace hx156_4 := cu_ HB hx156_4
                replace hx156_5 := cu_ HB hx156_5
                replace hx156_6 := cu_ HB hx156_6
                replace hx156_7 := cu_ HB hx156_7
                replace hx156_8 := cu_ HB hx156_8
                replace hx156_9 := cu_ HB hx156_9
                replace hx156_10 := cu_ HB hx156_10
                replace hx156_11 := cu_ HB hx156_11
                replace hx156_12 := cu_ HB hx156_12
                replace p156 := eq_true p156
                replace q156 := eq_true q156
                refine start_ (n := 23) (S := fun w' => w'.cell? ⟨gb151, 0, none⟩ = some (.int .u32 a0_0) ∧ w'.cell? ⟨gb151, 1, none⟩ = some (.int .u32 a0_1) ∧ w'.cell? ⟨gb151, 2, none⟩ = some (.bool a0_2) ∧ w'.cell? ⟨gb151, 3, none⟩ = some (.string a0_3) ∧ w'.cell? ⟨gb151, 4, none⟩ = some (.int .i64 a0_4) ∧ w'.cell? ⟨gb151, 5, none⟩ = some (.int .i64 a0_5) ∧ w'.cell? (ad155.add ((t153).toNat * 13)) = some (.int .i64 ((rd_T65 l1 t153).f0)) ∧ w'.cell? ⟨(ad155.add ((t153).toNat * 13)).block, (ad155.add ((t153).toNat * 13)).off + 1, none⟩ = some (.bool ((rd_T65 l1 t153).f1)) ∧ w'.cell? ⟨(ad155.add ((t153).toNat * 13)).block, (ad155.add ((t153).toNat * 13)).off + 2, none⟩ = some (.int .i64 ((rd_T65 l1 t153).f2.f0)) ∧ w'.cell? ⟨(ad155.add ((t153).toNat * 13)).block, (ad155.add ((t153).toNat * 13)).off + 3, none⟩ = some (.int .i64 ((rd_T65 l1 t153).f2.f1)) ∧ w'.cell? ⟨(ad155.add ((t153).toNat * 13)).block, (ad155.add ((t153).toNat * 13)).off + 4, none⟩ = some (.int .i64 ((rd_T65 l1 t153).f2.f2.f0)) ∧ w'.cell? ⟨(ad155.add ((t153).toNat * 13)).block, (ad155.add ((t153).toNat * 13)).off + 5, none⟩ = some (.int .i64 ((rd_T65 l1 t153).f2.f2.f1)) ∧ w'.cell? ⟨(ad155.add ((t153).toNat * 13)).block, (ad155.add ((t153).toNat * 13)).off + 6, none⟩ = some (.int .i64 ((rd_T65 l1 t153).f2.f2.f2)) ∧ w'.cell? ⟨(ad155.add ((t153).toNat * 13)).block, (ad155.add ((t153).toNat * 13)).off + 7, none⟩ = some (.string ((rd_T65 l1 t153).f2.f2.f3)) ∧ w'.cell? ⟨(ad155.add ((t153).toNat * 13)).block, (ad155.add ((t153).toNat * 13)).off + 8, none⟩ = some (.int .i64 ((rd_T65 l1 t153).f2.f3)) ∧ w'.cell? ⟨(ad155.add ((t153).toNat * 13)).block, (ad155.add ((t153).toNat * 13)).off + 9, none⟩ = some (.int .i64 ((rd_T65 l1 t153).f3.f0)) ∧ w'.cell? ⟨(ad155.add ((t153).toNat * 13)).block, (ad155.add ((t153).toNat * 13)).off + 10, none⟩ = some (.int .i64 ((rd_T65 l1 t153).f3.f1)) ∧ w'.cell? ⟨(ad155.add ((t153).toNat * 13)).block, (ad155.add ((t153).toNat * 13)).off + 11, none⟩ = some (.int .i64 ((rd_T65 l1 t153).f3.f2)) ∧ w'.cell? ⟨(ad155.add ((t153).toNat * 13)).block, (ad155.add ((t153).toNat * 13)).off + 12, none⟩ = some (.string ((rd_T65 l1 t153).f3.f3)) ∧ w'.cell? (ad155.add ((t154).toNat * 13)) = some (.int .i64 ((rd_T65 l1 t154).f0)) ∧ w'.cell? ⟨(ad155.add ((t154).toNat * 13)).block, (ad155.add ((t154).toNat * 13)).off + 1, none⟩ = some (.bool ((rd_T65 l1 t154).f1)) ∧ w'.cell? ⟨(ad155.add ((t154).toNat * 13)).block, (ad155.add ((t154).toNat * 13)).off + 2, none⟩ = some (.int .i64 ((rd_T65 l1 t154).f2.f0)) ∧ w'.cell? ⟨(ad155.add ((t154).toNat * 13)).block, (ad155.add ((t154).toNat * 13)).off + 3, none⟩ = some (.int .i64 ((rd_T65 l1 t154).f2.f1)) ∧ w'.cell? ⟨(ad155.add ((t154).toNat * 13)).block, (ad155.add ((t154).toNat * 13)).off + 4, none⟩ = some (.int .i64 ((rd_T65 l1 t154).f2.f2.f0)) ∧ w'.cell? ⟨(ad155.add ((t154).toNat * 13)).block, (ad155.add ((t154).toNat * 13)).off + 5, none⟩ = some (.int .i64 ((rd_T65 l1 t154).f2.f2.f1)) ∧ w'.cell? ⟨(ad155.add ((t154).toNat * 13)).block, (ad155.add ((t154).toNat * 13)).off + 6, none⟩ = some (.int .i64 ((rd_T65 l1 t154).f2.f2.f2)) ∧ w'.cell? ⟨(ad155.add ((t154).toNat * 13)).block, (ad155.add ((t154).toNat * 13)).off + 7, none⟩ = some (.string ((rd_T65 l1 t154).f2.f2.f3)) ∧ w'.cell? ⟨(ad155.add ((t154).toNat * 13)).block, (ad155.add ((t154).toNat * 13)).off + 8, none⟩ = some (.int .i64 ((rd_T65 l1 t154).f2.f3)) ∧ w'.cell? ⟨(ad155.add ((t154).toNat * 13)).block, (ad155.add ((t154).toNat * 13)).off + 9, none⟩ = some (.int .i64 ((rd_T65 l1 t154).f3.f0)) ∧ w'.cell? ⟨(ad155.add ((t154).toNat * 13)).block, (ad155.add ((t154).toNat * 13)).off + 10, none⟩ = some (.int .i64 ((rd_T65 l1 t154).f3.f1)) ∧ w'.cell? ⟨(ad155.add ((t154).toNat * 13)).block, (ad155.add ((t154).toNat * 13)).off + 11, none⟩ = some (.int .i64 ((rd_T65 l1 t154).f3.f2)) ∧ w'.cell? ⟨(ad155.add ((t154).toNat * 13)).block, (ad155.add ((t154).toNat * 13)).off + 12, none⟩ = some (.string ((rd_T65 l1 t154).f3.f3))) (ds := []) #[false, false, false, false, false, false, false, false, false, false, false, false, false, false, false, false, false, false, false, false, false, false, false] (by kernel_rfl) rfl rfl ⟨(blk_cell BK151.out 0).trans rfl, (blk_cell BK151.out 1).trans rfl, (blk_cell BK151.out 2).trans rfl, (blk_cell BK151.out 3).trans rfl, (blk_cell BK151.out 4).trans rfl, (blk_cell BK151.out 5).trans rfl, (cu_ HB hw155_0), (cu_ HB hw155_1), (cu_ HB hw155_2), (cu_ HB hw155_3), (cu_ HB hw155_4), (cu_ HB hw155_5), (cu_ HB hw155_6), (cu_ HB hw155_7), (cu_ HB hw155_8), (cu_ HB hw155_9), (cu_ HB hw155_10), (cu_ HB hw155_11), (cu_ HB hw155_12), (cu_ HB hw156_0), (cu_ HB hw156_1), (cu_ HB hw156_2), (cu_ HB hw156_3), (cu_ HB hw156_4), (cu_ HB hw156_5), (cu_ HB hw156_6), (cu_ HB hw156_7), (cu_ HB hw156_8), (cu_ HB hw156_9), (cu_ HB hw156_10), (cu_ HB hw156_11), (cu_ HB hw156_12)⟩ (fun hHeld => ?_); refine with_tabW signalboxref23_Held.tab2 signalboxref23_Held.bits2 (fun HT_ HW_ => ?_)
                generalize w30.drew = w31 at BK151 BK152 HB hx155_0 hx155_1 hx155_10 hx155_11 hx155_12 hx155_2 hx155_3 hx155_4 hx155_5 hx155_6 hx155_7 hx155_8 hx155_9 hx156_0 hx156_1 hx156_10 hx156_11 hx156_12 hx156_2 hx156_3 hx156_4 hx156_5 hx156_6 hx156_7 hx156_8 hx156_9 hHeld ⊢
                refine pure_ (i := 0) (N := some 12) (v := ?_) (a' := ?_) #[true, false, false, false, false, false, false, false, false, false, false, false, false, false, false, false, false, false, false, false, false, false, false] rfl rfl (any_of HT_.out (by kernel_rfl)) (fun _ _ _ h => h) (Or.inl ⟨by rfl, ?_⟩) ?_ ?_
                rotate_left
                · intro w'
                  go_simp
                  with_reducible rfl
                rotate_left
                · simp only [Act.put, sa_, sb_, sc_, i64_w, i32_w]; rfl
                refine pure_ (i := 1) (N := some 13) (v := ?_) (a' := ?_) #[true, true, false, false, false, false, false, false, false, false, false, false, false, false, false, false, false, false, false, false, false, false, false] rfl rfl (any_of HT_.out (by kernel_rfl)) (fun _ _ _ h => h) (Or.inl ⟨by rfl, ?_⟩) ?_ ?_
                rotate_left
                · intro w'
                  go_simp
                  with_reducible rfl
                rotate_left
                · simp only [Act.put, sa_, sb_, sc_, i64_w, i32_w]; rfl
                refine pure_ (i := 2) (N := some 14) (v := ?_) (a' := ?_) #[true, true, true, false, false, false, false, false, false, false, false, false, false, false, false, false, false, false, false, false, false, false, false] rfl rfl (any_of HT_.out (by kernel_rfl)) (fun _ _ _ h => h) (Or.inl ⟨by rfl, ?_⟩) ?_ ?_
                rotate_left
                · intro w'
                  go_simp
                  with_reducible rfl
                rotate_left
                · simp only [Act.put, sa_, sb_, sc_, i64_w, i32_w]; rfl
                refine pure_ (i := 3) (N := some 15) (v := ?_) (a' := ?_) #[true, true, true, true, false, false, false, false, false, false, false, false, false, false, false, false, false, false, false, false, false, false, false] rfl rfl (any_of HT_.out (by kernel_rfl)) (fun _ _ _ h => h) (Or.inl ⟨by rfl, ?_⟩) ?_ ?_
                rotate_left
                · intro w'
                  go_simp
                  with_reducible rfl
                rotate_left
                · simp only [Act.put, sa_, sb_, sc_, i64_w, i32_w]; rfl
                refine pure_ (i := 4) (N := some 16) (v := ?_) (a' := ?_) #[true, true, true, true, true, false, false, false, false, false, false, false, false, false, false, false, false, false, false, false, false, false, false] rfl rfl (any_of HT_.out (by kernel_rfl)) (fun _ _ _ h => h) (Or.inl ⟨by rfl, ?_⟩) ?_ ?_
                rotate_left
                · intro w'
                  go_simp
                  with_reducible rfl
                rotate_left
                · simp only [Act.put, sa_, sb_, sc_, i64_w, i32_w]; rfl
                refine pure_ (i := 5) (N := some 17) (v := ?_) (a' := ?_) #[true, true, true, true, true, true, false, false, false, false, false, false, false, false, false, false, false, false, false, false, false, false, false] rfl rfl (any_of HT_.out (by kernel_rfl)) (fun _ _ _ h => h) (Or.inl ⟨by rfl, ?_⟩) ?_ ?_
                rotate_left
                · intro w'
                  go_simp
                  with_reducible rfl
                rotate_left
                · simp only [Act.put, sa_, sb_, sc_, i64_w, i32_w]; rfl
                refine pure_ (i := 6) (N := some 18) (v := ?_) (a' := ?_) #[true, true, true, true, true, true, true, false, false, false, false, false, false, false, false, false, false, false, false, false, false, false, false] rfl rfl (any_of HT_.out (by kernel_rfl)) (fun _ _ _ h => h) (Or.inl ⟨by rfl, ?_⟩) ?_ ?_
                rotate_left
                · intro w'
                  go_simp
                  with_reducible rfl
                rotate_left
                · simp only [Act.put, sa_, sb_, sc_, i64_w, i32_w]; rfl
                refine pure_ (i := 7) (N := some 19) (v := ?_) (a' := ?_) #[true, true, true, true, true, true, true, true, false, false, false, false, false, false, false, false, false, false, false, false, false, false, false] rfl rfl (any_of HT_.out (by kernel_rfl)) (fun _ _ _ h => h) (Or.inl ⟨by rfl, ?_⟩) ?_ ?_
                rotate_left
                · intro w'
                  go_simp
                  with_reducible rfl
                rotate_left
                · simp only [Act.put, sa_, sb_, sc_, i64_w, i32_w]; rfl
                refine pure_ (i := 9) (N := some 21) (v := ?_) (a' := ?_) #[true, true, true, true, true, true, true, true, false, true, false, false, false, false, false, false, false, false, false, false, false, false, false] rfl rfl (any_of HT_.out (by kernel_rfl)) (fun _ _ _ h => h) (Or.inl ⟨by rfl, ?_⟩) ?_ ?_
                rotate_left
                · intro w'
                  go_simp
                  with_reducible rfl
                rotate_left
                · simp only [Act.put, sa_, sb_, sc_, i64_w, i32_w]; rfl
                refine pure_ (i := 10) (N := some 22) (v := ?_) (a' := ?_) #[true, true, true, true, true, true, true, true, false, true, true, false, false, false, false, false, false, false, false, false, false, false, false] rfl rfl (any_of HT_.out (by kernel_rfl)) (fun _ _ _ h => h) (Or.inl ⟨by rfl, ?_⟩) ?_ ?_
                rotate_left
                · intro w'
                  go_simp
                  with_reducible rfl
                rotate_left
                · simp only [Act.put, sa_, sb_, sc_, i64_w, i32_w]; rfl
                refine pure_ (i := 11) (N := some 23) (v := ?_) (a' := ?_) #[true, true, true, true, true, true, true, true, false, true, true, true, false, false, false, false, false, false, false, false, false, false, false] rfl rfl (any_of HT_.out (by kernel_rfl)) (fun _ _ _ h => h) (Or.inl ⟨by rfl, ?_⟩) ?_ ?_
                rotate_left
                · intro w'
                  go_simp
                  with_reducible rfl
                rotate_left
                · simp only [Act.put, sa_, sb_, sc_, i64_w, i32_w]; rfl
                refine pure_ (i := 12) (N := some 24) (v := ?_) (a' := ?_) #[true, true, true, true, true, true, true, true, false, true, true, true, true, false, false, false, false, false, false, false, false, false, false] rfl rfl (any_of HT_.out (by kernel_rfl)) (fun _ _ _ h => h) (Or.inl ⟨by rfl, ?_⟩) ?_ ?_
                rotate_left
                · intro w'
                  go_simp
                  with_reducible rfl
                rotate_left
                · simp only [Act.put, sa_, sb_, sc_, i64_w, i32_w]; rfl
                refine pure_ (i := 13) (N := some 25) (v := ?_) (a' := ?_) #[true, true, true, true, true, true, true, true, false, true, true, true, true, true, false, false, false, false, false, false, false, false, false] rfl rfl (any_of HT_.out (by kernel_rfl)) (fun _ _ _ h => h) (Or.inl ⟨by rfl, ?_⟩) ?_ ?_
                rotate_left
                · intro w'
                  go_simp
                  with_reducible rfl
                rotate_left
                · simp only [Act.put, sa_, sb_, sc_, i64_w, i32_w]; rfl
                refine pure_ (i := 15) (N := some 27) (v := ?_) (a' := ?_) #[true, true, true, true, true, true, true, true, false, true, true, true, true, true, false, true, false, false, false, false, false, false, false] rfl rfl (any_of HT_.out (by kernel_rfl)) (fun _ _ _ h => h) (Or.inl ⟨by rfl, ?_⟩) ?_ ?_
                rotate_left
                · intro w'
                  go_simp
                  with_reducible rfl
                rotate_left
                · simp only [Act.put, sa_, sb_, sc_, i64_w, i32_w]; rfl
                refine pure_ (i := 16) (N := some 28) (v := ?_) (a' := ?_) #[true, true, true, true, true, true, true, true, false, true, true, true, true, true, false, true, true, false, false, false, false, false, false] rfl rfl (any_of HT_.out (by kernel_rfl)) (fun _ _ _ h => h) (Or.inl ⟨by rfl, ?_⟩) ?_ ?_
                rotate_left
                · intro w'
                  go_simp
                  with_reducible rfl
                rotate_left
                · simp only [Act.put, sa_, sb_, sc_, i64_w, i32_w]; rfl
                refine pure_ (i := 17) (N := some 29) (v := ?_) (a' := ?_) #[true, true, true, true, true, true, true, true, false, true, true, true, true, true, false, true, true, true, false, false, false, false, false] rfl rfl (any_of HT_.out (by kernel_rfl)) (fun _ _ _ h => h) (Or.inl ⟨by rfl, ?_⟩) ?_ ?_
                rotate_left
                · intro w'
                  go_simp
                  with_reducible rfl
                rotate_left
                · simp only [Act.put, sa_, sb_, sc_, i64_w, i32_w]; rfl
                refine pure_ (i := 18) (N := some 30) (v := ?_) (a' := ?_) #[true, true, true, true, true, true, true, true, false, true, true, true, true, true, false, true, true, true, true, false, false, false, false] rfl rfl (any_of HT_.out (by kernel_rfl)) (fun _ _ _ h => h) (Or.inl ⟨by rfl, ?_⟩) ?_ ?_
                rotate_left
                · intro w'
                  go_simp
                  with_reducible rfl
                rotate_left
                · simp only [Act.put, sa_, sb_, sc_, i64_w, i32_w]; rfl
                refine take_ (i := 8) (N := some 20) (v := ?_) (a' := ?_) #[true, true, true, true, true, true, true, true, true, true, true, true, true, true, false, true, true, true, true, false, false, false, false] rfl rfl (take_ofW HT_.out HW_.out (by kernel_rfl)) (fun _ _ _ h => h) (Or.inl ⟨by rfl, ?_⟩) hHeld ?_ ?_
                rotate_left
                · rintro w' ⟨s0, s1, s2, s3, s4, s5, s6, s7, s8, s9, s10, s11, s12, s13, s14, s15, s16, s17, s18, s19, s20, s21, s22, s23, s24, s25, s26, s27, s28, s29, s30, s31⟩
                  go_simp
                  with_reducible rfl
                rotate_left
                · simp only [Act.put, sa_, sb_, sc_, i64_w, i32_w]; rfl
                refine take_ (i := 14) (N := some 26) (v := ?_) (a' := ?_) #[true, true, true, true, true, true, true, true, true, true, true, true, true, true, true, true, true, true, true, false, false, false, false] rfl rfl (take_ofW HT_.out HW_.out (by kernel_rfl)) (fun _ _ _ h => h) (Or.inl ⟨by rfl, ?_⟩) hHeld ?_ ?_
                rotate_left
                · rintro w' ⟨s0, s1, s2, s3, s4, s5, s6, s7, s8, s9, s10, s11, s12, s13, s14, s15, s16, s17, s18, s19, s20, s21, s22, s23, s24, s25, s26, s27, s28, s29, s30, s31⟩
                  go_simp
                  with_reducible rfl
                rotate_left
                · simp only [Act.put, sa_, sb_, sc_, i64_w, i32_w]; rfl
                refine take_ (i := 19) (N := some 31) (v := ?_) (a' := ?_) #[true, true, true, true, true, true, true, true, true, true, true, true, true, true, true, true, true, true, true, true, false, false, false] rfl rfl (take_ofW HT_.out HW_.out (by kernel_rfl)) (fun _ _ _ h => h) (Or.inl ⟨by rfl, ?_⟩) hHeld ?_ ?_
                rotate_left
                · rintro w' ⟨s0, s1, s2, s3, s4, s5, s6, s7, s8, s9, s10, s11, s12, s13, s14, s15, s16, s17, s18, s19, s20, s21, s22, s23, s24, s25, s26, s27, s28, s29, s30, s31⟩
                  go_simp
                  with_reducible rfl
                rotate_left
                · simp only [Act.put, sa_, sb_, sc_, i64_w, i32_w]; rfl
                refine one_ (i := 20) (N := some 32) #[true, true, true, true, true, true, true, true, true, true, true, true, true, true, true, true, true, true, true, true, true, false, false] rfl rfl (one_of HT_.out (by kernel_rfl)) (by decide) (fun K hK => ?_)
                refine goes_ Try.func16 (by kernel_rfl) rfl #[.agg #[.int .u32 a0_0, .int .u32 a0_1, .bool a0_2, .string a0_3, .int .i64 a0_4, .int .i64 a0_5], .agg #[.int .i64 ((rd_T65 l1 t153).f2.f2.f0), .int .i64 ((rd_T65 l1 t153).f2.f2.f1), .int .i64 ((rd_T65 l1 t153).f2.f2.f2), .string ((rd_T65 l1 t153).f2.f2.f3)], .agg #[.int .i64 ((rd_T65 l1 t154).f3.f0), .int .i64 ((rd_T65 l1 t154).f3.f1), .int .i64 ((rd_T65 l1 t154).f3.f2), .string ((rd_T65 l1 t154).f3.f3)]] (by rfl) rfl rfl (by (try simp only [List.map_toArray, List.map_cons, List.map_nil]); first | done | rfl | (simp only [List.length_drop, List.length_take]; rfl)) ?_
                with_reducible refine (signalboxref23_Differ.calls k a0_0 a0_1 a0_2 a0_3 a0_4 a0_5 ((rd_T65 l1 t153).f2.f2.f0) ((rd_T65 l1 t153).f2.f2.f1) ((rd_T65 l1 t153).f2.f2.f2) ((rd_T65 l1 t153).f2.f2.f3) ((rd_T65 l1 t154).f3.f0) ((rd_T65 l1 t154).f3.f1) ((rd_T65 l1 t154).f3.f2) ((rd_T65 l1 t154).f3.f3) false _ A21.out).mono ?_
                rintro e w32 ⟨rfl, hb⟩
                refine ⟨_, rfl, ?_⟩
                have n0_ := Aside0.mk (blk_below (pb BK151) hb)
                have n1_ := Aside0.mk (blk_below (pb BK152) hb)
                have n2_ := Aside0.mk (below_step (by repeat (first | (with_reducible first | exact HB.out | apply ba_ | apply bd_ | apply be_ | refine below_set ?_ GE151.out | refine below_set ?_ GE152.out) | exact HB.out)) hb)
                clear BK151; clear BK152; clear HB; have BK151 := n0_
                have BK152 := n1_
                have HB := n2_
                clear n0_ n1_ n2_; (try clear hb); (try clear hb2); (try clear hk); (try clear hi); refine hK.out _ _ ⟨(blk_cell BK151.out 0).trans rfl, (blk_cell BK151.out 1).trans rfl, (blk_cell BK151.out 2).trans rfl, (blk_cell BK151.out 3).trans rfl, (blk_cell BK151.out 4).trans rfl, (blk_cell BK151.out 5).trans rfl, (cu_ HB hw155_0), (cu_ HB hw155_1), (cu_ HB hw155_2), (cu_ HB hw155_3), (cu_ HB hw155_4), (cu_ HB hw155_5), (cu_ HB hw155_6), (cu_ HB hw155_7), (cu_ HB hw155_8), (cu_ HB hw155_9), (cu_ HB hw155_10), (cu_ HB hw155_11), (cu_ HB hw155_12), (cu_ HB hw156_0), (cu_ HB hw156_1), (cu_ HB hw156_2), (cu_ HB hw156_3), (cu_ HB hw156_4), (cu_ HB hw156_5), (cu_ HB hw156_6), (cu_ HB hw156_7), (cu_ HB hw156_8), (cu_ HB hw156_9), (cu_ HB hw156_10), (cu_ HB hw156_11), (cu_ HB hw156_12)⟩ (fun hHeld => ?_)
                clear hK K; refine norm_ (a' := ?_) ?_ ?_
                rotate_left
                · show Act.put _ (some 32) _ = _
                  simp only [Act.put, sa_, sb_, sc_, i64_w, i32_w]
                  rfl
                refine pure_ (i := 21) (N := some 33) (v := ?_) (a' := ?_) #[true, true, true, true, true, true, true, true, true, true, true, true, true, true, true, true, true, true, true, true, true, true, false] rfl rfl (any_of HT_.out (by kernel_rfl)) (fun _ _ _ h => h) (Or.inl ⟨by rfl, ?_⟩) ?_ ?_
                rotate_left
                · intro w'
                  go_simp
                  with_reducible rfl
                rotate_left
                · simp only [Act.put, sa_, sb_, sc_, i64_w, i32_w]; rfl
                refine pure_ (i := 22) (N := some 34) (v := ?_) (a' := ?_) #[true, true, true, true, true, true, true, true, true, true, true, true, true, true, true, true, true, true, true, true, true, true, true] rfl rfl (any_of HT_.out (by kernel_rfl)) (fun _ _ _ h => h) (Or.inl ⟨by rfl, ?_⟩) ?_ ?_
                rotate_left
                · intro w'
                  go_simp
                  with_reducible rfl
                rotate_left
                · simp only [Act.put, sa_, sb_, sc_, i64_w, i32_w]; rfl
                refine done_ (done_of HT_.out (by kernel_rfl)) ?_
                have hnb33 := NB152_151.out
                have hnc33 := NB151_152.out
                have hcz34_0 : w32.cell? ⟨gb152, 0, none⟩ = some (.int .i64 0) := (blk_cell BK152.out 0).trans rfl
                have hcz34_1 : w32.cell? ⟨gb152, 1, none⟩ = some (.int .i64 0) := (blk_cell BK152.out 1).trans rfl
                have hcz34_2 : w32.cell? ⟨gb152, 2, none⟩ = some (.int .i64 0) := (blk_cell BK152.out 2).trans rfl
                have hcz34_3 : w32.cell? ⟨gb152, 3, none⟩ = some (.string (⟨#[]⟩ : ByteArray)) := (blk_cell BK152.out 3).trans rfl
                have hfz34_0 := blk_frozen BK152.out 0
                have hfz34_1 := blk_frozen BK152.out 1
                have hfz34_2 := blk_frozen BK152.out 2
                have hfz34_3 := blk_frozen BK152.out 3
                try go_wp2
                refine bodyPost_ret (results_ct rfl _ _ gb152 33 #[.int .i64 0, .int .i64 0, .int .i64 0, .string (⟨#[]⟩ : ByteArray)] (0, 0) _ rfl (by (with_reducible repeat (first | refine kd_ ?_ _ | refine ke_ ?_ | refine ka_ ?_ _)); refine blk_put (cs := #[.int .i64 0, .int .i64 0, .int .i64 0, .string (⟨#[]⟩ : ByteArray)]) ?_ 3 _ rfl; (with_reducible repeat (first | refine kd_ ?_ _ | refine ke_ ?_ | refine ka_ ?_ _)); refine blk_put (cs := #[.int .i64 0, .int .i64 0, .int .i64 0, .string (⟨#[]⟩ : ByteArray)]) ?_ 2 _ rfl; (with_reducible repeat (first | refine kd_ ?_ _ | refine ke_ ?_ | refine ka_ ?_ _)); refine blk_put (cs := #[.int .i64 0, .int .i64 0, .int .i64 0, .string (⟨#[]⟩ : ByteArray)]) ?_ 1 _ rfl; (with_reducible repeat (first | refine kd_ ?_ _ | refine ke_ ?_ | refine ka_ ?_ _)); refine blk_put (cs := #[.int .i64 0, .int .i64 0, .int .i64 0, .string (⟨#[]⟩ : ByteArray)]) ?_ 0 _ rfl; (with_reducible repeat (first | refine kd_ ?_ _ | refine ke_ ?_ | refine ka_ ?_ _)); exact BK152.out) Try.underlying33 rfl (by kernel_rfl)) rfl ?_
                exact ⟨by first | rfl | (simp [errW_none, errW_some] <;> rfl) | (simp [*, errW_none, errW_some] <;> rfl), by repeat (first | (with_reducible first | exact HB.out | apply ba_ | apply bd_ | apply be_ | refine below_set ?_ GE151.out | refine below_set ?_ GE152.out) | exact HB.out)⟩
            · rw [if_neg c20] at H
              exact absurd H (by simp)
          · rw [if_neg c19] at H
            exact absurd H (by simp)
        · rw [if_neg c18] at H
          exact absurd H (by simp)
      · rw [if_neg c17] at H
        exact absurd H (by simp)

end Go.Proofs.Ytelplkdbjfkfmaa.PWatchPlays
