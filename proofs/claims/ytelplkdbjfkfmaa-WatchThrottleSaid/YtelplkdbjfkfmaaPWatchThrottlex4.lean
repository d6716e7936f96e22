-- Laid by a program of the session over the kit's print. Not trusted: Lean checks it.
import Derived.Test.YtelplkdbjfkfmaaPWatchThrottlex0
import Derived.Test.YtelplkdbjfkfmaaPWatchThrottlex1
import Derived.Test.YtelplkdbjfkfmaaPWatchThrottlex3
namespace Go.Proofs.Ytelplkdbjfkfmaa.PWatchThrottle
open Go.RowKit Go.Proofs.YtelplkdbjfkfmaaW.PrintWords Go.Proofs.YtelplkdbjfkfmaaW.PrintLast Go.Proofs.YtelplkdbjfkfmaaW.PrintMore
attribute [local go_sem] max2_int min2_int max_two min_two max_three min_three max_four min_four   -- for this text's walks alone
set_option linter.unusedVariables false
set_option linter.unusedSimpArgs false

/-! ### octet_Differ: function 41 -/
def octet_Differ.f (a0 : ByteArray) (a1 : ByteArray) (a2 : ByteArray) : Option (Bool) := if (a0.size : Int) = (a1.size : Int) then ((octet_Mask.f a0 a2).bind fun t134 => ((octet_Mask.f a1 a2).bind fun t135 => (some (t134.toList != t135.toList)))) else (some true)
set_option maxHeartbeats 8000000 in
set_option maxRecDepth 100000 in
theorem octet_Differ.calls (a0 : ByteArray) (a1 : ByteArray) (a2 : ByteArray) (r : Bool) (w : World) (h : octet_Differ.f a0 a1 a2 = some r) :
    Calls Try.prog 41 #[.string a0, .string a1, .string a2] w fun e w' => e = .returned (.bool r) ∧ Below w.heap.size w w' := by
  have HB := Aside0.mk (Below.refl w.heap.size w)
  have H : (if (a0.size : Int) = (a1.size : Int) then ((octet_Mask.f a0 a2).bind fun t134 => ((octet_Mask.f a1 a2).bind fun t135 => (some (t134.toList != t135.toList)))) else (some true)) = some r := h
  clear h
  by_cases c4 : (a0.size : Int) = (a1.size : Int)
  · rw [if_pos c4] at H
    have c4b0 : ((a0.size : Int) == (a1.size : Int)) = true := beq_iff_eq.mpr c4
    have c4b1 : ((a0.size : Int) != (a1.size : Int)) = false := bne_eq_false_iff_eq.mpr c4
    have c4b2 : (a0.size == a1.size) = true := by first | simpa using c4 | (simp at c4 ⊢; omega)
    clear c4
    replace H := Option.bind_eq_some_iff.mp H
    obtain ⟨t134, A50, H⟩ := H
    replace H : ((octet_Mask.f a1 a2).bind fun t135 => (some (t134.toList != t135.toList))) = some r := H
    have A5 := Aside0.mk A50
    clear A50
    replace H := Option.bind_eq_some_iff.mp H
    obtain ⟨t135, A60, H⟩ := H
    replace H : (some (t134.toList != t135.toList)) = some r := H
    have A6 := Aside0.mk A60
    clear A60
    obtain rfl := Option.some.inj H
    go_enter Try.func41, Try.ntmps41
    go_wp2_with (first | (go_at_call 50; (with_reducible refine (octet_Mask.calls a0 a2 t134 _ A5.out).mono ?_); rintro e w7 ⟨rfl, hb⟩; have n0_ := Aside0.mk (below_step (by repeat (first | (with_reducible first | exact HB.out | apply below_alloc | apply pw_below_drewN | apply below_drew1) | exact HB.out)) hb); clear HB; have HB := n0_; clear n0_; (try clear hb); (try clear hb2); (try clear hk); (try clear hi)) | (go_at_call 50; (with_reducible refine (octet_Mask.calls a1 a2 t135 _ A6.out).mono ?_); rintro e w8 ⟨rfl, hb⟩; have n0_ := Aside0.mk (below_step (by repeat (first | (with_reducible first | exact HB.out | apply below_alloc | apply pw_below_drewN | apply below_drew1) | exact HB.out)) hb); clear HB; have HB := n0_; clear n0_; (try clear hb); (try clear hb2); (try clear hk); (try clear hi)))
    go_ret
    exact ⟨by first | rfl | (simp [errW_none, errW_some] <;> rfl) | (simp [*, errW_none, errW_some] <;> rfl), by repeat (first | (with_reducible first | exact HB.out | apply below_alloc | apply pw_below_drewN | apply below_drew1) | exact HB.out)⟩
  · rw [if_neg c4] at H
    have c4b0 : ((a0.size : Int) == (a1.size : Int)) = false := beq_eq_false_iff_ne.mpr c4
    have c4b1 : ((a0.size : Int) != (a1.size : Int)) = true := bne_iff_ne.mpr c4
    have c4b2 : (a0.size == a1.size) = false := by first | simpa using c4 | (simp at c4 ⊢; omega)
    obtain rfl := Option.some.inj H
    go_enter Try.func41, Try.ntmps41
    go_wp2
    go_ret
    exact ⟨by first | rfl | (simp [errW_none, errW_some] <;> rfl) | (simp [*, errW_none, errW_some] <;> rfl), by repeat (first | (with_reducible first | exact HB.out | apply below_alloc | apply pw_below_drewN | apply below_drew1) | exact HB.out)⟩

/-! ### watch_Watch_differs: function 29 -/
def difS (s : WS) (l : Int) (d : ByteArray) : Option Bool :=
  match s.told with
  | none => some true
  | some f => if f.2.2.1 = l then octet_Differ.f f.2.2.2 d s.wmk else some true
set_option maxRecDepth 1000000 in
set_option maxHeartbeats 8000000 in
theorem dif_ok (base g : Nat) (s : WS) (i fl l : Int) (d : ByteArray) (r : Bool) (w : World) (hW : WAt w base g s) (h : difS s l d = some r) :
    Calls Try.prog 29 #[.pointer (some ⟨g, 0, none⟩), .agg #[.int .i64 i, .int .i64 fl, .int .i64 l, .string d]] w fun e w' => e = .returned (.bool r) ∧ Below w.heap.size w w' := by
  have hu := Try.underlying33
  have hu2 := Try.underlying72
  have hu3 := Try.underlying31
  obtain ⟨h0, pt, ph, h1, h2, h3⟩ := hW
  obtain ⟨id, km, inv, wmk, thr, sil, told, at_, held, heard, quiet⟩ := s
  have BW := Aside0.mk (blk_alloc h1 (Obj.cells #[.int .i64 i, .int .i64 fl, .int .i64 l, .string d] 33 (0, 0)))
  have BF := Aside0.mk (blk_new w (Obj.cells #[.int .i64 i, .int .i64 fl, .int .i64 l, .string d] 33 (0, 0)))
  have HB := Aside0.mk (below_alloc (Below.refl w.heap.size w) (Obj.cells #[.int .i64 i, .int .i64 fl, .int .i64 l, .string d] 33 (0, 0)))
  cases told with
  | none =>
    obtain rfl : pt = .pointer none := h2
    obtain rfl : true = r := Option.some.inj h
    have hc6 : (w.alloc (Obj.cells #[.int .i64 i, .int .i64 fl, .int .i64 l, .string d] 33 (0, 0))).cell? ⟨g, 6, none⟩ = some (.pointer none) := (blk_cell BW.out 6).trans rfl
    clear h h1 h3 h0
    go_enter Try.func29, Try.ntmps29
    go_wp2
    go_quiet (fail)
    go_wp2
    go_ret
    exact ⟨rfl, pw_below_drewN HB.out _⟩
  | some f =>
    obtain ⟨b, rfl, q2, q3⟩ := h2
    obtain ⟨f0, f1, f2, f3⟩ := f
    have BT := Aside0.mk (blk_alloc q3 (Obj.cells #[.int .i64 i, .int .i64 fl, .int .i64 l, .string d] 33 (0, 0)))
    have hc6 : (w.alloc (Obj.cells #[.int .i64 i, .int .i64 fl, .int .i64 l, .string d] 33 (0, 0))).cell? ⟨g, 6, none⟩ = some (.pointer (some ⟨b, 0, none⟩)) := (blk_cell BW.out 6).trans rfl
    have hb2 : (w.alloc (Obj.cells #[.int .i64 i, .int .i64 fl, .int .i64 l, .string d] 33 (0, 0))).cell? ⟨b, 2, none⟩ = some (.int .i64 f2) := (blk_cell BT.out 2).trans rfl
    have hf2 : (w.alloc (Obj.cells #[.int .i64 i, .int .i64 fl, .int .i64 l, .string d] 33 (0, 0))).cell? ⟨w.heap.size, 2, none⟩ = some (.int .i64 l) := (blk_cell BF.out 2).trans rfl
    by_cases hl : f2 = l
    · have hD : octet_Differ.f f3 d wmk = some r := by simpa [difS, hl] using h
      have HD := Aside0.mk (fun (W : World) => octet_Differ.calls f3 d wmk r W hD)
      have hlb : (f2 != l) = false := by simp [hl]
      have hlc : (f2 == l) = true := by simp [hl]
      clear h h1 h3 h0 q2 q3 hD hc6 hb2 hf2
      go_enter Try.func29, Try.ntmps29
      go_wp2
      go_region_held3 (fun w' => w'.cell? ⟨g, 6, none⟩ = some (.pointer (some ⟨b, 0, none⟩)) ∧ w'.cell? ⟨g, 3, none⟩ = some (.string wmk) ∧ w'.cell? ⟨b, 2, none⟩ = some (.int .i64 f2) ∧ w'.cell? ⟨b, 3, none⟩ = some (.string f3) ∧ w'.cell? ⟨w.heap.size, 2, none⟩ = some (.int .i64 l) ∧ w'.cell? ⟨w.heap.size, 3, none⟩ = some (.string d)) (first | exact ⟨(blk_cell (blk_drew BW.out) 6).trans rfl, (blk_cell (blk_drew BW.out) 3).trans rfl, (blk_cell (blk_drew BT.out) 2).trans rfl, (blk_cell (blk_drew BT.out) 3).trans rfl, (blk_cell (blk_drew BF.out) 2).trans rfl, (blk_cell (blk_drew BF.out) 3).trans rfl⟩ | exact ⟨(blk_cell BW.out 6).trans rfl, (blk_cell BW.out 3).trans rfl, (blk_cell BT.out 2).trans rfl, (blk_cell BT.out 3).trans rfl, (blk_cell BF.out 2).trans rfl, (blk_cell BF.out 3).trans rfl⟩ | go_keep) (first | (go_at_call 41; (with_reducible refine (HD.out _).mono ?_); rintro e w2 ⟨rfl, hb⟩; have n0_ := Aside0.mk (blk_below (blk_drew BW.out) hb); have n1_ := Aside0.mk (blk_below (blk_drew BF.out) hb); have n3_ := Aside0.mk (blk_below (blk_drew BT.out) hb); have n2_ := Aside0.mk (below_step (below_drew1 HB.out) hb); clear BW BF BT HB hb; have BW := n0_; have BF := n1_; have BT := n3_; have HB := n2_; clear n0_ n1_ n2_ n3_))
      all_goals
        go_wp2
        go_ret
        first | exact ⟨rfl, HB.out⟩ | exact ⟨rfl, below_drew1 HB.out⟩
    · obtain rfl : true = r := by simpa [difS, hl] using h
      have hlb : (f2 != l) = true := by simp [hl]
      have hlc : (f2 == l) = false := by simp [hl]
      clear h h1 h3 h0 q2 q3
      go_enter Try.func29, Try.ntmps29
      go_wp2
      go_quiet (fail)
      go_wp2
      go_ret
      exact ⟨rfl, pw_below_drewN HB.out _⟩

/-! ### watch_Watch_note: function 31 -/
theorem blk2n_ (w : World) (o1 o2 : Obj) : ((w.alloc o1).alloc o2).heap[w.heap.size + 1]? = some o2 := by
  have h := blk_new (w.alloc o1) o2
  have e : (w.alloc o1).heap.size = w.heap.size + 1 := Array.size_push ..
  rwa [e] at h
set_option maxRecDepth 1000000 in
set_option maxHeartbeats 16000000 in
theorem note_ok (base g : Nat) (s : WS) (kd now i fl l : Int) (d : ByteArray) (w : World) (hW : WAt w base g s) :
    Calls Try.prog 31 #[.pointer (some ⟨g, 0, none⟩), .int .i64 kd, .int .i64 now, .agg #[.int .i64 i, .int .i64 fl, .int .i64 l, .string d]] w fun e w' => e = .returned (.agg #[.int .i64 kd, .int .i64 (wrap64 s.id), .int .i64 i, .int .i64 fl, .int .i64 l, .string d, .int .i64 now]) ∧ Below w.heap.size w w' := by
  have hu := Try.underlying33
  have hu2 := Try.underlying72
  have hu3 := Try.underlying31
  have hu4 := Try.underlying29
  have hu5 := Try.underlying35
  obtain ⟨h0, pt, ph, h1, h2, h3⟩ := hW
  have BW := Aside0.mk (blk_alloc (blk_alloc h1 (Obj.cells #[.int .i64 i, .int .i64 fl, .int .i64 l, .string d] 33 (0, 0))) (Obj.cells #[.int .i64 0, .int .i64 0, .int .i64 0, .int .i64 0, .int .i64 0, .string (⟨#[]⟩ : ByteArray), .int .i64 0] 35 (0, 0)))
  have BF := Aside0.mk (blk_alloc (blk_new w (Obj.cells #[.int .i64 i, .int .i64 fl, .int .i64 l, .string d] 33 (0, 0))) (Obj.cells #[.int .i64 0, .int .i64 0, .int .i64 0, .int .i64 0, .int .i64 0, .string (⟨#[]⟩ : ByteArray), .int .i64 0] 35 (0, 0)))
  have BN := Aside0.mk (blk2n_ w (Obj.cells #[.int .i64 i, .int .i64 fl, .int .i64 l, .string d] 33 (0, 0)) (Obj.cells #[.int .i64 0, .int .i64 0, .int .i64 0, .int .i64 0, .int .i64 0, .string (⟨#[]⟩ : ByteArray), .int .i64 0] 35 (0, 0)))
  have HB := Aside0.mk (below_alloc (below_alloc (Below.refl w.heap.size w) (Obj.cells #[.int .i64 i, .int .i64 fl, .int .i64 l, .string d] 33 (0, 0))) (Obj.cells #[.int .i64 0, .int .i64 0, .int .i64 0, .int .i64 0, .int .i64 0, .string (⟨#[]⟩ : ByteArray), .int .i64 0] 35 (0, 0)))
  have hlt := blk_lt h1
  clear h1 h2 h3 h0
  go_enter Try.func31, Try.ntmps31
  go_wp2
  generalize ((w.alloc (Obj.cells #[.int .i64 i, .int .i64 fl, .int .i64 l, .string d] 33 (0, 0))).alloc (Obj.cells #[.int .i64 0, .int .i64 0, .int .i64 0, .int .i64 0, .int .i64 0, .string (⟨#[]⟩ : ByteArray), .int .i64 0] 35 (0, 0))) = W at BW BF BN HB ⊢
  have hc0 : W.cell? ⟨g, 0, none⟩ = some (.int .u32 s.id) := (blk_cell BW.out 0).trans rfl
  have hf0 : W.cell? ⟨w.heap.size, 0, none⟩ = some (.int .i64 i) := (blk_cell BF.out 0).trans rfl
  have hf1 : W.cell? ⟨w.heap.size, 1, none⟩ = some (.int .i64 fl) := (blk_cell BF.out 1).trans rfl
  have hf2 : W.cell? ⟨w.heap.size, 2, none⟩ = some (.int .i64 l) := (blk_cell BF.out 2).trans rfl
  have hf3 : W.cell? ⟨w.heap.size, 3, none⟩ = some (.string d) := (blk_cell BF.out 3).trans rfl
  have hn0 : W.cell? ⟨w.heap.size + 1, 0, none⟩ = some (.int .i64 0) := (blk_cell BN.out 0).trans rfl
  have hz0 : W.frozen? ⟨w.heap.size + 1, 0, none⟩ = false := blk_frozen BN.out 0
  have hn1 : W.cell? ⟨w.heap.size + 1, 1, none⟩ = some (.int .i64 0) := (blk_cell BN.out 1).trans rfl
  have hz1 : W.frozen? ⟨w.heap.size + 1, 1, none⟩ = false := blk_frozen BN.out 1
  have hn2 : W.cell? ⟨w.heap.size + 1, 2, none⟩ = some (.int .i64 0) := (blk_cell BN.out 2).trans rfl
  have hz2 : W.frozen? ⟨w.heap.size + 1, 2, none⟩ = false := blk_frozen BN.out 2
  have hn3 : W.cell? ⟨w.heap.size + 1, 3, none⟩ = some (.int .i64 0) := (blk_cell BN.out 3).trans rfl
  have hz3 : W.frozen? ⟨w.heap.size + 1, 3, none⟩ = false := blk_frozen BN.out 3
  have hn4 : W.cell? ⟨w.heap.size + 1, 4, none⟩ = some (.int .i64 0) := (blk_cell BN.out 4).trans rfl
  have hz4 : W.frozen? ⟨w.heap.size + 1, 4, none⟩ = false := blk_frozen BN.out 4
  have hn5 : W.cell? ⟨w.heap.size + 1, 5, none⟩ = some (.string (⟨#[]⟩ : ByteArray)) := (blk_cell BN.out 5).trans rfl
  have hz5 : W.frozen? ⟨w.heap.size + 1, 5, none⟩ = false := blk_frozen BN.out 5
  have hn6 : W.cell? ⟨w.heap.size + 1, 6, none⟩ = some (.int .i64 0) := (blk_cell BN.out 6).trans rfl
  have hz6 : W.frozen? ⟨w.heap.size + 1, 6, none⟩ = false := blk_frozen BN.out 6
  go_region
  all_goals
    go_wp2
    refine bodyPost_ret (results_cell_row rfl _ _ (w.heap.size + 1) 35 #[.int .i64 kd, .int .i64 (wrap64 s.id), .int .i64 i, .int .i64 fl, .int .i64 l, .string d, .int .i64 now] (0, 0) _ rfl (by (with_reducible repeat (first | refine blk_drewN ?_ _ | refine blk_drew ?_)); exact blk_put (blk_put (blk_put (blk_put (blk_put (blk_put (blk_put BN.out 0 _ rfl) 1 _ rfl) 2 _ rfl) 3 _ rfl) 4 _ rfl) 5 _ rfl) 6 _ rfl) hu5 rfl (by kernel_rfl)) rfl ?_
    exact ⟨rfl, below_drew1 (below_set (below_set (below_set (below_set (below_set (below_set (below_set HB.out (Nat.le_succ _)) (Nat.le_succ _)) (Nat.le_succ _)) (Nat.le_succ _)) (Nat.le_succ _)) (Nat.le_succ _)) (Nat.le_succ _))⟩

/-! ### watch_Watch_tell: function 30 -/
theorem cut_world {P : Program} {c : Code} {Q : Exit → Act → World → Prop} {a : Act} {W : World} (R : World → Prop) (h : R W) (k : ∀ W', R W' → c.wp P Q a W') : c.wp P Q a W := k W h
/-- A store into a note's block. -/
theorem WAt.note {W : World} {base g n : Nat} {s : WS} {cs : Array Value} (h : WAt W base g s) (hn : W.heap[n]? = some (.cells cs 35 (0, 0))) (j : Nat) (u : Value) : WAt (W.setCell ⟨n, j, none⟩ u) base g s := by
  obtain ⟨h0, pt, ph, h1, h2, h3⟩ := h
  have ne : ∀ (b : Nat) (ds : Array Value) (t : Nat), t ≠ 35 → W.heap[b]? = some (.cells ds t (0, 0)) → b ≠ n := by
    intro b ds t ht hb e
    rw [e, hn] at hb
    injection hb with hb
    injection hb with _ hb
    exact ht hb.symm
  have far : ∀ (v : Value) (o : Option (Int × Int × Int × ByteArray)), FrAt W base v o → FrAt (W.setCell ⟨n, j, none⟩ u) base v o := by
    intro v o hf
    cases o with
    | none => exact hf
    | some f =>
      obtain ⟨b, q1, q2, q3⟩ := hf
      exact ⟨b, q1, q2, blk_far q3 (ne b _ _ (by decide) q3) u⟩
  exact ⟨h0, pt, ph, blk_far h1 (ne g _ _ (by decide) h1) u, far _ _ h2, far _ _ h3⟩
theorem WAt.note7 {W : World} {base g n : Nat} {s : WS} {cs : Array Value} (h : WAt W base g s) (hn : W.heap[n]? = some (.cells cs 35 (0, 0))) (a0 a1 a2 a3 a4 a5 a6 : Value) :
    WAt (((((((W.setCell ⟨n, 0, none⟩ a0).setCell ⟨n, 1, none⟩ a1).setCell ⟨n, 2, none⟩ a2).setCell ⟨n, 3, none⟩ a3).setCell ⟨n, 4, none⟩ a4).setCell ⟨n, 5, none⟩ a5).setCell ⟨n, 6, none⟩ a6) base g s := by
  have b0 := blk_set hn 0 a0
  have b1 := blk_set b0 1 a1
  have b2 := blk_set b1 2 a2
  have b3 := blk_set b2 3 a3
  have b4 := blk_set b3 4 a4
  have b5 := blk_set b4 5 a5
  exact ((((((h.note hn 0 a0).note b0 1 a1).note b1 2 a2).note b2 3 a3).note b3 4 a4).note b4 5 a5).note b5 6 a6
theorem Wk.far7 {base g n : Nat} {W W' : World} (hb : base ≤ W.heap.size) (h : Wk base g W W') (hn : W.heap.size ≤ n) (a0 a1 a2 a3 a4 a5 a6 : Value) :
    Wk base g W (((((((W'.setCell ⟨n, 0, none⟩ a0).setCell ⟨n, 1, none⟩ a1).setCell ⟨n, 2, none⟩ a2).setCell ⟨n, 3, none⟩ a3).setCell ⟨n, 4, none⟩ a4).setCell ⟨n, 5, none⟩ a5).setCell ⟨n, 6, none⟩ a6) :=
  Wk.far hb (Wk.far hb (Wk.far hb (Wk.far hb (Wk.far hb (Wk.far hb (Wk.far hb h (p := ⟨n, 0, none⟩) hn a0) (p := ⟨n, 1, none⟩) hn a1) (p := ⟨n, 2, none⟩) hn a2) (p := ⟨n, 3, none⟩) hn a3) (p := ⟨n, 4, none⟩) hn a4) (p := ⟨n, 5, none⟩) hn a5) (p := ⟨n, 6, none⟩) hn a6
set_option maxRecDepth 1000000 in
set_option maxHeartbeats 16000000 in
theorem tell_ok (base g : Nat) (s : WS) (now i fl l : Int) (d : ByteArray) (w : World) (hb : base ≤ w.heap.size) (hW : WAt w base g s) :
    Calls Try.prog 30 #[.pointer (some ⟨g, 0, none⟩), .int .i64 now, .agg #[.int .i64 i, .int .i64 fl, .int .i64 l, .string d]] w fun e w' => e = .returned (.agg #[.int .i64 1, .int .i64 (wrap64 s.id), .int .i64 i, .int .i64 fl, .int .i64 l, .string d, .int .i64 now]) ∧ WAt w' base g { s with told := some (i, fl, l, d), at_ := now, held := none } ∧ Wk base g w w' := by
  have hu := Try.underlying33
  have hu2 := Try.underlying72
  have hu3 := Try.underlying31
  have hu4 := Try.underlying29
  have hu5 := Try.underlying35
  obtain ⟨hbg, pt, ph, h1, h2, h3⟩ := hW
  have hlt := blk_lt h1
  go_enter Try.func30, Try.ntmps30
  go_upto_region 1 with (fail)
  refine cut_world (fun W => W.heap[g]? = some (.cells (wsC s pt ph) 72 (0, 0)) ∧ W.heap[w.heap.size]? = some (Obj.cells #[.int .i64 i, .int .i64 fl, .int .i64 l, .string d] 33 (0, 0)) ∧ W.heap[w.heap.size + 1]? = some (Obj.cells #[.int .i64 0, .int .i64 0, .int .i64 0, .int .i64 0, .int .i64 0, .string (⟨#[]⟩ : ByteArray), .int .i64 0] 35 (0, 0)) ∧ Wk base g w W) ⟨blk_alloc (blk_alloc h1 _) _, blk_alloc (blk_new w _) _, blk2n_ w _ _, Wk.alloc hb (Wk.alloc hb (Wk.refl _ _ _) _) _⟩ ?_
  intro W hR
  obtain ⟨k1, k2, k3, k4⟩ := hR
  have hne : w.heap.size ≠ g := by omega
  have hne2 : w.heap.size + 1 ≠ g := by omega
  have hc6 : W.cell? ⟨g, 6, none⟩ = some pt := (blk_cell k1 6).trans rfl
  have hc7 : W.cell? ⟨g, 7, none⟩ = some (.int .i64 s.at_) := (blk_cell k1 7).trans rfl
  have hc8 : W.cell? ⟨g, 8, none⟩ = some ph := (blk_cell k1 8).trans rfl
  have hz6 : W.frozen? ⟨g, 6, none⟩ = false := blk_frozen k1 6
  have hz7 : W.frozen? ⟨g, 7, none⟩ = false := blk_frozen k1 7
  have hz8 : W.frozen? ⟨g, 8, none⟩ = false := blk_frozen k1 8
  go_upto_region 2 with (fail)
  refine cut_world (fun W => W.heap[g]? = some (.cells (wsC { s with told := some (i, fl, l, d), at_ := now, held := none } (.pointer (some ⟨w.heap.size, 0, none⟩)) (.pointer none)) 72 (0, 0)) ∧ W.heap[w.heap.size]? = some (Obj.cells #[.int .i64 i, .int .i64 fl, .int .i64 l, .string d] 33 (0, 0)) ∧ W.heap[w.heap.size + 1]? = some (Obj.cells #[.int .i64 0, .int .i64 0, .int .i64 0, .int .i64 0, .int .i64 0, .string (⟨#[]⟩ : ByteArray), .int .i64 0] 35 (0, 0)) ∧ Wk base g w W) ⟨blk_put (blk_put (blk_put k1 6 _ rfl) 7 _ rfl) 8 _ rfl, blk_far (blk_far (blk_far k2 hne _) hne _) hne _, blk_far (blk_far (blk_far k3 hne2 _) hne2 _) hne2 _, ((k4.set hbg 6 _).set hbg 7 _).set hbg 8 _⟩ ?_
  clear k1 k2 k3 k4 hc6 hc7 hc8 hz6 hz7 hz8
  intro W1 hR
  obtain ⟨k1, k2, k3, k4⟩ := hR
  have hf0 : W1.cell? ⟨w.heap.size, 0, none⟩ = some (.int .i64 i) := (blk_cell k2 0).trans rfl
  have hf1 : W1.cell? ⟨w.heap.size, 1, none⟩ = some (.int .i64 fl) := (blk_cell k2 1).trans rfl
  have hf2 : W1.cell? ⟨w.heap.size, 2, none⟩ = some (.int .i64 l) := (blk_cell k2 2).trans rfl
  have hf3 : W1.cell? ⟨w.heap.size, 3, none⟩ = some (.string d) := (blk_cell k2 3).trans rfl
  have hWA : WAt W1 base g { s with told := some (i, fl, l, d), at_ := now, held := none } := ⟨hbg, _, _, k1, ⟨_, rfl, hb, k2⟩, rfl⟩
  have HA := Aside0.mk hWA
  have HN := Aside0.mk k3
  have HK := Aside0.mk k4
  clear k1 k2 k3 k4 hWA h1 h2 h3
  go_wp2_with (go_at_call 31; (with_reducible refine (note_ok base g _ 1 now i fl l d _ HA.out).mono ?_); rintro e w2 ⟨rfl, hb2⟩; have n0_ := Aside0.mk (HA.out.call hb2); have n1_ := Aside0.mk (blk_below HN.out hb2); have n2_ := Aside0.mk (HK.out.call hb hb2); clear HA HN HK hb2; have HA := n0_; have HN := n1_; have HK := n2_; clear n0_ n1_ n2_; have hn0 : w2.cell? ⟨w.heap.size + 1, 0, none⟩ = some (.int .i64 0) := (blk_cell HN.out 0).trans rfl; have hz0 : w2.frozen? ⟨w.heap.size + 1, 0, none⟩ = false := blk_frozen HN.out 0; have hn1 : w2.cell? ⟨w.heap.size + 1, 1, none⟩ = some (.int .i64 0) := (blk_cell HN.out 1).trans rfl; have hz1 : w2.frozen? ⟨w.heap.size + 1, 1, none⟩ = false := blk_frozen HN.out 1; have hn2 : w2.cell? ⟨w.heap.size + 1, 2, none⟩ = some (.int .i64 0) := (blk_cell HN.out 2).trans rfl; have hz2 : w2.frozen? ⟨w.heap.size + 1, 2, none⟩ = false := blk_frozen HN.out 2; have hn3 : w2.cell? ⟨w.heap.size + 1, 3, none⟩ = some (.int .i64 0) := (blk_cell HN.out 3).trans rfl; have hz3 : w2.frozen? ⟨w.heap.size + 1, 3, none⟩ = false := blk_frozen HN.out 3; have hn4 : w2.cell? ⟨w.heap.size + 1, 4, none⟩ = some (.int .i64 0) := (blk_cell HN.out 4).trans rfl; have hz4 : w2.frozen? ⟨w.heap.size + 1, 4, none⟩ = false := blk_frozen HN.out 4; have hn5 : w2.cell? ⟨w.heap.size + 1, 5, none⟩ = some (.string (⟨#[]⟩ : ByteArray)) := (blk_cell HN.out 5).trans rfl; have hz5 : w2.frozen? ⟨w.heap.size + 1, 5, none⟩ = false := blk_frozen HN.out 5; have hn6 : w2.cell? ⟨w.heap.size + 1, 6, none⟩ = some (.int .i64 0) := (blk_cell HN.out 6).trans rfl; have hz6 : w2.frozen? ⟨w.heap.size + 1, 6, none⟩ = false := blk_frozen HN.out 6)
  refine bodyPost_ret (results_cell_row rfl _ _ (w.heap.size + 1) 35 #[.int .i64 1, .int .i64 (wrap64 s.id), .int .i64 i, .int .i64 fl, .int .i64 l, .string d, .int .i64 now] (0, 0) _ rfl (blk_put (blk_put (blk_put (blk_put (blk_put (blk_put (blk_put HN.out 0 _ rfl) 1 _ rfl) 2 _ rfl) 3 _ rfl) 4 _ rfl) 5 _ rfl) 6 _ rfl) hu5 rfl (by kernel_rfl)) rfl ?_
  exact ⟨rfl, HA.out.note7 HN.out _ _ _ _ _ _ _, Wk.far7 hb HK.out (Nat.le_succ _) _ _ _ _ _ _ _⟩

/-! ### watch_Watch_Hear: function 10 -/
theorem WAt.two {W : World} {base g : Nat} {s : WS} (h : WAt W base g s) (o1 o2 : Obj) : WAt ((W.alloc o1).alloc o2) base g s :=
  (h.call (below_alloc (Below.refl _ _) o1)).call (below_alloc (Below.refl _ _) o2)
set_option maxRecDepth 1000000 in
set_option maxHeartbeats 16000000 in
theorem hear_no (k base g : Nat) (s : WS) (now i fl l : Int) (d : ByteArray) (w : World) (hb : base ≤ w.heap.size) (hgw : g < w.heap.size) (hW : WAt w base g s) (hm : match_Match.f k s.id s.km s.inv i fl l d = some false) :
    Calls Try.prog 10 #[.pointer (some ⟨g, 0, none⟩), .int .i64 now, .agg #[.int .i64 i, .int .i64 fl, .int .i64 l, .string d]] w fun e w' => e = .returned (.tuple #[.agg #[.int .i64 0, .int .i64 0, .int .i64 0, .int .i64 0, .int .i64 0, .string (⟨#[]⟩ : ByteArray), .int .i64 0], .bool false]) ∧ WAt w' base g s ∧ Wk base g w w' := by
  have hu := Try.underlying33
  have hu2 := Try.underlying72
  have hu3 := Try.underlying31
  have hu4 := Try.underlying29
  have hu5 := Try.underlying35
  go_enter Try.func10, Try.ntmps10
  go_upto_region 1 with (fail)
  refine cut_world (fun W => WAt W base g s ∧ W.heap[w.heap.size]? = some (Obj.cells #[.int .i64 i, .int .i64 fl, .int .i64 l, .string d] 33 (0, 0)) ∧ W.heap[w.heap.size + 1]? = some (Obj.cells #[.int .i64 0, .int .i64 0, .int .i64 0, .int .i64 0, .int .i64 0, .string (⟨#[]⟩ : ByteArray), .int .i64 0] 35 (0, 0)) ∧ Wk base g w W) ⟨hW.two _ _, blk_alloc (blk_new w _) _, blk2n_ w _ _, Wk.alloc hb (Wk.alloc hb (Wk.refl _ _ _) _) _⟩ ?_
  intro W hR
  have HA := Aside0.mk hR.1
  have HF := Aside0.mk hR.2.1
  have HN := Aside0.mk hR.2.2.1
  have HK := Aside0.mk hR.2.2.2
  clear hR hW
  have hf0 : W.cell? ⟨w.heap.size, 0, none⟩ = some (.int .i64 i) := (blk_cell HF.out 0).trans rfl; have hf1 : W.cell? ⟨w.heap.size, 1, none⟩ = some (.int .i64 fl) := (blk_cell HF.out 1).trans rfl; have hf2 : W.cell? ⟨w.heap.size, 2, none⟩ = some (.int .i64 l) := (blk_cell HF.out 2).trans rfl; have hf3 : W.cell? ⟨w.heap.size, 3, none⟩ = some (.string d) := (blk_cell HF.out 3).trans rfl
  go_wp2_with (first | (go_at_call 15; (with_reducible refine (hears_ok k base g s i fl l d false _ HA.out hm).mono ?_); rintro e w2 ⟨rfl, hb2⟩; have n0_ := Aside0.mk (HA.out.call hb2); have n1_ := Aside0.mk (blk_below HF.out hb2); have n2_ := Aside0.mk (blk_below HN.out hb2); have n3_ := Aside0.mk (HK.out.call hb hb2); clear HA HF HN HK hb2; have HA := n0_; have HF := n1_; have HN := n2_; have HK := n3_; clear n0_ n1_ n2_ n3_; have hn0 : w2.cell? ⟨w.heap.size + 1, 0, none⟩ = some (.int .i64 0) := (blk_cell HN.out 0).trans rfl; have hz0 : w2.frozen? ⟨w.heap.size + 1, 0, none⟩ = false := blk_frozen HN.out 0; have hn1 : w2.cell? ⟨w.heap.size + 1, 1, none⟩ = some (.int .i64 0) := (blk_cell HN.out 1).trans rfl; have hz1 : w2.frozen? ⟨w.heap.size + 1, 1, none⟩ = false := blk_frozen HN.out 1; have hn2 : w2.cell? ⟨w.heap.size + 1, 2, none⟩ = some (.int .i64 0) := (blk_cell HN.out 2).trans rfl; have hz2 : w2.frozen? ⟨w.heap.size + 1, 2, none⟩ = false := blk_frozen HN.out 2; have hn3 : w2.cell? ⟨w.heap.size + 1, 3, none⟩ = some (.int .i64 0) := (blk_cell HN.out 3).trans rfl; have hz3 : w2.frozen? ⟨w.heap.size + 1, 3, none⟩ = false := blk_frozen HN.out 3; have hn4 : w2.cell? ⟨w.heap.size + 1, 4, none⟩ = some (.int .i64 0) := (blk_cell HN.out 4).trans rfl; have hz4 : w2.frozen? ⟨w.heap.size + 1, 4, none⟩ = false := blk_frozen HN.out 4; have hn5 : w2.cell? ⟨w.heap.size + 1, 5, none⟩ = some (.string (⟨#[]⟩ : ByteArray)) := (blk_cell HN.out 5).trans rfl; have hz5 : w2.frozen? ⟨w.heap.size + 1, 5, none⟩ = false := blk_frozen HN.out 5; have hn6 : w2.cell? ⟨w.heap.size + 1, 6, none⟩ = some (.int .i64 0) := (blk_cell HN.out 6).trans rfl; have hz6 : w2.frozen? ⟨w.heap.size + 1, 6, none⟩ = false := blk_frozen HN.out 6))
  refine bodyPost_ret (results_ct rfl _ _ (w.heap.size + 1) 35 #[.int .i64 0, .int .i64 0, .int .i64 0, .int .i64 0, .int .i64 0, .string (⟨#[]⟩ : ByteArray), .int .i64 0] (0, 0) _ rfl (blk_put (blk_put (blk_put (blk_put (blk_put (blk_put (blk_put HN.out 0 _ rfl) 1 _ rfl) 2 _ rfl) 3 _ rfl) 4 _ rfl) 5 _ rfl) 6 _ rfl) hu5 rfl (by kernel_rfl)) rfl ?_
  exact ⟨rfl, HA.out.note7 HN.out _ _ _ _ _ _ _, Wk.far7 hb HK.out (Nat.le_succ _) _ _ _ _ _ _ _⟩
set_option maxRecDepth 1000000 in
set_option maxHeartbeats 16000000 in
theorem hear_same (k base g : Nat) (s : WS) (now nw i fl l : Int) (d : ByteArray) (w : World) (hb : base ≤ w.heap.size) (hgw : g < w.heap.size) (hW : WAt w base g s) (hm : match_Match.f k s.id s.km s.inv i fl l d = some true) (hw : watch_within.f now = some nw) (hd : difS { s with heard := nw, quiet := false } l d = some false) :
    Calls Try.prog 10 #[.pointer (some ⟨g, 0, none⟩), .int .i64 now, .agg #[.int .i64 i, .int .i64 fl, .int .i64 l, .string d]] w fun e w' => e = .returned (.tuple #[.agg #[.int .i64 0, .int .i64 0, .int .i64 0, .int .i64 0, .int .i64 0, .string (⟨#[]⟩ : ByteArray), .int .i64 0], .bool false]) ∧ WAt w' base g { s with heard := nw, quiet := false, held := none } ∧ Wk base g w w' := by
  have hu := Try.underlying33
  have hu2 := Try.underlying72
  have hu3 := Try.underlying31
  have hu4 := Try.underlying29
  have hu5 := Try.underlying35
  go_enter Try.func10, Try.ntmps10
  go_upto_region 1 with (fail)
  refine cut_world (fun W => WAt W base g s ∧ W.heap[w.heap.size]? = some (Obj.cells #[.int .i64 i, .int .i64 fl, .int .i64 l, .string d] 33 (0, 0)) ∧ W.heap[w.heap.size + 1]? = some (Obj.cells #[.int .i64 0, .int .i64 0, .int .i64 0, .int .i64 0, .int .i64 0, .string (⟨#[]⟩ : ByteArray), .int .i64 0] 35 (0, 0)) ∧ Wk base g w W) ⟨hW.two _ _, blk_alloc (blk_new w _) _, blk2n_ w _ _, Wk.alloc hb (Wk.alloc hb (Wk.refl _ _ _) _) _⟩ ?_
  intro W hR
  have HA := Aside0.mk hR.1
  have HF := Aside0.mk hR.2.1
  have HN := Aside0.mk hR.2.2.1
  have HK := Aside0.mk hR.2.2.2
  clear hR hW
  have hf0 : W.cell? ⟨w.heap.size, 0, none⟩ = some (.int .i64 i) := (blk_cell HF.out 0).trans rfl; have hf1 : W.cell? ⟨w.heap.size, 1, none⟩ = some (.int .i64 fl) := (blk_cell HF.out 1).trans rfl; have hf2 : W.cell? ⟨w.heap.size, 2, none⟩ = some (.int .i64 l) := (blk_cell HF.out 2).trans rfl; have hf3 : W.cell? ⟨w.heap.size, 3, none⟩ = some (.string d) := (blk_cell HF.out 3).trans rfl
  go_upto_region 4 with (first | (go_at_call 15; (with_reducible refine (hears_ok k base g s i fl l d true _ HA.out hm).mono ?_); rintro e w2 ⟨rfl, hb2⟩; have n0_ := Aside0.mk (HA.out.call hb2); have n1_ := Aside0.mk (blk_below HF.out hb2); have n2_ := Aside0.mk (blk_below HN.out hb2); have n3_ := Aside0.mk (HK.out.call hb hb2); clear HA HF HN HK hb2; have HA := n0_; have HF := n1_; have HN := n2_; have HK := n3_; clear n0_ n1_ n2_ n3_) | (go_at_call 28; (with_reducible refine (watch_within.calls now nw _ hw).mono ?_); rintro e w3 ⟨rfl, hb2⟩; have n0_ := Aside0.mk (HA.out.call hb2); have n1_ := Aside0.mk (blk_below HF.out hb2); have n2_ := Aside0.mk (blk_below HN.out hb2); have n3_ := Aside0.mk (HK.out.call hb hb2); clear HA HF HN HK hb2; have HA := n0_; have HF := n1_; have HN := n2_; have HK := n3_; clear n0_ n1_ n2_ n3_))
  clear hf0 hf1 hf2 hf3
  refine cut_world (fun W => WAt W base g s ∧ W.heap[w.heap.size]? = some (Obj.cells #[.int .i64 i, .int .i64 fl, .int .i64 l, .string d] 33 (0, 0)) ∧ W.heap[w.heap.size + 1]? = some (Obj.cells #[.int .i64 0, .int .i64 0, .int .i64 0, .int .i64 0, .int .i64 0, .string (⟨#[]⟩ : ByteArray), .int .i64 0] 35 (0, 0)) ∧ Wk base g w W) ⟨HA.out, HF.out, HN.out, HK.out⟩ ?_
  clear HA HF HN HK
  intro W4 hR
  obtain ⟨⟨hbg, pt, ph, k1, k2, k3⟩, k4, k5, k6⟩ := hR
  have hlt := blk_lt k1
  have hgl : g < w.heap.size := hgw
  have hne : w.heap.size ≠ g := by omega
  have hne2 : w.heap.size + 1 ≠ g := by omega
  have hc9 : W4.cell? ⟨g, 9, none⟩ = some (.int .i64 s.heard) := (blk_cell k1 9).trans rfl
  have hc10 : W4.cell? ⟨g, 10, none⟩ = some (.bool s.quiet) := (blk_cell k1 10).trans rfl
  have hz9 : W4.frozen? ⟨g, 9, none⟩ = false := blk_frozen k1 9
  have hz10 : W4.frozen? ⟨g, 10, none⟩ = false := blk_frozen k1 10
  go_upto_region 6 with (fail)
  refine cut_world (fun W => WAt W base g { s with heard := nw, quiet := false } ∧ W.heap[w.heap.size]? = some (Obj.cells #[.int .i64 i, .int .i64 fl, .int .i64 l, .string d] 33 (0, 0)) ∧ W.heap[w.heap.size + 1]? = some (Obj.cells #[.int .i64 0, .int .i64 0, .int .i64 0, .int .i64 0, .int .i64 0, .string (⟨#[]⟩ : ByteArray), .int .i64 0] 35 (0, 0)) ∧ Wk base g w W) ⟨⟨hbg, pt, ph, blk_put (blk_put k1 9 _ rfl) 10 _ rfl, k2.keep k1 (((KeepBut.refl _ _ _).set_ 9 _).set_ 10 _), k3.keep k1 (((KeepBut.refl _ _ _).set_ 9 _).set_ 10 _)⟩, blk_far (blk_far k4 hne _) hne _, blk_far (blk_far k5 hne2 _) hne2 _, (k6.set hbg 9 _).set hbg 10 _⟩ ?_
  clear k1 k2 k3 k4 k5 k6 hc9 hc10 hz9 hz10 hlt pt ph
  intro W6 hR
  have HA := Aside0.mk hR.1
  have HF := Aside0.mk hR.2.1
  have HN := Aside0.mk hR.2.2.1
  have HK := Aside0.mk hR.2.2.2
  clear hR
  have hf0 : W6.cell? ⟨w.heap.size, 0, none⟩ = some (.int .i64 i) := (blk_cell HF.out 0).trans rfl; have hf1 : W6.cell? ⟨w.heap.size, 1, none⟩ = some (.int .i64 fl) := (blk_cell HF.out 1).trans rfl; have hf2 : W6.cell? ⟨w.heap.size, 2, none⟩ = some (.int .i64 l) := (blk_cell HF.out 2).trans rfl; have hf3 : W6.cell? ⟨w.heap.size, 3, none⟩ = some (.string d) := (blk_cell HF.out 3).trans rfl
  go_upto_region 7 with (first | (go_at_call 29; (with_reducible refine (dif_ok base g _ i fl l d false _ HA.out hd).mono ?_); rintro e w5 ⟨rfl, hb2⟩; have n0_ := Aside0.mk (HA.out.call hb2); have n1_ := Aside0.mk (blk_below HF.out hb2); have n2_ := Aside0.mk (blk_below HN.out hb2); have n3_ := Aside0.mk (HK.out.call hb hb2); clear HA HF HN HK hb2; have HA := n0_; have HF := n1_; have HN := n2_; have HK := n3_; clear n0_ n1_ n2_ n3_))
  clear hf0 hf1 hf2 hf3
  obtain ⟨hbg2, pt, ph, k1, k2, k3⟩ := HA.out
  have hc8 : w5.cell? ⟨g, 8, none⟩ = some ph := (blk_cell k1 8).trans rfl
  have hz8 : w5.frozen? ⟨g, 8, none⟩ = false := blk_frozen k1 8
  go_upto_region 10 with (fail)
  have n0_ := Aside0.mk (show WAt (w5.setCell ⟨g, 8, none⟩ (.pointer none)) base g { s with heard := nw, quiet := false, held := none } from ⟨hbg, pt, .pointer none, blk_put k1 8 _ rfl, k2.keep k1 ((KeepBut.refl _ _ _).set_ 8 _), rfl⟩)
  have n1_ := Aside0.mk (blk_far HN.out hne2 (.pointer none) (p := ⟨g, 8, none⟩))
  have n2_ := Aside0.mk (HK.out.set hbg 8 (.pointer none))
  clear HA HN HK HF k1 k2 k3 hc8 hz8
  generalize (w5.setCell ⟨g, 8, none⟩ (.pointer none)) = W8 at n0_ n1_ n2_ ⊢
  have HA := n0_
  have HN := n1_
  have HK := n2_
  clear n0_ n1_ n2_
  have hn0 : W8.cell? ⟨w.heap.size + 1, 0, none⟩ = some (.int .i64 0) := (blk_cell HN.out 0).trans rfl; have hz0 : W8.frozen? ⟨w.heap.size + 1, 0, none⟩ = false := blk_frozen HN.out 0; have hn1 : W8.cell? ⟨w.heap.size + 1, 1, none⟩ = some (.int .i64 0) := (blk_cell HN.out 1).trans rfl; have hz1 : W8.frozen? ⟨w.heap.size + 1, 1, none⟩ = false := blk_frozen HN.out 1; have hn2 : W8.cell? ⟨w.heap.size + 1, 2, none⟩ = some (.int .i64 0) := (blk_cell HN.out 2).trans rfl; have hz2 : W8.frozen? ⟨w.heap.size + 1, 2, none⟩ = false := blk_frozen HN.out 2; have hn3 : W8.cell? ⟨w.heap.size + 1, 3, none⟩ = some (.int .i64 0) := (blk_cell HN.out 3).trans rfl; have hz3 : W8.frozen? ⟨w.heap.size + 1, 3, none⟩ = false := blk_frozen HN.out 3; have hn4 : W8.cell? ⟨w.heap.size + 1, 4, none⟩ = some (.int .i64 0) := (blk_cell HN.out 4).trans rfl; have hz4 : W8.frozen? ⟨w.heap.size + 1, 4, none⟩ = false := blk_frozen HN.out 4; have hn5 : W8.cell? ⟨w.heap.size + 1, 5, none⟩ = some (.string (⟨#[]⟩ : ByteArray)) := (blk_cell HN.out 5).trans rfl; have hz5 : W8.frozen? ⟨w.heap.size + 1, 5, none⟩ = false := blk_frozen HN.out 5; have hn6 : W8.cell? ⟨w.heap.size + 1, 6, none⟩ = some (.int .i64 0) := (blk_cell HN.out 6).trans rfl; have hz6 : W8.frozen? ⟨w.heap.size + 1, 6, none⟩ = false := blk_frozen HN.out 6
  go_wp2
  refine bodyPost_ret (results_ct rfl _ _ (w.heap.size + 1) 35 #[.int .i64 0, .int .i64 0, .int .i64 0, .int .i64 0, .int .i64 0, .string (⟨#[]⟩ : ByteArray), .int .i64 0] (0, 0) _ rfl (blk_put (blk_put (blk_put (blk_put (blk_put (blk_put (blk_put HN.out 0 _ rfl) 1 _ rfl) 2 _ rfl) 3 _ rfl) 4 _ rfl) 5 _ rfl) 6 _ rfl) hu5 rfl (by kernel_rfl)) rfl ?_
  exact ⟨rfl, HA.out.note7 HN.out _ _ _ _ _ _ _, Wk.far7 hb HK.out (Nat.le_succ _) _ _ _ _ _ _ _⟩
set_option maxRecDepth 1000000 in
set_option maxHeartbeats 16000000 in
theorem hear_hold (k base g : Nat) (s : WS) (now nw i fl l : Int) (d : ByteArray) (w : World) (hb : base ≤ w.heap.size) (hgw : g < w.heap.size) (hW : WAt w base g s) (hm : match_Match.f k s.id s.km s.inv i fl l d = some true) (hw : watch_within.f now = some nw) (hd : difS { s with heard := nw, quiet := false } l d = some true) (f0 : Int × Int × Int × ByteArray) (ht : s.told = some f0) (hl : wrap64 (nw - s.at_) < s.thr) :
    Calls Try.prog 10 #[.pointer (some ⟨g, 0, none⟩), .int .i64 now, .agg #[.int .i64 i, .int .i64 fl, .int .i64 l, .string d]] w fun e w' => e = .returned (.tuple #[.agg #[.int .i64 0, .int .i64 0, .int .i64 0, .int .i64 0, .int .i64 0, .string (⟨#[]⟩ : ByteArray), .int .i64 0], .bool false]) ∧ WAt w' base g { s with heard := nw, quiet := false, held := some (i, fl, l, d) } ∧ Wk base g w w' := by
  have hu := Try.underlying33
  have hu2 := Try.underlying72
  have hu3 := Try.underlying31
  have hu4 := Try.underlying29
  have hu5 := Try.underlying35
  go_enter Try.func10, Try.ntmps10
  go_upto_region 1 with (fail)
  refine cut_world (fun W => WAt W base g s ∧ W.heap[w.heap.size]? = some (Obj.cells #[.int .i64 i, .int .i64 fl, .int .i64 l, .string d] 33 (0, 0)) ∧ W.heap[w.heap.size + 1]? = some (Obj.cells #[.int .i64 0, .int .i64 0, .int .i64 0, .int .i64 0, .int .i64 0, .string (⟨#[]⟩ : ByteArray), .int .i64 0] 35 (0, 0)) ∧ Wk base g w W) ⟨hW.two _ _, blk_alloc (blk_new w _) _, blk2n_ w _ _, Wk.alloc hb (Wk.alloc hb (Wk.refl _ _ _) _) _⟩ ?_
  intro W hR
  have HA := Aside0.mk hR.1
  have HF := Aside0.mk hR.2.1
  have HN := Aside0.mk hR.2.2.1
  have HK := Aside0.mk hR.2.2.2
  clear hR hW
  have hf0 : W.cell? ⟨w.heap.size, 0, none⟩ = some (.int .i64 i) := (blk_cell HF.out 0).trans rfl; have hf1 : W.cell? ⟨w.heap.size, 1, none⟩ = some (.int .i64 fl) := (blk_cell HF.out 1).trans rfl; have hf2 : W.cell? ⟨w.heap.size, 2, none⟩ = some (.int .i64 l) := (blk_cell HF.out 2).trans rfl; have hf3 : W.cell? ⟨w.heap.size, 3, none⟩ = some (.string d) := (blk_cell HF.out 3).trans rfl
  go_upto_region 4 with (first | (go_at_call 15; (with_reducible refine (hears_ok k base g s i fl l d true _ HA.out hm).mono ?_); rintro e w2 ⟨rfl, hb2⟩; have n0_ := Aside0.mk (HA.out.call hb2); have n1_ := Aside0.mk (blk_below HF.out hb2); have n2_ := Aside0.mk (blk_below HN.out hb2); have n3_ := Aside0.mk (HK.out.call hb hb2); clear HA HF HN HK hb2; have HA := n0_; have HF := n1_; have HN := n2_; have HK := n3_; clear n0_ n1_ n2_ n3_) | (go_at_call 28; (with_reducible refine (watch_within.calls now nw _ hw).mono ?_); rintro e w3 ⟨rfl, hb2⟩; have n0_ := Aside0.mk (HA.out.call hb2); have n1_ := Aside0.mk (blk_below HF.out hb2); have n2_ := Aside0.mk (blk_below HN.out hb2); have n3_ := Aside0.mk (HK.out.call hb hb2); clear HA HF HN HK hb2; have HA := n0_; have HF := n1_; have HN := n2_; have HK := n3_; clear n0_ n1_ n2_ n3_))
  clear hf0 hf1 hf2 hf3
  refine cut_world (fun W => WAt W base g s ∧ W.heap[w.heap.size]? = some (Obj.cells #[.int .i64 i, .int .i64 fl, .int .i64 l, .string d] 33 (0, 0)) ∧ W.heap[w.heap.size + 1]? = some (Obj.cells #[.int .i64 0, .int .i64 0, .int .i64 0, .int .i64 0, .int .i64 0, .string (⟨#[]⟩ : ByteArray), .int .i64 0] 35 (0, 0)) ∧ Wk base g w W) ⟨HA.out, HF.out, HN.out, HK.out⟩ ?_
  clear HA HF HN HK
  intro W4 hR
  obtain ⟨⟨hbg, pt, ph, k1, k2, k3⟩, k4, k5, k6⟩ := hR
  have hlt := blk_lt k1
  have hgl : g < w.heap.size := hgw
  have hne : w.heap.size ≠ g := by omega
  have hne2 : w.heap.size + 1 ≠ g := by omega
  have hc9 : W4.cell? ⟨g, 9, none⟩ = some (.int .i64 s.heard) := (blk_cell k1 9).trans rfl
  have hc10 : W4.cell? ⟨g, 10, none⟩ = some (.bool s.quiet) := (blk_cell k1 10).trans rfl
  have hz9 : W4.frozen? ⟨g, 9, none⟩ = false := blk_frozen k1 9
  have hz10 : W4.frozen? ⟨g, 10, none⟩ = false := blk_frozen k1 10
  go_upto_region 6 with (fail)
  refine cut_world (fun W => WAt W base g { s with heard := nw, quiet := false } ∧ W.heap[w.heap.size]? = some (Obj.cells #[.int .i64 i, .int .i64 fl, .int .i64 l, .string d] 33 (0, 0)) ∧ W.heap[w.heap.size + 1]? = some (Obj.cells #[.int .i64 0, .int .i64 0, .int .i64 0, .int .i64 0, .int .i64 0, .string (⟨#[]⟩ : ByteArray), .int .i64 0] 35 (0, 0)) ∧ Wk base g w W) ⟨⟨hbg, pt, ph, blk_put (blk_put k1 9 _ rfl) 10 _ rfl, k2.keep k1 (((KeepBut.refl _ _ _).set_ 9 _).set_ 10 _), k3.keep k1 (((KeepBut.refl _ _ _).set_ 9 _).set_ 10 _)⟩, blk_far (blk_far k4 hne _) hne _, blk_far (blk_far k5 hne2 _) hne2 _, (k6.set hbg 9 _).set hbg 10 _⟩ ?_
  clear k1 k2 k3 k4 k5 k6 hc9 hc10 hz9 hz10 hlt pt ph
  intro W6 hR
  have HA := Aside0.mk hR.1
  have HF := Aside0.mk hR.2.1
  have HN := Aside0.mk hR.2.2.1
  have HK := Aside0.mk hR.2.2.2
  clear hR
  have hf0 : W6.cell? ⟨w.heap.size, 0, none⟩ = some (.int .i64 i) := (blk_cell HF.out 0).trans rfl; have hf1 : W6.cell? ⟨w.heap.size, 1, none⟩ = some (.int .i64 fl) := (blk_cell HF.out 1).trans rfl; have hf2 : W6.cell? ⟨w.heap.size, 2, none⟩ = some (.int .i64 l) := (blk_cell HF.out 2).trans rfl; have hf3 : W6.cell? ⟨w.heap.size, 3, none⟩ = some (.string d) := (blk_cell HF.out 3).trans rfl
  go_wp2_with (first | (go_at_call 29; (with_reducible refine (dif_ok base g _ i fl l d true _ HA.out hd).mono ?_); rintro e w5 ⟨rfl, hb2⟩; have n0_ := Aside0.mk (HA.out.call hb2); have n1_ := Aside0.mk (blk_below HF.out hb2); have n2_ := Aside0.mk (blk_below HN.out hb2); have n3_ := Aside0.mk (HK.out.call hb hb2); clear HA HF HN HK hb2; have HA := n0_; have HF := n1_; have HN := n2_; have HK := n3_; clear n0_ n1_ n2_ n3_))
  clear hf0 hf1 hf2 hf3
  obtain ⟨hbg2, pt, ph, k1, k2, k3⟩ := HA.out
  have k2' : FrAt w5 base pt (some f0) := ht ▸ k2
  obtain ⟨b, rfl, q2, q3⟩ := k2'
  have hc6 : w5.cell? ⟨g, 6, none⟩ = some (.pointer (some ⟨b, 0, none⟩)) := (blk_cell k1 6).trans rfl
  have hc7 : w5.cell? ⟨g, 7, none⟩ = some (.int .i64 s.at_) := (blk_cell k1 7).trans rfl
  have hc4 : w5.cell? ⟨g, 4, none⟩ = some (.int .i64 s.thr) := (blk_cell k1 4).trans rfl
  have hc8 : w5.cell? ⟨g, 8, none⟩ = some ph := (blk_cell k1 8).trans rfl
  have hz8 : w5.frozen? ⟨g, 8, none⟩ = false := blk_frozen k1 8
  have hlb : decide (wrap64 (nw - s.at_) < s.thr) = true := decide_eq_true hl
  go_quiet (fail)
  go_upto_region 10 with (fail)
  have n0_ := Aside0.mk (show WAt ((w5.drewN nq).setCell ⟨g, 8, none⟩ (.pointer (some ⟨w.heap.size, 0, none⟩))) base g { s with heard := nw, quiet := false, held := some (i, fl, l, d) } from ⟨hbg, _, .pointer (some ⟨w.heap.size, 0, none⟩), blk_put (blk_drewN k1 nq) 8 _ rfl, k2.keep k1 (keep_drewN ((KeepBut.refl _ _ _)) nq |>.set_ 8 _), ⟨_, rfl, hb, blk_far (blk_drewN HF.out nq) hne _⟩⟩)
  have n1_ := Aside0.mk (blk_far (blk_drewN HN.out nq) hne2 (.pointer (some ⟨w.heap.size, 0, none⟩)) (p := ⟨g, 8, none⟩))
  have n2_ := Aside0.mk ((Wk.drewN HK.out nq).set hbg 8 (.pointer (some ⟨w.heap.size, 0, none⟩)))
  clear HA HN HK HF k1 k2 k3 hc8 hz8 hc6 hc7 hc4
  generalize ((w5.drewN nq).setCell ⟨g, 8, none⟩ (.pointer (some ⟨w.heap.size, 0, none⟩))) = W8 at n0_ n1_ n2_ ⊢
  have HA := n0_
  have HN := n1_
  have HK := n2_
  clear n0_ n1_ n2_
  have hn0 : W8.cell? ⟨w.heap.size + 1, 0, none⟩ = some (.int .i64 0) := (blk_cell HN.out 0).trans rfl; have hz0 : W8.frozen? ⟨w.heap.size + 1, 0, none⟩ = false := blk_frozen HN.out 0; have hn1 : W8.cell? ⟨w.heap.size + 1, 1, none⟩ = some (.int .i64 0) := (blk_cell HN.out 1).trans rfl; have hz1 : W8.frozen? ⟨w.heap.size + 1, 1, none⟩ = false := blk_frozen HN.out 1; have hn2 : W8.cell? ⟨w.heap.size + 1, 2, none⟩ = some (.int .i64 0) := (blk_cell HN.out 2).trans rfl; have hz2 : W8.frozen? ⟨w.heap.size + 1, 2, none⟩ = false := blk_frozen HN.out 2; have hn3 : W8.cell? ⟨w.heap.size + 1, 3, none⟩ = some (.int .i64 0) := (blk_cell HN.out 3).trans rfl; have hz3 : W8.frozen? ⟨w.heap.size + 1, 3, none⟩ = false := blk_frozen HN.out 3; have hn4 : W8.cell? ⟨w.heap.size + 1, 4, none⟩ = some (.int .i64 0) := (blk_cell HN.out 4).trans rfl; have hz4 : W8.frozen? ⟨w.heap.size + 1, 4, none⟩ = false := blk_frozen HN.out 4; have hn5 : W8.cell? ⟨w.heap.size + 1, 5, none⟩ = some (.string (⟨#[]⟩ : ByteArray)) := (blk_cell HN.out 5).trans rfl; have hz5 : W8.frozen? ⟨w.heap.size + 1, 5, none⟩ = false := blk_frozen HN.out 5; have hn6 : W8.cell? ⟨w.heap.size + 1, 6, none⟩ = some (.int .i64 0) := (blk_cell HN.out 6).trans rfl; have hz6 : W8.frozen? ⟨w.heap.size + 1, 6, none⟩ = false := blk_frozen HN.out 6
  go_wp2
  refine bodyPost_ret (results_ct rfl _ _ (w.heap.size + 1) 35 #[.int .i64 0, .int .i64 0, .int .i64 0, .int .i64 0, .int .i64 0, .string (⟨#[]⟩ : ByteArray), .int .i64 0] (0, 0) _ rfl (blk_put (blk_put (blk_put (blk_put (blk_put (blk_put (blk_put HN.out 0 _ rfl) 1 _ rfl) 2 _ rfl) 3 _ rfl) 4 _ rfl) 5 _ rfl) 6 _ rfl) hu5 rfl (by kernel_rfl)) rfl ?_
  exact ⟨rfl, HA.out.note7 HN.out _ _ _ _ _ _ _, Wk.far7 hb HK.out (Nat.le_succ _) _ _ _ _ _ _ _⟩
set_option maxRecDepth 1000000 in
set_option maxHeartbeats 16000000 in
theorem hear_tell (k base g : Nat) (s : WS) (now nw i fl l : Int) (d : ByteArray) (w : World) (hb : base ≤ w.heap.size) (hgw : g < w.heap.size) (hW : WAt w base g s) (hm : match_Match.f k s.id s.km s.inv i fl l d = some true) (hw : watch_within.f now = some nw) (hd : difS { s with heard := nw, quiet := false } l d = some true) (hl : ∀ f0, s.told = some f0 → ¬ wrap64 (nw - s.at_) < s.thr) :
    Calls Try.prog 10 #[.pointer (some ⟨g, 0, none⟩), .int .i64 now, .agg #[.int .i64 i, .int .i64 fl, .int .i64 l, .string d]] w fun e w' => e = .returned (.tuple #[.agg #[.int .i64 1, .int .i64 (wrap64 s.id), .int .i64 i, .int .i64 fl, .int .i64 l, .string d, .int .i64 nw], .bool true]) ∧ WAt w' base g { s with heard := nw, quiet := false, told := some (i, fl, l, d), at_ := nw, held := none } ∧ Wk base g w w' := by
  have hu := Try.underlying33
  have hu2 := Try.underlying72
  have hu3 := Try.underlying31
  have hu4 := Try.underlying29
  have hu5 := Try.underlying35
  go_enter Try.func10, Try.ntmps10
  go_upto_region 1 with (fail)
  refine cut_world (fun W => WAt W base g s ∧ W.heap[w.heap.size]? = some (Obj.cells #[.int .i64 i, .int .i64 fl, .int .i64 l, .string d] 33 (0, 0)) ∧ W.heap[w.heap.size + 1]? = some (Obj.cells #[.int .i64 0, .int .i64 0, .int .i64 0, .int .i64 0, .int .i64 0, .string (⟨#[]⟩ : ByteArray), .int .i64 0] 35 (0, 0)) ∧ Wk base g w W) ⟨hW.two _ _, blk_alloc (blk_new w _) _, blk2n_ w _ _, Wk.alloc hb (Wk.alloc hb (Wk.refl _ _ _) _) _⟩ ?_
  intro W hR
  have HA := Aside0.mk hR.1
  have HF := Aside0.mk hR.2.1
  have HN := Aside0.mk hR.2.2.1
  have HK := Aside0.mk hR.2.2.2
  clear hR hW
  have hf0 : W.cell? ⟨w.heap.size, 0, none⟩ = some (.int .i64 i) := (blk_cell HF.out 0).trans rfl; have hf1 : W.cell? ⟨w.heap.size, 1, none⟩ = some (.int .i64 fl) := (blk_cell HF.out 1).trans rfl; have hf2 : W.cell? ⟨w.heap.size, 2, none⟩ = some (.int .i64 l) := (blk_cell HF.out 2).trans rfl; have hf3 : W.cell? ⟨w.heap.size, 3, none⟩ = some (.string d) := (blk_cell HF.out 3).trans rfl
  go_upto_region 4 with (first | (go_at_call 15; (with_reducible refine (hears_ok k base g s i fl l d true _ HA.out hm).mono ?_); rintro e w2 ⟨rfl, hb2⟩; have n0_ := Aside0.mk (HA.out.call hb2); have n1_ := Aside0.mk (blk_below HF.out hb2); have n2_ := Aside0.mk (blk_below HN.out hb2); have n3_ := Aside0.mk (HK.out.call hb hb2); clear HA HF HN HK hb2; have HA := n0_; have HF := n1_; have HN := n2_; have HK := n3_; clear n0_ n1_ n2_ n3_) | (go_at_call 28; (with_reducible refine (watch_within.calls now nw _ hw).mono ?_); rintro e w3 ⟨rfl, hb2⟩; have n0_ := Aside0.mk (HA.out.call hb2); have n1_ := Aside0.mk (blk_below HF.out hb2); have n2_ := Aside0.mk (blk_below HN.out hb2); have n3_ := Aside0.mk (HK.out.call hb hb2); clear HA HF HN HK hb2; have HA := n0_; have HF := n1_; have HN := n2_; have HK := n3_; clear n0_ n1_ n2_ n3_))
  clear hf0 hf1 hf2 hf3
  refine cut_world (fun W => WAt W base g s ∧ W.heap[w.heap.size]? = some (Obj.cells #[.int .i64 i, .int .i64 fl, .int .i64 l, .string d] 33 (0, 0)) ∧ W.heap[w.heap.size + 1]? = some (Obj.cells #[.int .i64 0, .int .i64 0, .int .i64 0, .int .i64 0, .int .i64 0, .string (⟨#[]⟩ : ByteArray), .int .i64 0] 35 (0, 0)) ∧ Wk base g w W) ⟨HA.out, HF.out, HN.out, HK.out⟩ ?_
  clear HA HF HN HK
  intro W4 hR
  obtain ⟨⟨hbg, pt, ph, k1, k2, k3⟩, k4, k5, k6⟩ := hR
  have hlt := blk_lt k1
  have hgl : g < w.heap.size := hgw
  have hne : w.heap.size ≠ g := by omega
  have hne2 : w.heap.size + 1 ≠ g := by omega
  have hc9 : W4.cell? ⟨g, 9, none⟩ = some (.int .i64 s.heard) := (blk_cell k1 9).trans rfl
  have hc10 : W4.cell? ⟨g, 10, none⟩ = some (.bool s.quiet) := (blk_cell k1 10).trans rfl
  have hz9 : W4.frozen? ⟨g, 9, none⟩ = false := blk_frozen k1 9
  have hz10 : W4.frozen? ⟨g, 10, none⟩ = false := blk_frozen k1 10
  go_upto_region 6 with (fail)
  refine cut_world (fun W => WAt W base g { s with heard := nw, quiet := false } ∧ W.heap[w.heap.size]? = some (Obj.cells #[.int .i64 i, .int .i64 fl, .int .i64 l, .string d] 33 (0, 0)) ∧ W.heap[w.heap.size + 1]? = some (Obj.cells #[.int .i64 0, .int .i64 0, .int .i64 0, .int .i64 0, .int .i64 0, .string (⟨#[]⟩ : ByteArray), .int .i64 0] 35 (0, 0)) ∧ Wk base g w W) ⟨⟨hbg, pt, ph, blk_put (blk_put k1 9 _ rfl) 10 _ rfl, k2.keep k1 (((KeepBut.refl _ _ _).set_ 9 _).set_ 10 _), k3.keep k1 (((KeepBut.refl _ _ _).set_ 9 _).set_ 10 _)⟩, blk_far (blk_far k4 hne _) hne _, blk_far (blk_far k5 hne2 _) hne2 _, (k6.set hbg 9 _).set hbg 10 _⟩ ?_
  clear k1 k2 k3 k4 k5 k6 hc9 hc10 hz9 hz10 hlt pt ph
  intro W6 hR
  have HA := Aside0.mk hR.1
  have HF := Aside0.mk hR.2.1
  have HN := Aside0.mk hR.2.2.1
  have HK := Aside0.mk hR.2.2.2
  clear hR
  have hf0 : W6.cell? ⟨w.heap.size, 0, none⟩ = some (.int .i64 i) := (blk_cell HF.out 0).trans rfl; have hf1 : W6.cell? ⟨w.heap.size, 1, none⟩ = some (.int .i64 fl) := (blk_cell HF.out 1).trans rfl; have hf2 : W6.cell? ⟨w.heap.size, 2, none⟩ = some (.int .i64 l) := (blk_cell HF.out 2).trans rfl; have hf3 : W6.cell? ⟨w.heap.size, 3, none⟩ = some (.string d) := (blk_cell HF.out 3).trans rfl
  go_wp2_with (first | (go_at_call 29; (with_reducible refine (dif_ok base g _ i fl l d true _ HA.out hd).mono ?_); rintro e w5 ⟨rfl, hb2⟩; have n0_ := Aside0.mk (HA.out.call hb2); have n1_ := Aside0.mk (blk_below HF.out hb2); have n2_ := Aside0.mk (blk_below HN.out hb2); have n3_ := Aside0.mk (HK.out.call hb hb2); clear HA HF HN HK hb2; have HA := n0_; have HF := n1_; have HN := n2_; have HK := n3_; clear n0_ n1_ n2_ n3_))
  clear hf0 hf1 hf2 hf3
  obtain ⟨hbg2, pt, ph, k1, k2, k3⟩ := HA.out
  have HL := Aside0.mk hl
  clear hl
  have hsz5 : w.heap.size ≤ w5.heap.size := HK.out.keep.1
  cases ht : s.told with
  | none =>
    have k2' : FrAt w5 base pt none := ht ▸ k2
    obtain rfl : pt = .pointer none := k2'
    have hc6 : w5.cell? ⟨g, 6, none⟩ = some (.pointer none) := (blk_cell k1 6).trans rfl
    have hc7 : w5.cell? ⟨g, 7, none⟩ = some (.int .i64 s.at_) := (blk_cell k1 7).trans rfl
    have hc4 : w5.cell? ⟨g, 4, none⟩ = some (.int .i64 s.thr) := (blk_cell k1 4).trans rfl
    have hc8 : w5.cell? ⟨g, 8, none⟩ = some ph := (blk_cell k1 8).trans rfl
    have hz8 : w5.frozen? ⟨g, 8, none⟩ = false := blk_frozen k1 8
    have hf0 : w5.cell? ⟨w.heap.size, 0, none⟩ = some (.int .i64 i) := (blk_cell HF.out 0).trans rfl
    have hf1 : w5.cell? ⟨w.heap.size, 1, none⟩ = some (.int .i64 fl) := (blk_cell HF.out 1).trans rfl
    have hf2 : w5.cell? ⟨w.heap.size, 2, none⟩ = some (.int .i64 l) := (blk_cell HF.out 2).trans rfl
    have hf3 : w5.cell? ⟨w.heap.size, 3, none⟩ = some (.string d) := (blk_cell HF.out 3).trans rfl
    go_quiet (fail)
    have HA6 := Aside0.mk (show WAt (w5.drewN nq) base g { s with heard := nw, quiet := false } from HA.out)
    have hsz6 : base ≤ (w5.drewN nq).heap.size := Nat.le_trans hb hsz5
    go_wp2_with (first | (go_at_call 30; (with_reducible refine (tell_ok base g _ nw i fl l d _ hsz6 HA6.out).mono ?_); rintro e w6 ⟨rfl, hA, hK⟩; have n0_ := Aside0.mk hA; have n1_ := Aside0.mk (hK.keep.blk HN.out hne2 (fun e => by cases e)); have n2_ := Aside0.mk ((Wk.drewN HK.out _).trans hK); clear HA HF HN HK hA hK; have HA := n0_; have HN := n1_; have HK := n2_; clear n0_ n1_ n2_; have hn0 : w6.cell? ⟨w.heap.size + 1, 0, none⟩ = some (.int .i64 0) := (blk_cell HN.out 0).trans rfl; have hz0 : w6.frozen? ⟨w.heap.size + 1, 0, none⟩ = false := blk_frozen HN.out 0; have hn1 : w6.cell? ⟨w.heap.size + 1, 1, none⟩ = some (.int .i64 0) := (blk_cell HN.out 1).trans rfl; have hz1 : w6.frozen? ⟨w.heap.size + 1, 1, none⟩ = false := blk_frozen HN.out 1; have hn2 : w6.cell? ⟨w.heap.size + 1, 2, none⟩ = some (.int .i64 0) := (blk_cell HN.out 2).trans rfl; have hz2 : w6.frozen? ⟨w.heap.size + 1, 2, none⟩ = false := blk_frozen HN.out 2; have hn3 : w6.cell? ⟨w.heap.size + 1, 3, none⟩ = some (.int .i64 0) := (blk_cell HN.out 3).trans rfl; have hz3 : w6.frozen? ⟨w.heap.size + 1, 3, none⟩ = false := blk_frozen HN.out 3; have hn4 : w6.cell? ⟨w.heap.size + 1, 4, none⟩ = some (.int .i64 0) := (blk_cell HN.out 4).trans rfl; have hz4 : w6.frozen? ⟨w.heap.size + 1, 4, none⟩ = false := blk_frozen HN.out 4; have hn5 : w6.cell? ⟨w.heap.size + 1, 5, none⟩ = some (.string (⟨#[]⟩ : ByteArray)) := (blk_cell HN.out 5).trans rfl; have hz5 : w6.frozen? ⟨w.heap.size + 1, 5, none⟩ = false := blk_frozen HN.out 5; have hn6 : w6.cell? ⟨w.heap.size + 1, 6, none⟩ = some (.int .i64 0) := (blk_cell HN.out 6).trans rfl; have hz6 : w6.frozen? ⟨w.heap.size + 1, 6, none⟩ = false := blk_frozen HN.out 6))
    refine bodyPost_ret (results_ct rfl _ _ (w.heap.size + 1) 35 #[.int .i64 1, .int .i64 (wrap64 s.id), .int .i64 i, .int .i64 fl, .int .i64 l, .string d, .int .i64 nw] (0, 0) _ rfl (blk_put (blk_put (blk_put (blk_put (blk_put (blk_put (blk_put HN.out 0 _ rfl) 1 _ rfl) 2 _ rfl) 3 _ rfl) 4 _ rfl) 5 _ rfl) 6 _ rfl) hu5 rfl (by kernel_rfl)) rfl ?_
    exact ⟨rfl, HA.out.note7 HN.out _ _ _ _ _ _ _, Wk.far7 hb HK.out (Nat.le_succ _) _ _ _ _ _ _ _⟩
  | some f0 =>
    have k2' : FrAt w5 base pt (some f0) := ht ▸ k2
    obtain ⟨b, rfl, q2, q3⟩ := k2'
    have hc6 : w5.cell? ⟨g, 6, none⟩ = some (.pointer (some ⟨b, 0, none⟩)) := (blk_cell k1 6).trans rfl
    have hc7 : w5.cell? ⟨g, 7, none⟩ = some (.int .i64 s.at_) := (blk_cell k1 7).trans rfl
    have hc4 : w5.cell? ⟨g, 4, none⟩ = some (.int .i64 s.thr) := (blk_cell k1 4).trans rfl
    have hc8 : w5.cell? ⟨g, 8, none⟩ = some ph := (blk_cell k1 8).trans rfl
    have hz8 : w5.frozen? ⟨g, 8, none⟩ = false := blk_frozen k1 8
    have hf0 : w5.cell? ⟨w.heap.size, 0, none⟩ = some (.int .i64 i) := (blk_cell HF.out 0).trans rfl
    have hf1 : w5.cell? ⟨w.heap.size, 1, none⟩ = some (.int .i64 fl) := (blk_cell HF.out 1).trans rfl
    have hf2 : w5.cell? ⟨w.heap.size, 2, none⟩ = some (.int .i64 l) := (blk_cell HF.out 2).trans rfl
    have hf3 : w5.cell? ⟨w.heap.size, 3, none⟩ = some (.string d) := (blk_cell HF.out 3).trans rfl
    have hlb : decide (wrap64 (nw - s.at_) < s.thr) = false := decide_eq_false (fun q => absurd (HL.out f0 ht) (by omega))
    go_quiet (fail)
    have HA6 := Aside0.mk (show WAt (w5.drewN nq) base g { s with heard := nw, quiet := false } from HA.out)
    have hsz6 : base ≤ (w5.drewN nq).heap.size := Nat.le_trans hb hsz5
    go_wp2_with (first | (go_at_call 30; (with_reducible refine (tell_ok base g _ nw i fl l d _ hsz6 HA6.out).mono ?_); rintro e w6 ⟨rfl, hA, hK⟩; have n0_ := Aside0.mk hA; have n1_ := Aside0.mk (hK.keep.blk HN.out hne2 (fun e => by cases e)); have n2_ := Aside0.mk ((Wk.drewN HK.out _).trans hK); clear HA HF HN HK hA hK; have HA := n0_; have HN := n1_; have HK := n2_; clear n0_ n1_ n2_; have hn0 : w6.cell? ⟨w.heap.size + 1, 0, none⟩ = some (.int .i64 0) := (blk_cell HN.out 0).trans rfl; have hz0 : w6.frozen? ⟨w.heap.size + 1, 0, none⟩ = false := blk_frozen HN.out 0; have hn1 : w6.cell? ⟨w.heap.size + 1, 1, none⟩ = some (.int .i64 0) := (blk_cell HN.out 1).trans rfl; have hz1 : w6.frozen? ⟨w.heap.size + 1, 1, none⟩ = false := blk_frozen HN.out 1; have hn2 : w6.cell? ⟨w.heap.size + 1, 2, none⟩ = some (.int .i64 0) := (blk_cell HN.out 2).trans rfl; have hz2 : w6.frozen? ⟨w.heap.size + 1, 2, none⟩ = false := blk_frozen HN.out 2; have hn3 : w6.cell? ⟨w.heap.size + 1, 3, none⟩ = some (.int .i64 0) := (blk_cell HN.out 3).trans rfl; have hz3 : w6.frozen? ⟨w.heap.size + 1, 3, none⟩ = false := blk_frozen HN.out 3; have hn4 : w6.cell? ⟨w.heap.size + 1, 4, none⟩ = some (.int .i64 0) := (blk_cell HN.out 4).trans rfl; have hz4 : w6.frozen? ⟨w.heap.size + 1, 4, none⟩ = false := blk_frozen HN.out 4; have hn5 : w6.cell? ⟨w.heap.size + 1, 5, none⟩ = some (.string (⟨#[]⟩ : ByteArray)) := (blk_cell HN.out 5).trans rfl; have hz5 : w6.frozen? ⟨w.heap.size + 1, 5, none⟩ = false := blk_frozen HN.out 5; have hn6 : w6.cell? ⟨w.heap.size + 1, 6, none⟩ = some (.int .i64 0) := (blk_cell HN.out 6).trans rfl; have hz6 : w6.frozen? ⟨w.heap.size + 1, 6, none⟩ = false := blk_frozen HN.out 6))
    refine bodyPost_ret (results_ct rfl _ _ (w.heap.size + 1) 35 #[.int .i64 1, .int .i64 (wrap64 s.id), .int .i64 i, .int .i64 fl, .int .i64 l, .string d, .int .i64 nw] (0, 0) _ rfl (blk_put (blk_put (blk_put (blk_put (blk_put (blk_put (blk_put HN.out 0 _ rfl) 1 _ rfl) 2 _ rfl) 3 _ rfl) 4 _ rfl) 5 _ rfl) 6 _ rfl) hu5 rfl (by kernel_rfl)) rfl ?_
    exact ⟨rfl, HA.out.note7 HN.out _ _ _ _ _ _ _, Wk.far7 hb HK.out (Nat.le_succ _) _ _ _ _ _ _ _⟩

/-! ### signalboxlaw23_beat: function 11 -/
def signalboxlaw23_beat.f (a0 : ByteArray) : Option (Int × Int × Int × ByteArray) := some (1, 0, (a0.size : Int), a0)
set_option maxHeartbeats 8000000 in
set_option maxRecDepth 100000 in
theorem signalboxlaw23_beat.calls (a0 : ByteArray) (r1 : Int) (r2 : Int) (r3 : Int) (r4 : ByteArray) (w : World) (h : signalboxlaw23_beat.f a0 = some (r1, r2, r3, r4)) :
    Calls Try.prog 11 #[.string a0] w fun e w' => e = .returned (.agg #[.int .i64 r1, .int .i64 r2, .int .i64 r3, .string r4]) ∧ Below w.heap.size w w' := by
  have hu33 := Try.underlying33
  have HB := Aside0.mk (Below.refl w.heap.size w)
  have H : (some (1, 0, (a0.size : Int), a0)) = some (r1, r2, r3, r4) := h
  clear h
  simp only [Option.some.injEq, Prod.mk.injEq] at H
  obtain ⟨rfl, rfl, rfl, rfl⟩ := H
  go_enter Try.func11, Try.ntmps11
  go_wp2_with (first | ((with_reducible refine gate_dst (N := 2) rfl ?_); refine box_event ?hg (N := 2) ?hd (cs := #[.int .i64 0, .int .i64 0, .int .i64 0, .string (⟨#[]⟩ : ByteArray)]) (t := 33) ?hr ?_; (case hd => rfl); (case hg => rfl); (case hr => first | (go_simp; done) | (go_simp; rfl)); intro gb136 hg w2 hbox hb; have n0_ := Aside0.mk (below_step (by repeat (first | (with_reducible first | exact HB.out | apply below_alloc | apply pw_below_drewN | apply below_drew1) | exact HB.out)) hb); have n1_ := Aside0.mk (hbox); have n2_ := Aside0.mk ((by rw [hg]; exact (below_size (by repeat (first | (with_reducible first | exact HB.out | apply below_alloc | apply pw_below_drewN | apply below_drew1) | exact HB.out))) : w.heap.size ≤ gb136)); have n3_ := Aside0.mk ((by rw [hg]; exact (below_size (by repeat (first | (with_reducible first | exact HB.out | apply below_alloc | apply pw_below_drewN | apply below_drew1) | exact HB.out))) : w.heap.size ≤ gb136)); clear HB; have HB := n0_; have BK136 := n1_; have GW136 := n2_; have GE136 := n3_; clear n0_ n1_ n2_ n3_; clear hb hbox hg; have hcz3_0 : w2.cell? ⟨gb136, 0, none⟩ = some (.int .i64 0) := (blk_cell BK136.out 0).trans rfl; have hcz3_1 : w2.cell? ⟨gb136, 1, none⟩ = some (.int .i64 0) := (blk_cell BK136.out 1).trans rfl; have hcz3_2 : w2.cell? ⟨gb136, 2, none⟩ = some (.int .i64 0) := (blk_cell BK136.out 2).trans rfl; have hcz3_3 : w2.cell? ⟨gb136, 3, none⟩ = some (.string (⟨#[]⟩ : ByteArray)) := (blk_cell BK136.out 3).trans rfl; have hfz3_0 := blk_frozen BK136.out 0; have hfz3_1 := blk_frozen BK136.out 1; have hfz3_2 := blk_frozen BK136.out 2; have hfz3_3 := blk_frozen BK136.out 3))
  refine bodyPost_ret (results_cell_row rfl _ _ gb136 33 #[.int .i64 1, .int .i64 0, .int .i64 (a0.size : Int), .string a0] (0, 0) _ rfl (by (with_reducible repeat (first | refine blk_drewN ?_ _ | refine blk_drew ?_ | refine blk_alloc ?_ _)); refine blk_put (cs := #[.int .i64 1, .int .i64 0, .int .i64 (a0.size : Int), .string (⟨#[]⟩ : ByteArray)]) ?_ 3 _ rfl; (with_reducible repeat (first | refine blk_drewN ?_ _ | refine blk_drew ?_ | refine blk_alloc ?_ _)); refine blk_put (cs := #[.int .i64 1, .int .i64 0, .int .i64 0, .string (⟨#[]⟩ : ByteArray)]) ?_ 2 _ rfl; (with_reducible repeat (first | refine blk_drewN ?_ _ | refine blk_drew ?_ | refine blk_alloc ?_ _)); refine blk_put (cs := #[.int .i64 1, .int .i64 0, .int .i64 0, .string (⟨#[]⟩ : ByteArray)]) ?_ 1 _ rfl; (with_reducible repeat (first | refine blk_drewN ?_ _ | refine blk_drew ?_ | refine blk_alloc ?_ _)); refine blk_put (cs := #[.int .i64 0, .int .i64 0, .int .i64 0, .string (⟨#[]⟩ : ByteArray)]) ?_ 0 _ rfl; (with_reducible repeat (first | refine blk_drewN ?_ _ | refine blk_drew ?_ | refine blk_alloc ?_ _)); exact BK136.out) Try.underlying33 rfl (by kernel_rfl)) rfl ?_
  exact ⟨by first | rfl | (simp [errW_none, errW_some] <;> rfl) | (simp [*, errW_none, errW_some] <;> rfl), by repeat (first | (with_reducible first | exact HB.out | apply below_alloc | apply pw_below_drewN | apply below_drew1 | refine below_set ?_ GE136.out) | exact HB.out)⟩

end Go.Proofs.Ytelplkdbjfkfmaa.PWatchThrottle
