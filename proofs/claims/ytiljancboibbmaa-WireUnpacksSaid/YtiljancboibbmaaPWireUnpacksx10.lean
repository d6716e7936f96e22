-- Laid by a program of the session over the kit's print. Not trusted: Lean checks it.
import Derived.Test.YtiljancboibbmaaPWireUnpacksx0
import Derived.Test.YtiljancboibbmaaPWireUnpacksx6
import Derived.Test.YtiljancboibbmaaPWireUnpacksx7
import Derived.Test.YtiljancboibbmaaPWireUnpacksx8
import Derived.Test.YtiljancboibbmaaPWireUnpacksx9
namespace Go.Proofs.Ytiljancboibbmaa.PWireUnpacks
open Go.RowKit Go.Proofs.YtiljancboibbmaaW.PrintWords Go.Proofs.YtiljancboibbmaaW.PrintLast Go.Proofs.YtiljancboibbmaaW.PrintMore
attribute [local go_sem] max2_int min2_int max_two min_two max_three min_three max_four min_four   -- for this text's walks alone
set_option linter.unusedVariables false
set_option linter.unusedSimpArgs false

/-! ### signalboxref03_Decode: function 13 -/
mutual
def signalboxref03_Decode.j0 : Nat → ByteArray → Bool → Option (Int × Int × Int × ByteArray × Bool)
  | 0, _, _ => none
  | k + 1, x0, x18 => if x18 = true then (some (0, 0, 0, (⟨#[]⟩ : ByteArray), false)) else ((signalboxref01_Get.f k x0 0).bind fun bt198 => (if 4 < (x0.size : Int) then (if 5 < (x0.size : Int) then (if 6 < (x0.size : Int) then (if (bt x0 6) = 0 then (if 7 < (x0.size : Int) then (if (bt x0 7) = 0 then (if (((x0.size : Int) == 72) != ((wrap64 (Int.tdiv (wrap64 (bt x0 5)) 4)) == 1)) = true then (signalboxref03_Decode.j1 k x0 bt198.1 (wrap64 (bt x0 4)) (wrap64 (bt x0 5)) ((x0.size : Int) == 72) true) else (if ((x0.size : Int) = 72) then (signalboxref03_Decode.j1 k x0 bt198.1 (wrap64 (bt x0 4)) (wrap64 (bt x0 5)) ((x0.size : Int) == 72) (decide ((wrap64 (bt x0 5)) > 7))) else (if (wrap64 (bt x0 5)) = 0 then (signalboxref03_Decode.j1 k x0 bt198.1 (wrap64 (bt x0 4)) (wrap64 (bt x0 5)) ((x0.size : Int) == 72) (decide ((wrap64 (bt x0 5)) > 7))) else (signalboxref03_Decode.j1 k x0 bt198.1 (wrap64 (bt x0 4)) (wrap64 (bt x0 5)) ((x0.size : Int) == 72) true)))) else (signalboxref03_Decode.j1 k x0 bt198.1 (wrap64 (bt x0 4)) (wrap64 (bt x0 5)) ((x0.size : Int) == 72) true)) else (none)) else (signalboxref03_Decode.j1 k x0 bt198.1 (wrap64 (bt x0 4)) (wrap64 (bt x0 5)) ((x0.size : Int) == 72) true)) else (none)) else (none)) else (none)))
def signalboxref03_Decode.j1 : Nat → ByteArray → Int → Int → Int → Bool → Bool → Option (Int × Int × Int × ByteArray × Bool)
  | 0, _, _, _, _, _, _ => none
  | k + 1, x0, x4, x6, x7, x8, x60 => if x60 = true then (some (0, 0, 0, (⟨#[]⟩ : ByteArray), false)) else (if x6 > (wrap64 ((x0.size : Int) - 8)) then (signalboxref03_Decode.j2 k x0 x4 x6 x7 x8 true) else ((signalboxref03_zero.f k x0 (wrap64 (8 + x6)) (x0.size : Int)).bind fun t200 => (signalboxref03_Decode.j2 k x0 x4 x6 x7 x8 (!t200))))
def signalboxref03_Decode.j2 : Nat → ByteArray → Int → Int → Int → Bool → Bool → Option (Int × Int × Int × ByteArray × Bool)
  | 0, _, _, _, _, _, _ => none
  | k + 1, x0, x4, x6, x7, x8, x75 => if x75 = true then (some (0, 0, 0, (⟨#[]⟩ : ByteArray), false)) else (if 8 ≤ (wrap64 (8 + x6)) then (if (wrap64 (8 + x6)) ≤ (x0.size : Int) then ((signalboxref02_Of.f k x4 (x0.extract 8 ((wrap64 (8 + x6)) : Int).toNat)).bind fun bt201 => (if x8 = true then (if x4 ≥ 2147483648 then (signalboxref03_Decode.j3 k x0 x4 x7 (wrap64 (Int.tmod x4 536870912)) 9 x6 (x0.extract 8 ((wrap64 (8 + x6)) : Int).toNat)) else (signalboxref03_Decode.j3 k x0 x4 x7 (wrap64 (Int.tmod x4 536870912)) 8 x6 (x0.extract 8 ((wrap64 (8 + x6)) : Int).toNat))) else (signalboxref03_Decode.j4 k x0 bt201.2.2.2.2 bt201.1 bt201.2.1 bt201.2.2.1 bt201.2.2.2.1))) else (none)) else (none))
def signalboxref03_Decode.j4 : Nat → ByteArray → Bool → Int → Int → Int → ByteArray → Option (Int × Int × Int × ByteArray × Bool)
  | 0, _, _, _, _, _, _ => none
  | k + 1, x0, x10, x207000, x207001, x207002, x207003 => if x10 = true then ((signalboxref02_Has.f x207000 x207001 x207002 x207003 2).bind fun t211 => (if t211 = true then ((signalboxref03_zero.f k x0 8 (x0.size : Int)).bind fun t212 => (if t212 = true then (some (x207000, x207001, x207002, x207003, true)) else (some (0, 0, 0, (⟨#[]⟩ : ByteArray), false)))) else (some (x207000, x207001, x207002, x207003, true)))) else (some (0, 0, 0, (⟨#[]⟩ : ByteArray), false))
def signalboxref03_Decode.j3 : Nat → ByteArray → Int → Int → Int → Int → Int → ByteArray → Option (Int × Int × Int × ByteArray × Bool)
  | 0, _, _, _, _, _, _, _ => none
  | k + 1, x0, x4, x7, x207000, x207001, x207002, x207003 => if (Int.tmod x7 2) = 1 then (if (Int.tmod (wrap64 (Int.tdiv x7 2)) 2) = 1 then ((signalboxref02_Right.f k x207000 (wrap64 ((wrap64 (x207001 + 16)) + 32)) x207002 x207003).bind fun t207 => (if t207 = true then (signalboxref03_Decode.j4 k x0 ((((Int.tdiv x4 536870912) % 4294967296) % 4) == 0) x207000 (wrap64 ((wrap64 (x207001 + 16)) + 32)) x207002 x207003) else (signalboxref03_Decode.j4 k x0 false x207000 (wrap64 ((wrap64 (x207001 + 16)) + 32)) x207002 x207003))) else ((signalboxref02_Right.f k x207000 (wrap64 (x207001 + 16)) x207002 x207003).bind fun t208 => (if t208 = true then (signalboxref03_Decode.j4 k x0 ((((Int.tdiv x4 536870912) % 4294967296) % 4) == 0) x207000 (wrap64 (x207001 + 16)) x207002 x207003) else (signalboxref03_Decode.j4 k x0 false x207000 (wrap64 (x207001 + 16)) x207002 x207003)))) else (if (Int.tmod (wrap64 (Int.tdiv x7 2)) 2) = 1 then ((signalboxref02_Right.f k x207000 (wrap64 (x207001 + 32)) x207002 x207003).bind fun t209 => (if t209 = true then (signalboxref03_Decode.j4 k x0 ((((Int.tdiv x4 536870912) % 4294967296) % 4) == 0) x207000 (wrap64 (x207001 + 32)) x207002 x207003) else (signalboxref03_Decode.j4 k x0 false x207000 (wrap64 (x207001 + 32)) x207002 x207003))) else ((signalboxref02_Right.f k x207000 x207001 x207002 x207003).bind fun t210 => (if t210 = true then (signalboxref03_Decode.j4 k x0 ((((Int.tdiv x4 536870912) % 4294967296) % 4) == 0) x207000 x207001 x207002 x207003) else (signalboxref03_Decode.j4 k x0 false x207000 x207001 x207002 x207003))))
end
def signalboxref03_Decode.f (k : Nat) (a0 : ByteArray) : Option (Int × Int × Int × ByteArray × Bool) := if (a0.size : Int) = 16 then (signalboxref03_Decode.j0 k a0 false) else (signalboxref03_Decode.j0 k a0 ((a0.size : Int) != 72))
theorem signalboxref03_Decode.mono_l : ∀ k, (∀ y0 y1, LeO (signalboxref03_Decode.j0 k y0 y1) (signalboxref03_Decode.j0 (k + 1) y0 y1)) ∧ (∀ y0 y1 y2 y3 y4 y5, LeO (signalboxref03_Decode.j1 k y0 y1 y2 y3 y4 y5) (signalboxref03_Decode.j1 (k + 1) y0 y1 y2 y3 y4 y5)) ∧ (∀ y0 y1 y2 y3 y4 y5, LeO (signalboxref03_Decode.j2 k y0 y1 y2 y3 y4 y5) (signalboxref03_Decode.j2 (k + 1) y0 y1 y2 y3 y4 y5)) ∧ (∀ y0 y1 y2 y3 y4 y5, LeO (signalboxref03_Decode.j4 k y0 y1 y2 y3 y4 y5) (signalboxref03_Decode.j4 (k + 1) y0 y1 y2 y3 y4 y5)) ∧ (∀ y0 y1 y2 y3 y4 y5 y6, LeO (signalboxref03_Decode.j3 k y0 y1 y2 y3 y4 y5 y6) (signalboxref03_Decode.j3 (k + 1) y0 y1 y2 y3 y4 y5 y6))
  | 0 => ⟨fun _ _ r h => by simp [signalboxref03_Decode.j0] at h, fun _ _ _ _ _ _ r h => by simp [signalboxref03_Decode.j1] at h, fun _ _ _ _ _ _ r h => by simp [signalboxref03_Decode.j2] at h, fun _ _ _ _ _ _ r h => by simp [signalboxref03_Decode.j4] at h, fun _ _ _ _ _ _ _ r h => by simp [signalboxref03_Decode.j3] at h⟩
  | k + 1 => by
    obtain ⟨ih0, ih1, ih2, ih3, ih4⟩ := signalboxref03_Decode.mono_l k
    refine ⟨?_, ?_, ?_, ?_, ?_⟩
    · intro y0 y1
      unfold signalboxref03_Decode.j0
      repeat' first
      | (with_reducible exact ih0 _ _)
      | (with_reducible exact ih1 _ _ _ _ _ _)
      | (with_reducible exact ih2 _ _ _ _ _ _)
      | (with_reducible exact ih3 _ _ _ _ _ _)
      | (with_reducible exact ih4 _ _ _ _ _ _ _)
      | (with_reducible exact signalboxref01_Get.mono _ _ _)
      | (with_reducible exact signalboxref02_Of.mono _ _ _)
      | (with_reducible exact signalboxref02_Right.mono _ _ _ _ _)
      | (with_reducible exact signalboxref03_zero.mono _ _ _ _)
      | (with_reducible exact LeO.refl _)
      | (with_reducible exact LeO.none _)
      | (with_reducible refine LeO.ite ?_ ?_)
      | (with_reducible refine LeO.bind ?_ (fun _ => ?_))
      | exact ih0 _ _
      | exact ih1 _ _ _ _ _ _
      | exact ih2 _ _ _ _ _ _
      | exact ih3 _ _ _ _ _ _
      | exact ih4 _ _ _ _ _ _ _
      | exact signalboxref01_Get.mono _ _ _
      | exact signalboxref02_Of.mono _ _ _
      | exact signalboxref02_Right.mono _ _ _ _ _
      | exact signalboxref03_zero.mono _ _ _ _
      | exact LeO.none _
      | refine LeO.ite ?_ ?_
      | refine LeO.bind ?_ (fun _ => ?_)
    · intro y0 y1 y2 y3 y4 y5
      unfold signalboxref03_Decode.j1
      repeat' first
      | (with_reducible exact ih0 _ _)
      | (with_reducible exact ih1 _ _ _ _ _ _)
      | (with_reducible exact ih2 _ _ _ _ _ _)
      | (with_reducible exact ih3 _ _ _ _ _ _)
      | (with_reducible exact ih4 _ _ _ _ _ _ _)
      | (with_reducible exact signalboxref01_Get.mono _ _ _)
      | (with_reducible exact signalboxref02_Of.mono _ _ _)
      | (with_reducible exact signalboxref02_Right.mono _ _ _ _ _)
      | (with_reducible exact signalboxref03_zero.mono _ _ _ _)
      | (with_reducible exact LeO.refl _)
      | (with_reducible exact LeO.none _)
      | (with_reducible refine LeO.ite ?_ ?_)
      | (with_reducible refine LeO.bind ?_ (fun _ => ?_))
      | exact ih0 _ _
      | exact ih1 _ _ _ _ _ _
      | exact ih2 _ _ _ _ _ _
      | exact ih3 _ _ _ _ _ _
      | exact ih4 _ _ _ _ _ _ _
      | exact signalboxref01_Get.mono _ _ _
      | exact signalboxref02_Of.mono _ _ _
      | exact signalboxref02_Right.mono _ _ _ _ _
      | exact signalboxref03_zero.mono _ _ _ _
      | exact LeO.none _
      | refine LeO.ite ?_ ?_
      | refine LeO.bind ?_ (fun _ => ?_)
    · intro y0 y1 y2 y3 y4 y5
      unfold signalboxref03_Decode.j2
      repeat' first
      | (with_reducible exact ih0 _ _)
      | (with_reducible exact ih1 _ _ _ _ _ _)
      | (with_reducible exact ih2 _ _ _ _ _ _)
      | (with_reducible exact ih3 _ _ _ _ _ _)
      | (with_reducible exact ih4 _ _ _ _ _ _ _)
      | (with_reducible exact signalboxref01_Get.mono _ _ _)
      | (with_reducible exact signalboxref02_Of.mono _ _ _)
      | (with_reducible exact signalboxref02_Right.mono _ _ _ _ _)
      | (with_reducible exact signalboxref03_zero.mono _ _ _ _)
      | (with_reducible exact LeO.refl _)
      | (with_reducible exact LeO.none _)
      | (with_reducible refine LeO.ite ?_ ?_)
      | (with_reducible refine LeO.bind ?_ (fun _ => ?_))
      | exact ih0 _ _
      | exact ih1 _ _ _ _ _ _
      | exact ih2 _ _ _ _ _ _
      | exact ih3 _ _ _ _ _ _
      | exact ih4 _ _ _ _ _ _ _
      | exact signalboxref01_Get.mono _ _ _
      | exact signalboxref02_Of.mono _ _ _
      | exact signalboxref02_Right.mono _ _ _ _ _
      | exact signalboxref03_zero.mono _ _ _ _
      | exact LeO.none _
      | refine LeO.ite ?_ ?_
      | refine LeO.bind ?_ (fun _ => ?_)
    · intro y0 y1 y2 y3 y4 y5
      unfold signalboxref03_Decode.j4
      repeat' first
      | (with_reducible exact ih0 _ _)
      | (with_reducible exact ih1 _ _ _ _ _ _)
      | (with_reducible exact ih2 _ _ _ _ _ _)
      | (with_reducible exact ih3 _ _ _ _ _ _)
      | (with_reducible exact ih4 _ _ _ _ _ _ _)
      | (with_reducible exact signalboxref01_Get.mono _ _ _)
      | (with_reducible exact signalboxref02_Of.mono _ _ _)
      | (with_reducible exact signalboxref02_Right.mono _ _ _ _ _)
      | (with_reducible exact signalboxref03_zero.mono _ _ _ _)
      | (with_reducible exact LeO.refl _)
      | (with_reducible exact LeO.none _)
      | (with_reducible refine LeO.ite ?_ ?_)
      | (with_reducible refine LeO.bind ?_ (fun _ => ?_))
      | exact ih0 _ _
      | exact ih1 _ _ _ _ _ _
      | exact ih2 _ _ _ _ _ _
      | exact ih3 _ _ _ _ _ _
      | exact ih4 _ _ _ _ _ _ _
      | exact signalboxref01_Get.mono _ _ _
      | exact signalboxref02_Of.mono _ _ _
      | exact signalboxref02_Right.mono _ _ _ _ _
      | exact signalboxref03_zero.mono _ _ _ _
      | exact LeO.none _
      | refine LeO.ite ?_ ?_
      | refine LeO.bind ?_ (fun _ => ?_)
    · intro y0 y1 y2 y3 y4 y5 y6
      unfold signalboxref03_Decode.j3
      repeat' first
      | (with_reducible exact ih0 _ _)
      | (with_reducible exact ih1 _ _ _ _ _ _)
      | (with_reducible exact ih2 _ _ _ _ _ _)
      | (with_reducible exact ih3 _ _ _ _ _ _)
      | (with_reducible exact ih4 _ _ _ _ _ _ _)
      | (with_reducible exact signalboxref01_Get.mono _ _ _)
      | (with_reducible exact signalboxref02_Of.mono _ _ _)
      | (with_reducible exact signalboxref02_Right.mono _ _ _ _ _)
      | (with_reducible exact signalboxref03_zero.mono _ _ _ _)
      | (with_reducible exact LeO.refl _)
      | (with_reducible exact LeO.none _)
      | (with_reducible refine LeO.ite ?_ ?_)
      | (with_reducible refine LeO.bind ?_ (fun _ => ?_))
      | exact ih0 _ _
      | exact ih1 _ _ _ _ _ _
      | exact ih2 _ _ _ _ _ _
      | exact ih3 _ _ _ _ _ _
      | exact ih4 _ _ _ _ _ _ _
      | exact signalboxref01_Get.mono _ _ _
      | exact signalboxref02_Of.mono _ _ _
      | exact signalboxref02_Right.mono _ _ _ _ _
      | exact signalboxref03_zero.mono _ _ _ _
      | exact LeO.none _
      | refine LeO.ite ?_ ?_
      | refine LeO.bind ?_ (fun _ => ?_)
theorem signalboxref03_Decode.mono : ∀ a0 k, LeO (signalboxref03_Decode.f k a0) (signalboxref03_Decode.f (k + 1) a0) := by
  intro a0 k
  obtain ⟨ih0, ih1, ih2, ih3, ih4⟩ := signalboxref03_Decode.mono_l k
  unfold signalboxref03_Decode.f
  repeat' first
      | (with_reducible exact ih0 _ _)
      | (with_reducible exact ih1 _ _ _ _ _ _)
      | (with_reducible exact ih2 _ _ _ _ _ _)
      | (with_reducible exact ih3 _ _ _ _ _ _)
      | (with_reducible exact ih4 _ _ _ _ _ _ _)
      | (with_reducible exact signalboxref01_Get.mono _ _ _)
      | (with_reducible exact signalboxref02_Of.mono _ _ _)
      | (with_reducible exact signalboxref02_Right.mono _ _ _ _ _)
      | (with_reducible exact signalboxref03_zero.mono _ _ _ _)
      | (with_reducible exact LeO.refl _)
      | (with_reducible exact LeO.none _)
      | (with_reducible refine LeO.ite ?_ ?_)
      | (with_reducible refine LeO.bind ?_ (fun _ => ?_))
      | exact ih0 _ _
      | exact ih1 _ _ _ _ _ _
      | exact ih2 _ _ _ _ _ _
      | exact ih3 _ _ _ _ _ _
      | exact ih4 _ _ _ _ _ _ _
      | exact signalboxref01_Get.mono _ _ _
      | exact signalboxref02_Of.mono _ _ _
      | exact signalboxref02_Right.mono _ _ _ _ _
      | exact signalboxref03_zero.mono _ _ _ _
      | exact LeO.none _
      | refine LeO.ite ?_ ?_
      | refine LeO.bind ?_ (fun _ => ?_)
set_option maxHeartbeats 100000000 in
set_option maxRecDepth 100000 in
theorem signalboxref03_Decode.calls (k : Nat) (a0 : ByteArray) (r1 : Int) (r2 : Int) (r3 : Int) (r4 : ByteArray) (r5 : Bool) (w : World) (h : signalboxref03_Decode.f k a0 = some (r1, r2, r3, r4, r5)) :
    Calls Try.prog 13 #[.string a0] w fun e w' => e = .returned (.tuple #[.agg #[.int .i64 r1, .int .i64 r2, .int .i64 r3, .string r4], .bool r5]) ∧ Below w.heap.size w w' := by
  have hu23 := Try.underlying23
  have HB := Aside0.mk (Below.refl w.heap.size w)
  have H : (if (a0.size : Int) = 16 then (signalboxref03_Decode.j0 k a0 false) else (signalboxref03_Decode.j0 k a0 ((a0.size : Int) != 72))) = some (r1, r2, r3, r4, r5) := h
  clear h
  have HC2 := Aside0.mk H
  clear H
  go_enter Try.func13, Try.ntmps13
  go_upto_region 1 with (first | ((with_reducible refine gate_dst (N := 2) rfl ?_); (try (refine gate_guard (by rfl) ?_; dsimp only)); refine box_event ?hg (N := 2) ?hd (cs := #[.int .i64 0, .int .i64 0, .int .i64 0, .string (⟨#[]⟩ : ByteArray)]) (t := 23) ?hr ?_; (case hd => rfl); (case hg => rfl); (case hr => first | (go_simp; done) | (go_simp; rfl)); intro gb197 hg w3 hbox hb; have n0_ := Aside0.mk (below_step (by repeat (first | (with_reducible first | exact HB.out | apply below_alloc | apply pw_below_drewN | apply below_drew1) | exact HB.out)) hb); have n1_ := Aside0.mk (hbox); have n2_ := Aside0.mk ((by rw [hg]; exact (below_size (by repeat (first | (with_reducible first | exact HB.out | apply below_alloc | apply pw_below_drewN | apply below_drew1) | exact HB.out))) : w.heap.size ≤ gb197)); have n3_ := Aside0.mk ((by rw [hg]; exact (below_size (by repeat (first | (with_reducible first | exact HB.out | apply below_alloc | apply pw_below_drewN | apply below_drew1) | exact HB.out))) : w.heap.size ≤ gb197)); clear HB; have HB := n0_; have BK197 := n1_; have GW197 := n2_; have GE197 := n3_; clear n0_ n1_ n2_ n3_; clear hb hbox hg))
  repeat (go_quiet (first | ((with_reducible refine gate_dst (N := 2) rfl ?_); (try (refine gate_guard (by rfl) ?_; dsimp only)); refine box_event ?hg (N := 2) ?hd (cs := #[.int .i64 0, .int .i64 0, .int .i64 0, .string (⟨#[]⟩ : ByteArray)]) (t := 23) ?hr ?_; (case hd => rfl); (case hg => rfl); (case hr => first | (go_simp; done) | (go_simp; rfl)); intro gb197 hg w3 hbox hb; have n0_ := Aside0.mk (below_step (by repeat (first | (with_reducible first | exact HB.out | apply below_alloc | apply pw_below_drewN | apply below_drew1) | exact HB.out)) hb); have n1_ := Aside0.mk (hbox); have n2_ := Aside0.mk ((by rw [hg]; exact (below_size (by repeat (first | (with_reducible first | exact HB.out | apply below_alloc | apply pw_below_drewN | apply below_drew1) | exact HB.out))) : w.heap.size ≤ gb197)); have n3_ := Aside0.mk ((by rw [hg]; exact (below_size (by repeat (first | (with_reducible first | exact HB.out | apply below_alloc | apply pw_below_drewN | apply below_drew1) | exact HB.out))) : w.heap.size ≤ gb197)); clear HB; have HB := n0_; have BK197 := n1_; have GW197 := n2_; have GE197 := n3_; clear n0_ n1_ n2_ n3_; clear hb hbox hg)); go_upto_region 1 with (first | ((with_reducible refine gate_dst (N := 2) rfl ?_); (try (refine gate_guard (by rfl) ?_; dsimp only)); refine box_event ?hg (N := 2) ?hd (cs := #[.int .i64 0, .int .i64 0, .int .i64 0, .string (⟨#[]⟩ : ByteArray)]) (t := 23) ?hr ?_; (case hd => rfl); (case hg => rfl); (case hr => first | (go_simp; done) | (go_simp; rfl)); intro gb197 hg w3 hbox hb; have n0_ := Aside0.mk (below_step (by repeat (first | (with_reducible first | exact HB.out | apply below_alloc | apply pw_below_drewN | apply below_drew1) | exact HB.out)) hb); have n1_ := Aside0.mk (hbox); have n2_ := Aside0.mk ((by rw [hg]; exact (below_size (by repeat (first | (with_reducible first | exact HB.out | apply below_alloc | apply pw_below_drewN | apply below_drew1) | exact HB.out))) : w.heap.size ≤ gb197)); have n3_ := Aside0.mk ((by rw [hg]; exact (below_size (by repeat (first | (with_reducible first | exact HB.out | apply below_alloc | apply pw_below_drewN | apply below_drew1) | exact HB.out))) : w.heap.size ≤ gb197)); clear HB; have HB := n0_; have BK197 := n1_; have GW197 := n2_; have GE197 := n3_; clear n0_ n1_ n2_ n3_; clear hb hbox hg)))
  (try simp only [Act.put, List.setIfInBounds_toArray, List.set_cons_zero, List.set_cons_succ])
  go_cut [18] (fun v18 wc => ∃ (kq : Nat) (x18_1 : Bool), v18 = .bool x18_1 ∧ Aside0 (signalboxref03_Decode.j0 kq a0 x18_1 = some (r1, r2, r3, r4, r5)) ∧ Aside0 (kq ≤ k) ∧ Aside0 (wc.heap[gb197]? = some (.cells #[.int .i64 0, .int .i64 0, .int .i64 0, .string (⟨#[]⟩ : ByteArray)] 23 (0, 0))) ∧ Aside0 (Below w.heap.size w wc))
  case first =>
    have H := HC2.out
    clear HC2
    by_cases c4 : (a0.size : Int) = 16
    · rw [if_pos c4] at H
      have c4b0 : ((a0.size : Int) == 16) = true := beq_iff_eq.mpr c4
      have c4b1 : ((a0.size : Int) != 16) = false := bne_eq_false_iff_eq.mpr c4
      clear c4
      (first | rw [c4b0] | (simp only [i64_w, i32_w]; rw [c4b0]) | skip)
      have H' := Aside0.mk H
      clear H
      go_wp2
      repeat (go_quiet (fail); try go_wp2)
      go_meet
      case rel => exact ⟨_, (false), (by first | rfl | (simp; done) | (simp [*]; done)), H', ⟨by first | omega | exact Nat.le_refl _⟩, ⟨by (with_reducible repeat (first | refine blk_drewN ?_ _ | refine blk_drew ?_ | refine blk_alloc ?_ _)); exact BK197.out⟩, ⟨by repeat (first | (with_reducible first | exact HB.out | apply below_alloc | apply pw_below_drewN | apply below_drew1 | refine below_set ?_ GE197.out) | exact HB.out)⟩⟩
    · rw [if_neg c4] at H
      have c4b0 : ((a0.size : Int) == 16) = false := beq_eq_false_iff_ne.mpr c4
      have c4b1 : ((a0.size : Int) != 16) = true := bne_iff_ne.mpr c4
      (first | rw [c4b0] | (simp only [i64_w, i32_w]; rw [c4b0]) | skip)
      have H' := Aside0.mk H
      clear H
      go_wp2
      repeat (go_quiet (fail); try go_wp2)
      go_meet
      case rel => exact ⟨_, (((a0.size : Int) != 72)), (by first | rfl | (simp; done) | (simp [*]; done)), H', ⟨by first | omega | exact Nat.le_refl _⟩, ⟨by (with_reducible repeat (first | refine blk_drewN ?_ _ | refine blk_drew ?_ | refine blk_alloc ?_ _)); exact BK197.out⟩, ⟨by repeat (first | (with_reducible first | exact HB.out | apply below_alloc | apply pw_below_drewN | apply below_drew1 | refine below_set ?_ GE197.out) | exact HB.out)⟩⟩
  case rest =>
    clear HC2
    try clear c1
    try clear p2
    try clear c4
    try clear c4b0
    try clear c4b1
    try clear HA
    try clear HJ1
    try clear BK197
    try clear HB
    obtain ⟨kq, x18_1, rfl, HA, HJ1, BK197, HB⟩ := hcut
    cases kq with
    | zero => exact absurd HA.out (by simp [signalboxref03_Decode.j0])
    | succ kj1 =>
      have H := HA.out
      clear HA
      simp only [signalboxref03_Decode.j0] at H
      by_cases c5 : x18_1 = true
      · subst c5
        have H1 : (some (0, 0, 0, (⟨#[]⟩ : ByteArray), false)) = some (r1, r2, r3, r4, r5) := by rw [if_pos rfl] at H; exact H
        clear H
        have H := H1
        clear H1
        simp only [Option.some.injEq, Prod.mk.injEq] at H
        obtain ⟨rfl, rfl, rfl, rfl, rfl⟩ := H
        have hcz6_0 : wc.cell? ⟨gb197, 0, none⟩ = some (.int .i64 0) := (blk_cell BK197.out 0).trans rfl
        have hcz6_1 : wc.cell? ⟨gb197, 1, none⟩ = some (.int .i64 0) := (blk_cell BK197.out 1).trans rfl
        have hcz6_2 : wc.cell? ⟨gb197, 2, none⟩ = some (.int .i64 0) := (blk_cell BK197.out 2).trans rfl
        have hcz6_3 : wc.cell? ⟨gb197, 3, none⟩ = some (.string (⟨#[]⟩ : ByteArray)) := (blk_cell BK197.out 3).trans rfl
        have hfz6_0 := blk_frozen BK197.out 0
        have hfz6_1 := blk_frozen BK197.out 1
        have hfz6_2 := blk_frozen BK197.out 2
        have hfz6_3 := blk_frozen BK197.out 3
        go_wp2
        repeat (go_quiet (fail); try go_wp2)
        refine bodyPost_ret (results_ct rfl _ _ gb197 23 #[.int .i64 0, .int .i64 0, .int .i64 0, .string (⟨#[]⟩ : ByteArray)] (0, 0) _ rfl (by (with_reducible repeat (first | refine blk_drewN ?_ _ | refine blk_drew ?_ | refine blk_alloc ?_ _)); refine blk_put (cs := #[.int .i64 0, .int .i64 0, .int .i64 0, .string (⟨#[]⟩ : ByteArray)]) ?_ 3 _ rfl; (with_reducible repeat (first | refine blk_drewN ?_ _ | refine blk_drew ?_ | refine blk_alloc ?_ _)); refine blk_put (cs := #[.int .i64 0, .int .i64 0, .int .i64 0, .string (⟨#[]⟩ : ByteArray)]) ?_ 2 _ rfl; (with_reducible repeat (first | refine blk_drewN ?_ _ | refine blk_drew ?_ | refine blk_alloc ?_ _)); refine blk_put (cs := #[.int .i64 0, .int .i64 0, .int .i64 0, .string (⟨#[]⟩ : ByteArray)]) ?_ 1 _ rfl; (with_reducible repeat (first | refine blk_drewN ?_ _ | refine blk_drew ?_ | refine blk_alloc ?_ _)); refine blk_put (cs := #[.int .i64 0, .int .i64 0, .int .i64 0, .string (⟨#[]⟩ : ByteArray)]) ?_ 0 _ rfl; (with_reducible repeat (first | refine blk_drewN ?_ _ | refine blk_drew ?_ | refine blk_alloc ?_ _)); exact BK197.out) Try.underlying23 rfl (by kernel_rfl)) rfl ?_
        exact ⟨by first | rfl | (simp [errW_none, errW_some] <;> rfl) | (simp [*, errW_none, errW_some] <;> rfl), by repeat (first | (with_reducible first | exact HB.out | apply below_alloc | apply pw_below_drewN | apply below_drew1 | refine below_set ?_ GE197.out) | exact HB.out)⟩
      · replace c5 := Bool.eq_false_iff.mpr c5
        subst c5
        have H1 : ((signalboxref01_Get.f kj1 a0 0).bind fun bt198 => (if 4 < (a0.size : Int) then (if 5 < (a0.size : Int) then (if 6 < (a0.size : Int) then (if (bt a0 6) = 0 then (if 7 < (a0.size : Int) then (if (bt a0 7) = 0 then (if (((a0.size : Int) == 72) != ((wrap64 (Int.tdiv (wrap64 (bt a0 5)) 4)) == 1)) = true then (signalboxref03_Decode.j1 kj1 a0 bt198.1 (wrap64 (bt a0 4)) (wrap64 (bt a0 5)) ((a0.size : Int) == 72) true) else (if ((a0.size : Int) = 72) then (signalboxref03_Decode.j1 kj1 a0 bt198.1 (wrap64 (bt a0 4)) (wrap64 (bt a0 5)) ((a0.size : Int) == 72) (decide ((wrap64 (bt a0 5)) > 7))) else (if (wrap64 (bt a0 5)) = 0 then (signalboxref03_Decode.j1 kj1 a0 bt198.1 (wrap64 (bt a0 4)) (wrap64 (bt a0 5)) ((a0.size : Int) == 72) (decide ((wrap64 (bt a0 5)) > 7))) else (signalboxref03_Decode.j1 kj1 a0 bt198.1 (wrap64 (bt a0 4)) (wrap64 (bt a0 5)) ((a0.size : Int) == 72) true)))) else (signalboxref03_Decode.j1 kj1 a0 bt198.1 (wrap64 (bt a0 4)) (wrap64 (bt a0 5)) ((a0.size : Int) == 72) true)) else (none)) else (signalboxref03_Decode.j1 kj1 a0 bt198.1 (wrap64 (bt a0 4)) (wrap64 (bt a0 5)) ((a0.size : Int) == 72) true)) else (none)) else (none)) else (none))) = some (r1, r2, r3, r4, r5) := by rw [if_neg (show ¬ (false = true) by decide)] at H; exact H
        clear H
        have H := H1
        clear H1
        replace H := Option.bind_eq_some_iff.mp H
        obtain ⟨⟨t198, t199⟩, A70, H⟩ := H
        replace H : (if 4 < (a0.size : Int) then (if 5 < (a0.size : Int) then (if 6 < (a0.size : Int) then (if (bt a0 6) = 0 then (if 7 < (a0.size : Int) then (if (bt a0 7) = 0 then (if (((a0.size : Int) == 72) != ((wrap64 (Int.tdiv (wrap64 (bt a0 5)) 4)) == 1)) = true then (signalboxref03_Decode.j1 kj1 a0 t198 (wrap64 (bt a0 4)) (wrap64 (bt a0 5)) ((a0.size : Int) == 72) true) else (if ((a0.size : Int) = 72) then (signalboxref03_Decode.j1 kj1 a0 t198 (wrap64 (bt a0 4)) (wrap64 (bt a0 5)) ((a0.size : Int) == 72) (decide ((wrap64 (bt a0 5)) > 7))) else (if (wrap64 (bt a0 5)) = 0 then (signalboxref03_Decode.j1 kj1 a0 t198 (wrap64 (bt a0 4)) (wrap64 (bt a0 5)) ((a0.size : Int) == 72) (decide ((wrap64 (bt a0 5)) > 7))) else (signalboxref03_Decode.j1 kj1 a0 t198 (wrap64 (bt a0 4)) (wrap64 (bt a0 5)) ((a0.size : Int) == 72) true)))) else (signalboxref03_Decode.j1 kj1 a0 t198 (wrap64 (bt a0 4)) (wrap64 (bt a0 5)) ((a0.size : Int) == 72) true)) else (none)) else (signalboxref03_Decode.j1 kj1 a0 t198 (wrap64 (bt a0 4)) (wrap64 (bt a0 5)) ((a0.size : Int) == 72) true)) else (none)) else (none)) else (none)) = some (r1, r2, r3, r4, r5) := H
        have A7 := Aside0.mk A70
        clear A70
        by_cases c8 : 4 < (a0.size : Int)
        · rw [if_pos c8] at H
          have c8b0 : decide (4 < (a0.size : Int)) = true := decide_eq_true c8
          have c8b1 : decide (4 < a0.size) = true := decide_eq_true (by omega)
          clear c8
          by_cases c10 : 5 < (a0.size : Int)
          · rw [if_pos c10] at H
            have c10b0 : decide (5 < (a0.size : Int)) = true := decide_eq_true c10
            have c10b1 : decide (5 < a0.size) = true := decide_eq_true (by omega)
            clear c10
            have HC12 := Aside0.mk H
            clear H
            go_upto_region 6 with (first | (go_at_call 31; (with_reducible refine (signalboxref01_Get.calls kj1 a0 0 t198 t199 _ A7.out).mono ?_); rintro e w' ⟨rfl, ⟨nd, rfl⟩⟩; (try first | exact ⟨rfl, _, World.drewN_drewN _ _ _⟩ | exact ⟨rfl, _, Eq.trans (World.drewN_drewN _ _ _) (congrArg (World.drewN _) (Nat.add_assoc _ _ _))⟩); have p9 : 0 ≤ (4 : Int) := (by omega); have q9 : 4 < a0.size := (by have : (4 : Int) < (a0.size : Int) := of_decide_eq_true (by first | (with_reducible assumption) | assumption); omega); have hx9 : ∀ h : 4 < a0.size, ((a0[4]'h).toNat : Int) = bt a0 4 := bt_at a0 4; clear p9; have qi9 : (4 < (a0.size : Int)) = True := eq_true (of_decide_eq_true (by first | (with_reducible assumption) | assumption)); replace q9 := eq_true q9; have p11 : 0 ≤ (5 : Int) := (by omega); have q11 : 5 < a0.size := (by have : (5 : Int) < (a0.size : Int) := of_decide_eq_true (by first | (with_reducible assumption) | assumption); omega); have hx11 : ∀ h : 5 < a0.size, ((a0[5]'h).toNat : Int) = bt a0 5 := bt_at a0 5; clear p11; have qi11 : (5 < (a0.size : Int)) = True := eq_true (of_decide_eq_true (by first | (with_reducible assumption) | assumption)); replace q11 := eq_true q11))
            repeat (go_quiet (first | (go_at_call 31; (with_reducible refine (signalboxref01_Get.calls kj1 a0 0 t198 t199 _ A7.out).mono ?_); rintro e w' ⟨rfl, ⟨nd, rfl⟩⟩; (try first | exact ⟨rfl, _, World.drewN_drewN _ _ _⟩ | exact ⟨rfl, _, Eq.trans (World.drewN_drewN _ _ _) (congrArg (World.drewN _) (Nat.add_assoc _ _ _))⟩); have p9 : 0 ≤ (4 : Int) := (by omega); have q9 : 4 < a0.size := (by have : (4 : Int) < (a0.size : Int) := of_decide_eq_true (by first | (with_reducible assumption) | assumption); omega); have hx9 : ∀ h : 4 < a0.size, ((a0[4]'h).toNat : Int) = bt a0 4 := bt_at a0 4; clear p9; have qi9 : (4 < (a0.size : Int)) = True := eq_true (of_decide_eq_true (by first | (with_reducible assumption) | assumption)); replace q9 := eq_true q9; have p11 : 0 ≤ (5 : Int) := (by omega); have q11 : 5 < a0.size := (by have : (5 : Int) < (a0.size : Int) := of_decide_eq_true (by first | (with_reducible assumption) | assumption); omega); have hx11 : ∀ h : 5 < a0.size, ((a0[5]'h).toNat : Int) = bt a0 5 := bt_at a0 5; clear p11; have qi11 : (5 < (a0.size : Int)) = True := eq_true (of_decide_eq_true (by first | (with_reducible assumption) | assumption)); replace q11 := eq_true q11)); go_upto_region 6 with (first | (go_at_call 31; (with_reducible refine (signalboxref01_Get.calls kj1 a0 0 t198 t199 _ A7.out).mono ?_); rintro e w' ⟨rfl, ⟨nd, rfl⟩⟩; (try first | exact ⟨rfl, _, World.drewN_drewN _ _ _⟩ | exact ⟨rfl, _, Eq.trans (World.drewN_drewN _ _ _) (congrArg (World.drewN _) (Nat.add_assoc _ _ _))⟩); have p9 : 0 ≤ (4 : Int) := (by omega); have q9 : 4 < a0.size := (by have : (4 : Int) < (a0.size : Int) := of_decide_eq_true (by first | (with_reducible assumption) | assumption); omega); have hx9 : ∀ h : 4 < a0.size, ((a0[4]'h).toNat : Int) = bt a0 4 := bt_at a0 4; clear p9; have qi9 : (4 < (a0.size : Int)) = True := eq_true (of_decide_eq_true (by first | (with_reducible assumption) | assumption)); replace q9 := eq_true q9; have p11 : 0 ≤ (5 : Int) := (by omega); have q11 : 5 < a0.size := (by have : (5 : Int) < (a0.size : Int) := of_decide_eq_true (by first | (with_reducible assumption) | assumption); omega); have hx11 : ∀ h : 5 < a0.size, ((a0[5]'h).toNat : Int) = bt a0 5 := bt_at a0 5; clear p11; have qi11 : (5 < (a0.size : Int)) = True := eq_true (of_decide_eq_true (by first | (with_reducible assumption) | assumption)); replace q11 := eq_true q11)))
            (try simp only [Act.put, List.setIfInBounds_toArray, List.set_cons_zero, List.set_cons_succ])
            generalize hfd_ : ((a0.size : Int) == 72) = fd_ at HC12 ⊢
            go_cut [60] (fun v60 wc => ∃ (kq : Nat) (x60_11 : Bool), v60 = .bool x60_11 ∧ Aside0 (signalboxref03_Decode.j1 kq a0 t198 (wrap64 (bt a0 4)) (wrap64 (bt a0 5)) fd_ x60_11 = some (r1, r2, r3, r4, r5)) ∧ Aside0 (kq ≤ kj1) ∧ Aside0 (wc.heap[gb197]? = some (.cells #[.int .i64 0, .int .i64 0, .int .i64 0, .string (⟨#[]⟩ : ByteArray)] 23 (0, 0))) ∧ Aside0 (Below w.heap.size w wc))
            case first =>
              have H := HC12.out
              clear HC12
              by_cases c13 : 6 < (a0.size : Int)
              · rw [if_pos c13] at H
                have c13b0 : decide (6 < (a0.size : Int)) = true := decide_eq_true c13
                have c13b1 : decide (6 < a0.size) = true := decide_eq_true (by omega)
                clear c13
                (first | rw [c13b0] | (simp only [i64_w, i32_w]; rw [c13b0]) | skip)
                by_cases c15 : (bt a0 6) = 0
                · rw [if_pos c15] at H
                  have c15b0 : ((bt a0 6) == 0) = true := beq_iff_eq.mpr c15
                  have c15b1 : ((bt a0 6) != 0) = false := bne_eq_false_iff_eq.mpr c15
                  clear c15
                  by_cases c16 : 7 < (a0.size : Int)
                  · rw [if_pos c16] at H
                    have c16b0 : decide (7 < (a0.size : Int)) = true := decide_eq_true c16
                    have c16b1 : decide (7 < a0.size) = true := decide_eq_true (by omega)
                    clear c16
                    by_cases c18 : (bt a0 7) = 0
                    · rw [if_pos c18] at H
                      have c18b0 : ((bt a0 7) == 0) = true := beq_iff_eq.mpr c18
                      have c18b1 : ((bt a0 7) != 0) = false := bne_eq_false_iff_eq.mpr c18
                      clear c18
                      by_cases c19 : (fd_ != ((wrap64 (Int.tdiv (wrap64 (bt a0 5)) 4)) == 1)) = true
                      · rw [if_pos c19] at H
                        have c19b0 : (fd_ != ((wrap64 (Int.tdiv (wrap64 (bt a0 5)) 4)) == 1)) = true := c19
                        (try (have c19b1 : decide (fd_ = ((wrap64 (Int.tdiv (wrap64 (bt a0 5)) 4)) == 1)) = false := by simpa using c19))
                        (try (have c19b2 : (fd_ == ((wrap64 (Int.tdiv (wrap64 (bt a0 5)) 4)) == 1)) = false := by simpa using c19))
                        (try (have c19b3 : ¬ (fd_ = ((wrap64 (Int.tdiv (wrap64 (bt a0 5)) 4)) == 1)) := by simpa using c19))
                        clear c19
                        have H' := Aside0.mk H
                        clear H
                        have p14 : 0 ≤ (6 : Int) := (by omega)
                        have q14 : 6 < a0.size := (by have : (6 : Int) < (a0.size : Int) := of_decide_eq_true (by first | (with_reducible assumption) | assumption); omega)
                        have hx14 : ∀ h : 6 < a0.size, ((a0[6]'h).toNat : Int) = bt a0 6 := bt_at a0 6
                        clear p14
                        have qi14 : (6 < (a0.size : Int)) = True := eq_true (of_decide_eq_true (by first | (with_reducible assumption) | assumption))
                        replace q14 := eq_true q14
                        have p17 : 0 ≤ (7 : Int) := (by omega)
                        have q17 : 7 < a0.size := (by have : (7 : Int) < (a0.size : Int) := of_decide_eq_true (by first | (with_reducible assumption) | assumption); omega)
                        have hx17 : ∀ h : 7 < a0.size, ((a0[7]'h).toNat : Int) = bt a0 7 := bt_at a0 7
                        clear p17
                        have qi17 : (7 < (a0.size : Int)) = True := eq_true (of_decide_eq_true (by first | (with_reducible assumption) | assumption))
                        replace q17 := eq_true q17
                        go_wp2
                        repeat (go_quiet (fail); try go_wp2)
                        go_meet
                        case rel => exact ⟨_, (true), (by first | rfl | (simp; done) | (simp [*]; done)), H', ⟨by have := HJ1.out; first | omega | exact Nat.le_refl _⟩, ⟨by (with_reducible repeat (first | refine blk_drewN ?_ _ | refine blk_drew ?_ | refine blk_alloc ?_ _)); exact BK197.out⟩, ⟨by repeat (first | (with_reducible first | exact HB.out | apply below_alloc | apply pw_below_drewN | apply below_drew1 | refine below_set ?_ GE197.out) | exact HB.out)⟩⟩
                      · rw [if_neg c19] at H
                        have c19b0 : (fd_ != ((wrap64 (Int.tdiv (wrap64 (bt a0 5)) 4)) == 1)) = false := by simpa using c19
                        (try (have c19b1 : decide (fd_ = ((wrap64 (Int.tdiv (wrap64 (bt a0 5)) 4)) == 1)) = true := by simpa using c19))
                        (try (have c19b2 : (fd_ == ((wrap64 (Int.tdiv (wrap64 (bt a0 5)) 4)) == 1)) = true := by simpa using c19))
                        clear c19
                        by_cases c20 : ((a0.size : Int) = 72)
                        · rw [if_pos c20] at H
                          have c20b0 : fd_ = true := hfd_.symm.trans (beq_iff_eq.mpr c20)
                          have c19x_ : ((wrap64 (Int.tdiv (wrap64 (bt a0 5)) 4)) == 1) = true := by have q := c19b0; rw [c20b0] at q; simpa using q
                          (try have c19z_ : (wrap64 (Int.tdiv (wrap64 (bt a0 5)) 4)) = 1 := by simpa using c19x_)
                          (try have c19w_ : ¬ (wrap64 (Int.tdiv (wrap64 (bt a0 5)) 4)) = 1 := by simpa using c19x_)
                          have c20b1 : ((a0.size : Int) != 72) = false := bne_eq_false_iff_eq.mpr c20
                          clear c20
                          have H' := Aside0.mk H
                          clear H
                          have p14 : 0 ≤ (6 : Int) := (by omega)
                          have q14 : 6 < a0.size := (by have : (6 : Int) < (a0.size : Int) := of_decide_eq_true (by first | (with_reducible assumption) | assumption); omega)
                          have hx14 : ∀ h : 6 < a0.size, ((a0[6]'h).toNat : Int) = bt a0 6 := bt_at a0 6
                          clear p14
                          have qi14 : (6 < (a0.size : Int)) = True := eq_true (of_decide_eq_true (by first | (with_reducible assumption) | assumption))
                          replace q14 := eq_true q14
                          have p17 : 0 ≤ (7 : Int) := (by omega)
                          have q17 : 7 < a0.size := (by have : (7 : Int) < (a0.size : Int) := of_decide_eq_true (by first | (with_reducible assumption) | assumption); omega)
                          have hx17 : ∀ h : 7 < a0.size, ((a0[7]'h).toNat : Int) = bt a0 7 := bt_at a0 7
                          clear p17
                          have qi17 : (7 < (a0.size : Int)) = True := eq_true (of_decide_eq_true (by first | (with_reducible assumption) | assumption))
                          replace q17 := eq_true q17
                          go_wp2
                          repeat (go_quiet (fail); try go_wp2)
                          subst c20b0
                          go_meet
                          case rel => exact ⟨_, (decide ((wrap64 (bt a0 5)) > 7)), (by first | rfl | (simp; done) | (simp [*]; done)), H', ⟨by have := HJ1.out; first | omega | exact Nat.le_refl _⟩, ⟨by (with_reducible repeat (first | refine blk_drewN ?_ _ | refine blk_drew ?_ | refine blk_alloc ?_ _)); exact BK197.out⟩, ⟨by repeat (first | (with_reducible first | exact HB.out | apply below_alloc | apply pw_below_drewN | apply below_drew1 | refine below_set ?_ GE197.out) | exact HB.out)⟩⟩
                        · rw [if_neg c20] at H
                          have c20b0 : fd_ = false := hfd_.symm.trans (beq_eq_false_iff_ne.mpr c20)
                          have c19x_ : ((wrap64 (Int.tdiv (wrap64 (bt a0 5)) 4)) == 1) = false := by have q := c19b0; rw [c20b0] at q; simpa using q
                          (try have c19z_ : (wrap64 (Int.tdiv (wrap64 (bt a0 5)) 4)) = 1 := by simpa using c19x_)
                          (try have c19w_ : ¬ (wrap64 (Int.tdiv (wrap64 (bt a0 5)) 4)) = 1 := by simpa using c19x_)
                          have c20b1 : ((a0.size : Int) != 72) = true := bne_iff_ne.mpr c20
                          by_cases c21 : (wrap64 (bt a0 5)) = 0
                          · rw [if_pos c21] at H
                            have c21b0 : ((wrap64 (bt a0 5)) == 0) = true := beq_iff_eq.mpr c21
                            have c21b1 : ((wrap64 (bt a0 5)) != 0) = false := bne_eq_false_iff_eq.mpr c21
                            clear c21
                            have H' := Aside0.mk H
                            clear H
                            have p14 : 0 ≤ (6 : Int) := (by omega)
                            have q14 : 6 < a0.size := (by have : (6 : Int) < (a0.size : Int) := of_decide_eq_true (by first | (with_reducible assumption) | assumption); omega)
                            have hx14 : ∀ h : 6 < a0.size, ((a0[6]'h).toNat : Int) = bt a0 6 := bt_at a0 6
                            clear p14
                            have qi14 : (6 < (a0.size : Int)) = True := eq_true (of_decide_eq_true (by first | (with_reducible assumption) | assumption))
                            replace q14 := eq_true q14
                            have p17 : 0 ≤ (7 : Int) := (by omega)
                            have q17 : 7 < a0.size := (by have : (7 : Int) < (a0.size : Int) := of_decide_eq_true (by first | (with_reducible assumption) | assumption); omega)
                            have hx17 : ∀ h : 7 < a0.size, ((a0[7]'h).toNat : Int) = bt a0 7 := bt_at a0 7
                            clear p17
                            have qi17 : (7 < (a0.size : Int)) = True := eq_true (of_decide_eq_true (by first | (with_reducible assumption) | assumption))
                            replace q17 := eq_true q17
                            go_wp2
                            repeat (go_quiet (fail); try go_wp2)
                            subst c20b0
                            go_meet
                            case rel => exact ⟨_, (decide ((wrap64 (bt a0 5)) > 7)), (by first | rfl | (simp; done) | (simp [*]; done)), H', ⟨by have := HJ1.out; first | omega | exact Nat.le_refl _⟩, ⟨by (with_reducible repeat (first | refine blk_drewN ?_ _ | refine blk_drew ?_ | refine blk_alloc ?_ _)); exact BK197.out⟩, ⟨by repeat (first | (with_reducible first | exact HB.out | apply below_alloc | apply pw_below_drewN | apply below_drew1 | refine below_set ?_ GE197.out) | exact HB.out)⟩⟩
                          · rw [if_neg c21] at H
                            have c21b0 : ((wrap64 (bt a0 5)) == 0) = false := beq_eq_false_iff_ne.mpr c21
                            have c21b1 : ((wrap64 (bt a0 5)) != 0) = true := bne_iff_ne.mpr c21
                            have H' := Aside0.mk H
                            clear H
                            have p14 : 0 ≤ (6 : Int) := (by omega)
                            have q14 : 6 < a0.size := (by have : (6 : Int) < (a0.size : Int) := of_decide_eq_true (by first | (with_reducible assumption) | assumption); omega)
                            have hx14 : ∀ h : 6 < a0.size, ((a0[6]'h).toNat : Int) = bt a0 6 := bt_at a0 6
                            clear p14
                            have qi14 : (6 < (a0.size : Int)) = True := eq_true (of_decide_eq_true (by first | (with_reducible assumption) | assumption))
                            replace q14 := eq_true q14
                            have p17 : 0 ≤ (7 : Int) := (by omega)
                            have q17 : 7 < a0.size := (by have : (7 : Int) < (a0.size : Int) := of_decide_eq_true (by first | (with_reducible assumption) | assumption); omega)
                            have hx17 : ∀ h : 7 < a0.size, ((a0[7]'h).toNat : Int) = bt a0 7 := bt_at a0 7
                            clear p17
                            have qi17 : (7 < (a0.size : Int)) = True := eq_true (of_decide_eq_true (by first | (with_reducible assumption) | assumption))
                            replace q17 := eq_true q17
                            go_wp2
                            repeat (go_quiet (fail); try go_wp2)
                            subst c20b0
                            go_meet
                            case rel => exact ⟨_, (true), (by first | rfl | (simp; done) | (simp [*]; done)), H', ⟨by have := HJ1.out; first | omega | exact Nat.le_refl _⟩, ⟨by (with_reducible repeat (first | refine blk_drewN ?_ _ | refine blk_drew ?_ | refine blk_alloc ?_ _)); exact BK197.out⟩, ⟨by repeat (first | (with_reducible first | exact HB.out | apply below_alloc | apply pw_below_drewN | apply below_drew1 | refine below_set ?_ GE197.out) | exact HB.out)⟩⟩
                    · rw [if_neg c18] at H
                      have c18b0 : ((bt a0 7) == 0) = false := beq_eq_false_iff_ne.mpr c18
                      have c18b1 : ((bt a0 7) != 0) = true := bne_iff_ne.mpr c18
                      have H' := Aside0.mk H
                      clear H
                      have p14 : 0 ≤ (6 : Int) := (by omega)
                      have q14 : 6 < a0.size := (by have : (6 : Int) < (a0.size : Int) := of_decide_eq_true (by first | (with_reducible assumption) | assumption); omega)
                      have hx14 : ∀ h : 6 < a0.size, ((a0[6]'h).toNat : Int) = bt a0 6 := bt_at a0 6
                      clear p14
                      have qi14 : (6 < (a0.size : Int)) = True := eq_true (of_decide_eq_true (by first | (with_reducible assumption) | assumption))
                      replace q14 := eq_true q14
                      have p17 : 0 ≤ (7 : Int) := (by omega)
                      have q17 : 7 < a0.size := (by have : (7 : Int) < (a0.size : Int) := of_decide_eq_true (by first | (with_reducible assumption) | assumption); omega)
                      have hx17 : ∀ h : 7 < a0.size, ((a0[7]'h).toNat : Int) = bt a0 7 := bt_at a0 7
                      clear p17
                      have qi17 : (7 < (a0.size : Int)) = True := eq_true (of_decide_eq_true (by first | (with_reducible assumption) | assumption))
                      replace q17 := eq_true q17
                      go_wp2
                      repeat (go_quiet (fail); try go_wp2)
                      go_meet
                      case rel => exact ⟨_, (true), (by first | rfl | (simp; done) | (simp [*]; done)), H', ⟨by have := HJ1.out; first | omega | exact Nat.le_refl _⟩, ⟨by (with_reducible repeat (first | refine blk_drewN ?_ _ | refine blk_drew ?_ | refine blk_alloc ?_ _)); exact BK197.out⟩, ⟨by repeat (first | (with_reducible first | exact HB.out | apply below_alloc | apply pw_below_drewN | apply below_drew1 | refine below_set ?_ GE197.out) | exact HB.out)⟩⟩
                  · rw [if_neg c16] at H
                    exact absurd H (by simp)
                · rw [if_neg c15] at H
                  have c15b0 : ((bt a0 6) == 0) = false := beq_eq_false_iff_ne.mpr c15
                  have c15b1 : ((bt a0 6) != 0) = true := bne_iff_ne.mpr c15
                  have H' := Aside0.mk H
                  clear H
                  have p14 : 0 ≤ (6 : Int) := (by omega)
                  have q14 : 6 < a0.size := (by have : (6 : Int) < (a0.size : Int) := of_decide_eq_true (by first | (with_reducible assumption) | assumption); omega)
                  have hx14 : ∀ h : 6 < a0.size, ((a0[6]'h).toNat : Int) = bt a0 6 := bt_at a0 6
                  clear p14
                  have qi14 : (6 < (a0.size : Int)) = True := eq_true (of_decide_eq_true (by first | (with_reducible assumption) | assumption))
                  replace q14 := eq_true q14
                  go_wp2
                  repeat (go_quiet (fail); try go_wp2)
                  go_meet
                  case rel => exact ⟨_, (true), (by first | rfl | (simp; done) | (simp [*]; done)), H', ⟨by have := HJ1.out; first | omega | exact Nat.le_refl _⟩, ⟨by (with_reducible repeat (first | refine blk_drewN ?_ _ | refine blk_drew ?_ | refine blk_alloc ?_ _)); exact BK197.out⟩, ⟨by repeat (first | (with_reducible first | exact HB.out | apply below_alloc | apply pw_below_drewN | apply below_drew1 | refine below_set ?_ GE197.out) | exact HB.out)⟩⟩
              · rw [if_neg c13] at H
                exact absurd H (by simp)
            case rest =>
              clear HC12
              try clear c1
              try clear p1
              try clear q1
              try clear hx1
              try clear qi1
              try clear c2
              try clear p2
              try clear c4
              try clear c4b0
              try clear c4b1
              try clear c5
              try clear p6
              try clear c8
              try clear c8b0
              try clear c8b1
              try clear p9
              try clear q9
              try clear hx9
              try clear qi9
              try clear c10
              try clear c10b0
              try clear c10b1
              try clear p11
              try clear q11
              try clear hx11
              try clear qi11
              try clear c13
              try clear c13b0
              try clear c13b1
              try clear p14
              try clear q14
              try clear hx14
              try clear qi14
              try clear c15
              try clear c15b0
              try clear c15b1
              try clear c16
              try clear c16b0
              try clear c16b1
              try clear p17
              try clear q17
              try clear hx17
              try clear qi17
              try clear c18
              try clear c18b0
              try clear c18b1
              try clear c19
              try clear c19b0
              try clear c19b1
              try clear c19b2
              try clear c20
              try clear c20b0
              try clear c20b1
              try clear c21
              try clear c21b0
              try clear c21b1
              try clear hcz6_0
              try clear hcz6_1
              try clear hcz6_2
              try clear hcz6_3
              try clear hfz6_0
              try clear hfz6_1
              try clear hfz6_2
              try clear hfz6_3
              try clear p11
              try clear p14
              try clear p17
              try clear p2
              try clear p9
              try clear q11
              try clear q14
              try clear q17
              try clear q9
              try clear HA
              try clear HJ11
              try clear BK197
              try clear HB
              obtain ⟨kq, x60_11, rfl, HA, HJ11, BK197, HB⟩ := hcut
              cases kq with
              | zero => exact absurd HA.out (by simp [signalboxref03_Decode.j1])
              | succ kj11 =>
                have H := HA.out
                clear HA
                simp only [signalboxref03_Decode.j1] at H
                by_cases c22 : x60_11 = true
                · subst c22
                  have H1 : (some (0, 0, 0, (⟨#[]⟩ : ByteArray), false)) = some (r1, r2, r3, r4, r5) := by rw [if_pos rfl] at H; exact H
                  clear H
                  have H := H1
                  clear H1
                  simp only [Option.some.injEq, Prod.mk.injEq] at H
                  obtain ⟨rfl, rfl, rfl, rfl, rfl⟩ := H
                  have hcz23_0 : wc.cell? ⟨gb197, 0, none⟩ = some (.int .i64 0) := (blk_cell BK197.out 0).trans rfl
                  have hcz23_1 : wc.cell? ⟨gb197, 1, none⟩ = some (.int .i64 0) := (blk_cell BK197.out 1).trans rfl
                  have hcz23_2 : wc.cell? ⟨gb197, 2, none⟩ = some (.int .i64 0) := (blk_cell BK197.out 2).trans rfl
                  have hcz23_3 : wc.cell? ⟨gb197, 3, none⟩ = some (.string (⟨#[]⟩ : ByteArray)) := (blk_cell BK197.out 3).trans rfl
                  have hfz23_0 := blk_frozen BK197.out 0
                  have hfz23_1 := blk_frozen BK197.out 1
                  have hfz23_2 := blk_frozen BK197.out 2
                  have hfz23_3 := blk_frozen BK197.out 3
                  go_wp2
                  repeat (go_quiet (fail); try go_wp2)
                  refine bodyPost_ret (results_ct rfl _ _ gb197 23 #[.int .i64 0, .int .i64 0, .int .i64 0, .string (⟨#[]⟩ : ByteArray)] (0, 0) _ rfl (by (with_reducible repeat (first | refine blk_drewN ?_ _ | refine blk_drew ?_ | refine blk_alloc ?_ _)); refine blk_put (cs := #[.int .i64 0, .int .i64 0, .int .i64 0, .string (⟨#[]⟩ : ByteArray)]) ?_ 3 _ rfl; (with_reducible repeat (first | refine blk_drewN ?_ _ | refine blk_drew ?_ | refine blk_alloc ?_ _)); refine blk_put (cs := #[.int .i64 0, .int .i64 0, .int .i64 0, .string (⟨#[]⟩ : ByteArray)]) ?_ 2 _ rfl; (with_reducible repeat (first | refine blk_drewN ?_ _ | refine blk_drew ?_ | refine blk_alloc ?_ _)); refine blk_put (cs := #[.int .i64 0, .int .i64 0, .int .i64 0, .string (⟨#[]⟩ : ByteArray)]) ?_ 1 _ rfl; (with_reducible repeat (first | refine blk_drewN ?_ _ | refine blk_drew ?_ | refine blk_alloc ?_ _)); refine blk_put (cs := #[.int .i64 0, .int .i64 0, .int .i64 0, .string (⟨#[]⟩ : ByteArray)]) ?_ 0 _ rfl; (with_reducible repeat (first | refine blk_drewN ?_ _ | refine blk_drew ?_ | refine blk_alloc ?_ _)); exact BK197.out) Try.underlying23 rfl (by kernel_rfl)) rfl ?_
                  exact ⟨by first | rfl | (simp [errW_none, errW_some] <;> rfl) | (simp [*, errW_none, errW_some] <;> rfl), by repeat (first | (with_reducible first | exact HB.out | apply below_alloc | apply pw_below_drewN | apply below_drew1 | refine below_set ?_ GE197.out) | exact HB.out)⟩
                · replace c22 := Bool.eq_false_iff.mpr c22
                  subst c22
                  have H1 : (if (wrap64 (bt a0 4)) > (wrap64 ((a0.size : Int) - 8)) then (signalboxref03_Decode.j2 kj11 a0 t198 (wrap64 (bt a0 4)) (wrap64 (bt a0 5)) fd_ true) else ((signalboxref03_zero.f kj11 a0 (wrap64 (8 + (wrap64 (bt a0 4)))) (a0.size : Int)).bind fun t200 => (signalboxref03_Decode.j2 kj11 a0 t198 (wrap64 (bt a0 4)) (wrap64 (bt a0 5)) fd_ (!t200)))) = some (r1, r2, r3, r4, r5) := by rw [if_neg (show ¬ (false = true) by decide)] at H; exact H
                  clear H
                  have H := H1
                  clear H1
                  have HC24 := Aside0.mk H
                  clear H
                  go_upto_region 8 with (fail)
                  repeat (go_quiet (fail); go_upto_region 8 with (fail))
                  go_cut [75] (fun v75 wc => ∃ (kq : Nat) (x75_23 : Bool), v75 = .bool x75_23 ∧ Aside0 (signalboxref03_Decode.j2 kq a0 t198 (wrap64 (bt a0 4)) (wrap64 (bt a0 5)) fd_ x75_23 = some (r1, r2, r3, r4, r5)) ∧ Aside0 (kq ≤ kj11) ∧ Aside0 (wc.heap[gb197]? = some (.cells #[.int .i64 0, .int .i64 0, .int .i64 0, .string (⟨#[]⟩ : ByteArray)] 23 (0, 0))) ∧ Aside0 (Below w.heap.size w wc))
                  case first =>
                    have H := HC24.out
                    clear HC24
                    by_cases c25 : (wrap64 (bt a0 4)) > (wrap64 ((a0.size : Int) - 8))
                    · rw [if_pos c25] at H
                      have c25b0 : decide ((wrap64 ((a0.size : Int) - 8)) < (wrap64 (bt a0 4))) = true := decide_eq_true c25
                      clear c25
                      (first | rw [c25b0] | (simp only [i64_w, i32_w]; rw [c25b0]) | skip)
                      have H' := Aside0.mk H
                      clear H
                      go_wp2
                      repeat (go_quiet (fail); try go_wp2)
                      go_meet
                      case rel => exact ⟨_, (true), (by first | rfl | (simp; done) | (simp [*]; done)), H', ⟨by have := HJ1.out; have := HJ11.out; first | omega | exact Nat.le_refl _⟩, ⟨by (with_reducible repeat (first | refine blk_drewN ?_ _ | refine blk_drew ?_ | refine blk_alloc ?_ _)); exact BK197.out⟩, ⟨by repeat (first | (with_reducible first | exact HB.out | apply below_alloc | apply pw_below_drewN | apply below_drew1 | refine below_set ?_ GE197.out) | exact HB.out)⟩⟩
                    · rw [if_neg c25] at H
                      have c25b0 : decide ((wrap64 ((a0.size : Int) - 8)) < (wrap64 (bt a0 4))) = false := decide_eq_false c25
                      clear c25
                      (first | rw [c25b0] | (simp only [i64_w, i32_w]; rw [c25b0]) | skip)
                      replace H := Option.bind_eq_some_iff.mp H
                      obtain ⟨t200, A260, H⟩ := H
                      replace H : (signalboxref03_Decode.j2 kj11 a0 t198 (wrap64 (bt a0 4)) (wrap64 (bt a0 5)) fd_ (!t200)) = some (r1, r2, r3, r4, r5) := H
                      have A26 := Aside0.mk A260
                      clear A260
                      have H' := Aside0.mk H
                      clear H
                      go_wp2_with (first | (go_at_call 32; (with_reducible refine (signalboxref03_zero.calls kj11 a0 (wrap64 (8 + (wrap64 (bt a0 4)))) (a0.size : Int) t200 _ A26.out).mono ?_); rintro e w' ⟨rfl, ⟨nd, rfl⟩⟩; (try first | exact ⟨rfl, _, World.drewN_drewN _ _ _⟩ | exact ⟨rfl, _, Eq.trans (World.drewN_drewN _ _ _) (congrArg (World.drewN _) (Nat.add_assoc _ _ _))⟩)))
                      repeat (go_quiet (first | (go_at_call 32; (with_reducible refine (signalboxref03_zero.calls kj11 a0 (wrap64 (8 + (wrap64 (bt a0 4)))) (a0.size : Int) t200 _ A26.out).mono ?_); rintro e w' ⟨rfl, ⟨nd, rfl⟩⟩; (try first | exact ⟨rfl, _, World.drewN_drewN _ _ _⟩ | exact ⟨rfl, _, Eq.trans (World.drewN_drewN _ _ _) (congrArg (World.drewN _) (Nat.add_assoc _ _ _))⟩))); try go_wp2_with (first | (go_at_call 32; (with_reducible refine (signalboxref03_zero.calls kj11 a0 (wrap64 (8 + (wrap64 (bt a0 4)))) (a0.size : Int) t200 _ A26.out).mono ?_); rintro e w' ⟨rfl, ⟨nd, rfl⟩⟩; (try first | exact ⟨rfl, _, World.drewN_drewN _ _ _⟩ | exact ⟨rfl, _, Eq.trans (World.drewN_drewN _ _ _) (congrArg (World.drewN _) (Nat.add_assoc _ _ _))⟩))))
                      go_meet
                      case rel => exact ⟨_, (!t200), (by first | rfl | (simp; done) | (simp [*]; done)), H', ⟨by have := HJ1.out; have := HJ11.out; first | omega | exact Nat.le_refl _⟩, ⟨by (with_reducible repeat (first | refine blk_drewN ?_ _ | refine blk_drew ?_ | refine blk_alloc ?_ _)); exact BK197.out⟩, ⟨by repeat (first | (with_reducible first | exact HB.out | apply below_alloc | apply pw_below_drewN | apply below_drew1 | refine below_set ?_ GE197.out) | exact HB.out)⟩⟩
                  case rest =>
                    clear HC24
                    try clear c1
                    try clear p1
                    try clear q1
                    try clear hx1
                    try clear qi1
                    try clear c2
                    try clear p2
                    try clear c4
                    try clear c4b0
                    try clear c4b1
                    try clear c5
                    try clear p6
                    try clear c8
                    try clear c8b0
                    try clear c8b1
                    try clear p9
                    try clear q9
                    try clear hx9
                    try clear qi9
                    try clear c10
                    try clear c10b0
                    try clear c10b1
                    try clear p11
                    try clear q11
                    try clear hx11
                    try clear qi11
                    try clear c13
                    try clear c13b0
                    try clear c13b1
                    try clear p14
                    try clear q14
                    try clear hx14
                    try clear qi14
                    try clear c15
                    try clear c15b0
                    try clear c15b1
                    try clear c16
                    try clear c16b0
                    try clear c16b1
                    try clear p17
                    try clear q17
                    try clear hx17
                    try clear qi17
                    try clear c18
                    try clear c18b0
                    try clear c18b1
                    try clear c19
                    try clear c19b0
                    try clear c19b1
                    try clear c19b2
                    try clear c20
                    try clear c20b0
                    try clear c20b1
                    try clear c21
                    try clear c21b0
                    try clear c21b1
                    try clear c22
                    try clear c25
                    try clear c25b0
                    try clear hcz23_0
                    try clear hcz23_1
                    try clear hcz23_2
                    try clear hcz23_3
                    try clear hcz6_0
                    try clear hcz6_1
                    try clear hcz6_2
                    try clear hcz6_3
                    try clear hfz23_0
                    try clear hfz23_1
                    try clear hfz23_2
                    try clear hfz23_3
                    try clear hfz6_0
                    try clear hfz6_1
                    try clear hfz6_2
                    try clear hfz6_3
                    try clear p1
                    try clear p11
                    try clear p14
                    try clear p17
                    try clear p2
                    try clear p6
                    try clear p9
                    try clear q1
                    try clear q11
                    try clear q14
                    try clear q17
                    try clear q9
                    try clear HA
                    try clear HJ23
                    try clear BK197
                    try clear HB
                    obtain ⟨kq, x75_23, rfl, HA, HJ23, BK197, HB⟩ := hcut
                    cases kq with
                    | zero => exact absurd HA.out (by simp [signalboxref03_Decode.j2])
                    | succ kj23 =>
                      have H := HA.out
                      clear HA
                      simp only [signalboxref03_Decode.j2] at H
                      by_cases c27 : x75_23 = true
                      · subst c27
                        have H1 : (some (0, 0, 0, (⟨#[]⟩ : ByteArray), false)) = some (r1, r2, r3, r4, r5) := by rw [if_pos rfl] at H; exact H
                        clear H
                        have H := H1
                        clear H1
                        simp only [Option.some.injEq, Prod.mk.injEq] at H
                        obtain ⟨rfl, rfl, rfl, rfl, rfl⟩ := H
                        have hcz28_0 : wc.cell? ⟨gb197, 0, none⟩ = some (.int .i64 0) := (blk_cell BK197.out 0).trans rfl
                        have hcz28_1 : wc.cell? ⟨gb197, 1, none⟩ = some (.int .i64 0) := (blk_cell BK197.out 1).trans rfl
                        have hcz28_2 : wc.cell? ⟨gb197, 2, none⟩ = some (.int .i64 0) := (blk_cell BK197.out 2).trans rfl
                        have hcz28_3 : wc.cell? ⟨gb197, 3, none⟩ = some (.string (⟨#[]⟩ : ByteArray)) := (blk_cell BK197.out 3).trans rfl
                        have hfz28_0 := blk_frozen BK197.out 0
                        have hfz28_1 := blk_frozen BK197.out 1
                        have hfz28_2 := blk_frozen BK197.out 2
                        have hfz28_3 := blk_frozen BK197.out 3
                        go_wp2
                        repeat (go_quiet (fail); try go_wp2)
                        refine bodyPost_ret (results_ct rfl _ _ gb197 23 #[.int .i64 0, .int .i64 0, .int .i64 0, .string (⟨#[]⟩ : ByteArray)] (0, 0) _ rfl (by (with_reducible repeat (first | refine blk_drewN ?_ _ | refine blk_drew ?_ | refine blk_alloc ?_ _)); refine blk_put (cs := #[.int .i64 0, .int .i64 0, .int .i64 0, .string (⟨#[]⟩ : ByteArray)]) ?_ 3 _ rfl; (with_reducible repeat (first | refine blk_drewN ?_ _ | refine blk_drew ?_ | refine blk_alloc ?_ _)); refine blk_put (cs := #[.int .i64 0, .int .i64 0, .int .i64 0, .string (⟨#[]⟩ : ByteArray)]) ?_ 2 _ rfl; (with_reducible repeat (first | refine blk_drewN ?_ _ | refine blk_drew ?_ | refine blk_alloc ?_ _)); refine blk_put (cs := #[.int .i64 0, .int .i64 0, .int .i64 0, .string (⟨#[]⟩ : ByteArray)]) ?_ 1 _ rfl; (with_reducible repeat (first | refine blk_drewN ?_ _ | refine blk_drew ?_ | refine blk_alloc ?_ _)); refine blk_put (cs := #[.int .i64 0, .int .i64 0, .int .i64 0, .string (⟨#[]⟩ : ByteArray)]) ?_ 0 _ rfl; (with_reducible repeat (first | refine blk_drewN ?_ _ | refine blk_drew ?_ | refine blk_alloc ?_ _)); exact BK197.out) Try.underlying23 rfl (by kernel_rfl)) rfl ?_
                        exact ⟨by first | rfl | (simp [errW_none, errW_some] <;> rfl) | (simp [*, errW_none, errW_some] <;> rfl), by repeat (first | (with_reducible first | exact HB.out | apply below_alloc | apply pw_below_drewN | apply below_drew1 | refine below_set ?_ GE197.out) | exact HB.out)⟩
                      · replace c27 := Bool.eq_false_iff.mpr c27
                        subst c27
                        have H1 : (if 8 ≤ (wrap64 (8 + (wrap64 (bt a0 4)))) then (if (wrap64 (8 + (wrap64 (bt a0 4)))) ≤ (a0.size : Int) then ((signalboxref02_Of.f kj23 t198 (a0.extract 8 ((wrap64 (8 + (wrap64 (bt a0 4)))) : Int).toNat)).bind fun bt201 => (if fd_ = true then (if t198 ≥ 2147483648 then (signalboxref03_Decode.j3 kj23 a0 t198 (wrap64 (bt a0 5)) (wrap64 (Int.tmod t198 536870912)) 9 (wrap64 (bt a0 4)) (a0.extract 8 ((wrap64 (8 + (wrap64 (bt a0 4)))) : Int).toNat)) else (signalboxref03_Decode.j3 kj23 a0 t198 (wrap64 (bt a0 5)) (wrap64 (Int.tmod t198 536870912)) 8 (wrap64 (bt a0 4)) (a0.extract 8 ((wrap64 (8 + (wrap64 (bt a0 4)))) : Int).toNat))) else (signalboxref03_Decode.j4 kj23 a0 bt201.2.2.2.2 bt201.1 bt201.2.1 bt201.2.2.1 bt201.2.2.2.1))) else (none)) else (none)) = some (r1, r2, r3, r4, r5) := by rw [if_neg (show ¬ (false = true) by decide)] at H; exact H
                        clear H
                        have H := H1
                        clear H1
                        by_cases c29 : 8 ≤ (wrap64 (8 + (wrap64 (bt a0 4))))
                        · rw [if_pos c29] at H
                          have c29b0 := eq_true c29
                          have c29b1 : decide (8 ≤ (wrap64 (8 + (wrap64 (bt a0 4))))) = true := decide_eq_true c29
                          by_cases c30 : (wrap64 (8 + (wrap64 (bt a0 4)))) ≤ (a0.size : Int)
                          · rw [if_pos c30] at H
                            have c30b0 := eq_true c30
                            have c30b1 : decide ((wrap64 (8 + (wrap64 (bt a0 4)))) ≤ (a0.size : Int)) = true := decide_eq_true c30
                            replace H := Option.bind_eq_some_iff.mp H
                            obtain ⟨⟨t201, t202, t203, t204, t205⟩, A310, H⟩ := H
                            replace H : (if fd_ = true then (if t198 ≥ 2147483648 then (signalboxref03_Decode.j3 kj23 a0 t198 (wrap64 (bt a0 5)) (wrap64 (Int.tmod t198 536870912)) 9 (wrap64 (bt a0 4)) (a0.extract 8 ((wrap64 (8 + (wrap64 (bt a0 4)))) : Int).toNat)) else (signalboxref03_Decode.j3 kj23 a0 t198 (wrap64 (bt a0 5)) (wrap64 (Int.tmod t198 536870912)) 8 (wrap64 (bt a0 4)) (a0.extract 8 ((wrap64 (8 + (wrap64 (bt a0 4)))) : Int).toNat))) else (signalboxref03_Decode.j4 kj23 a0 t205 t201 t202 t203 t204)) = some (r1, r2, r3, r4, r5) := H
                            have A31 := Aside0.mk A310
                            clear A310
                            have HC32 := Aside0.mk H
                            clear H
                            go_upto_if 86 with (first | (go_at_call 33; (with_reducible refine (signalboxref02_Of.calls kj23 t198 (a0.extract 8 ((wrap64 (8 + (wrap64 (bt a0 4)))) : Int).toNat) t201 t202 t203 t204 t205 _ A31.out).mono ?_); rintro e w33 ⟨rfl, hb⟩; have n0_ := Aside0.mk (blk_below (g := gb197) (o := .cells #[.int .i64 0, .int .i64 0, .int .i64 0, .string (⟨#[]⟩ : ByteArray)] 23 (0, 0)) (by (with_reducible repeat (first | refine blk_drewN ?_ _ | refine blk_drew ?_ | refine blk_alloc ?_ _)); exact BK197.out) hb); have n1_ := Aside0.mk (below_step (by repeat (first | (with_reducible first | exact HB.out | apply below_alloc | apply pw_below_drewN | apply below_drew1 | refine below_set ?_ GE197.out) | exact HB.out)) hb); clear BK197; clear HB; have BK197 := n0_; have HB := n1_; clear n0_ n1_; (try clear hb); (try clear hb2); (try clear hk); (try clear hi)) | ((with_reducible refine gate_dst (N := 9) rfl ?_); (try (refine gate_guard (by rfl) ?_; dsimp only)); refine box_event ?hg (N := 9) ?hd (cs := #[.int .i64 0, .int .i64 0, .int .i64 0, .string (⟨#[]⟩ : ByteArray)]) (t := 23) ?hr ?_; (case hd => rfl); (case hg => rfl); (case hr => first | (go_simp; done) | (go_simp; rfl)); intro gb206 hg w34 hbox hb; have n0_ := Aside0.mk (blk_below (g := gb197) (o := .cells #[.int .i64 0, .int .i64 0, .int .i64 0, .string (⟨#[]⟩ : ByteArray)] 23 (0, 0)) (by (with_reducible repeat (first | refine blk_drewN ?_ _ | refine blk_drew ?_ | refine blk_alloc ?_ _)); exact BK197.out) hb); have n1_ := Aside0.mk (below_step (by repeat (first | (with_reducible first | exact HB.out | apply below_alloc | apply pw_below_drewN | apply below_drew1 | refine below_set ?_ GE197.out) | exact HB.out)) hb); have n2_ := Aside0.mk (hbox); have n3_ := Aside0.mk ((by rw [hg]; exact (below_size (by repeat (first | (with_reducible first | exact HB.out | apply below_alloc | apply pw_below_drewN | apply below_drew1 | refine below_set ?_ GE197.out) | exact HB.out))) : w.heap.size ≤ gb206)); have n4_ := Aside0.mk ((by rw [hg]; exact (below_size (by repeat (first | (with_reducible first | exact HB.out | apply below_alloc | apply pw_below_drewN | apply below_drew1 | refine below_set ?_ GE197.out) | exact HB.out))) : w.heap.size ≤ gb206)); have n5_ := Aside0.mk ((by rw [hg]; exact Nat.ne_of_lt (blk_lt (g := gb197) (o := .cells #[.int .i64 0, .int .i64 0, .int .i64 0, .string (⟨#[]⟩ : ByteArray)] 23 (0, 0)) (by (with_reducible repeat (first | refine blk_drewN ?_ _ | refine blk_drew ?_ | refine blk_alloc ?_ _)); exact BK197.out)) : gb197 ≠ gb206)); have n6_ := Aside0.mk ((by rw [hg]; exact Nat.ne_of_gt (blk_lt (g := gb197) (o := .cells #[.int .i64 0, .int .i64 0, .int .i64 0, .string (⟨#[]⟩ : ByteArray)] 23 (0, 0)) (by (with_reducible repeat (first | refine blk_drewN ?_ _ | refine blk_drew ?_ | refine blk_alloc ?_ _)); exact BK197.out)) : gb206 ≠ gb197)); clear BK197; clear HB; have BK197 := n0_; have HB := n1_; have BK206 := n2_; have GW206 := n3_; have GE206 := n4_; have NB197_206 := n5_; have NB206_197 := n6_; clear n0_ n1_ n2_ n3_ n4_ n5_ n6_; clear hb hbox hg; have hnb35 := NB206_197.out; have hnc35 := NB197_206.out; have hcz36_0 : w34.cell? ⟨gb206, 0, none⟩ = some (.int .i64 0) := (blk_cell BK206.out 0).trans rfl; have hcz36_1 : w34.cell? ⟨gb206, 1, none⟩ = some (.int .i64 0) := (blk_cell BK206.out 1).trans rfl; have hcz36_2 : w34.cell? ⟨gb206, 2, none⟩ = some (.int .i64 0) := (blk_cell BK206.out 2).trans rfl; have hcz36_3 : w34.cell? ⟨gb206, 3, none⟩ = some (.string (⟨#[]⟩ : ByteArray)) := (blk_cell BK206.out 3).trans rfl; have hfz36_0 := blk_frozen BK206.out 0; have hfz36_1 := blk_frozen BK206.out 1; have hfz36_2 := blk_frozen BK206.out 2; have hfz36_3 := blk_frozen BK206.out 3))
                            repeat (go_quiet (first | (go_at_call 33; (with_reducible refine (signalboxref02_Of.calls kj23 t198 (a0.extract 8 ((wrap64 (8 + (wrap64 (bt a0 4)))) : Int).toNat) t201 t202 t203 t204 t205 _ A31.out).mono ?_); rintro e w33 ⟨rfl, hb⟩; have n0_ := Aside0.mk (blk_below (g := gb197) (o := .cells #[.int .i64 0, .int .i64 0, .int .i64 0, .string (⟨#[]⟩ : ByteArray)] 23 (0, 0)) (by (with_reducible repeat (first | refine blk_drewN ?_ _ | refine blk_drew ?_ | refine blk_alloc ?_ _)); exact BK197.out) hb); have n1_ := Aside0.mk (below_step (by repeat (first | (with_reducible first | exact HB.out | apply below_alloc | apply pw_below_drewN | apply below_drew1 | refine below_set ?_ GE197.out) | exact HB.out)) hb); clear BK197; clear HB; have BK197 := n0_; have HB := n1_; clear n0_ n1_; (try clear hb); (try clear hb2); (try clear hk); (try clear hi)) | ((with_reducible refine gate_dst (N := 9) rfl ?_); (try (refine gate_guard (by rfl) ?_; dsimp only)); refine box_event ?hg (N := 9) ?hd (cs := #[.int .i64 0, .int .i64 0, .int .i64 0, .string (⟨#[]⟩ : ByteArray)]) (t := 23) ?hr ?_; (case hd => rfl); (case hg => rfl); (case hr => first | (go_simp; done) | (go_simp; rfl)); intro gb206 hg w34 hbox hb; have n0_ := Aside0.mk (blk_below (g := gb197) (o := .cells #[.int .i64 0, .int .i64 0, .int .i64 0, .string (⟨#[]⟩ : ByteArray)] 23 (0, 0)) (by (with_reducible repeat (first | refine blk_drewN ?_ _ | refine blk_drew ?_ | refine blk_alloc ?_ _)); exact BK197.out) hb); have n1_ := Aside0.mk (below_step (by repeat (first | (with_reducible first | exact HB.out | apply below_alloc | apply pw_below_drewN | apply below_drew1 | refine below_set ?_ GE197.out) | exact HB.out)) hb); have n2_ := Aside0.mk (hbox); have n3_ := Aside0.mk ((by rw [hg]; exact (below_size (by repeat (first | (with_reducible first | exact HB.out | apply below_alloc | apply pw_below_drewN | apply below_drew1 | refine below_set ?_ GE197.out) | exact HB.out))) : w.heap.size ≤ gb206)); have n4_ := Aside0.mk ((by rw [hg]; exact (below_size (by repeat (first | (with_reducible first | exact HB.out | apply below_alloc | apply pw_below_drewN | apply below_drew1 | refine below_set ?_ GE197.out) | exact HB.out))) : w.heap.size ≤ gb206)); have n5_ := Aside0.mk ((by rw [hg]; exact Nat.ne_of_lt (blk_lt (g := gb197) (o := .cells #[.int .i64 0, .int .i64 0, .int .i64 0, .string (⟨#[]⟩ : ByteArray)] 23 (0, 0)) (by (with_reducible repeat (first | refine blk_drewN ?_ _ | refine blk_drew ?_ | refine blk_alloc ?_ _)); exact BK197.out)) : gb197 ≠ gb206)); have n6_ := Aside0.mk ((by rw [hg]; exact Nat.ne_of_gt (blk_lt (g := gb197) (o := .cells #[.int .i64 0, .int .i64 0, .int .i64 0, .string (⟨#[]⟩ : ByteArray)] 23 (0, 0)) (by (with_reducible repeat (first | refine blk_drewN ?_ _ | refine blk_drew ?_ | refine blk_alloc ?_ _)); exact BK197.out)) : gb206 ≠ gb197)); clear BK197; clear HB; have BK197 := n0_; have HB := n1_; have BK206 := n2_; have GW206 := n3_; have GE206 := n4_; have NB197_206 := n5_; have NB206_197 := n6_; clear n0_ n1_ n2_ n3_ n4_ n5_ n6_; clear hb hbox hg; have hnb35 := NB206_197.out; have hnc35 := NB197_206.out; have hcz36_0 : w34.cell? ⟨gb206, 0, none⟩ = some (.int .i64 0) := (blk_cell BK206.out 0).trans rfl; have hcz36_1 : w34.cell? ⟨gb206, 1, none⟩ = some (.int .i64 0) := (blk_cell BK206.out 1).trans rfl; have hcz36_2 : w34.cell? ⟨gb206, 2, none⟩ = some (.int .i64 0) := (blk_cell BK206.out 2).trans rfl; have hcz36_3 : w34.cell? ⟨gb206, 3, none⟩ = some (.string (⟨#[]⟩ : ByteArray)) := (blk_cell BK206.out 3).trans rfl; have hfz36_0 := blk_frozen BK206.out 0; have hfz36_1 := blk_frozen BK206.out 1; have hfz36_2 := blk_frozen BK206.out 2; have hfz36_3 := blk_frozen BK206.out 3)); go_upto_if 86 with (first | (go_at_call 33; (with_reducible refine (signalboxref02_Of.calls kj23 t198 (a0.extract 8 ((wrap64 (8 + (wrap64 (bt a0 4)))) : Int).toNat) t201 t202 t203 t204 t205 _ A31.out).mono ?_); rintro e w33 ⟨rfl, hb⟩; have n0_ := Aside0.mk (blk_below (g := gb197) (o := .cells #[.int .i64 0, .int .i64 0, .int .i64 0, .string (⟨#[]⟩ : ByteArray)] 23 (0, 0)) (by (with_reducible repeat (first | refine blk_drewN ?_ _ | refine blk_drew ?_ | refine blk_alloc ?_ _)); exact BK197.out) hb); have n1_ := Aside0.mk (below_step (by repeat (first | (with_reducible first | exact HB.out | apply below_alloc | apply pw_below_drewN | apply below_drew1 | refine below_set ?_ GE197.out) | exact HB.out)) hb); clear BK197; clear HB; have BK197 := n0_; have HB := n1_; clear n0_ n1_; (try clear hb); (try clear hb2); (try clear hk); (try clear hi)) | ((with_reducible refine gate_dst (N := 9) rfl ?_); (try (refine gate_guard (by rfl) ?_; dsimp only)); refine box_event ?hg (N := 9) ?hd (cs := #[.int .i64 0, .int .i64 0, .int .i64 0, .string (⟨#[]⟩ : ByteArray)]) (t := 23) ?hr ?_; (case hd => rfl); (case hg => rfl); (case hr => first | (go_simp; done) | (go_simp; rfl)); intro gb206 hg w34 hbox hb; have n0_ := Aside0.mk (blk_below (g := gb197) (o := .cells #[.int .i64 0, .int .i64 0, .int .i64 0, .string (⟨#[]⟩ : ByteArray)] 23 (0, 0)) (by (with_reducible repeat (first | refine blk_drewN ?_ _ | refine blk_drew ?_ | refine blk_alloc ?_ _)); exact BK197.out) hb); have n1_ := Aside0.mk (below_step (by repeat (first | (with_reducible first | exact HB.out | apply below_alloc | apply pw_below_drewN | apply below_drew1 | refine below_set ?_ GE197.out) | exact HB.out)) hb); have n2_ := Aside0.mk (hbox); have n3_ := Aside0.mk ((by rw [hg]; exact (below_size (by repeat (first | (with_reducible first | exact HB.out | apply below_alloc | apply pw_below_drewN | apply below_drew1 | refine below_set ?_ GE197.out) | exact HB.out))) : w.heap.size ≤ gb206)); have n4_ := Aside0.mk ((by rw [hg]; exact (below_size (by repeat (first | (with_reducible first | exact HB.out | apply below_alloc | apply pw_below_drewN | apply below_drew1 | refine below_set ?_ GE197.out) | exact HB.out))) : w.heap.size ≤ gb206)); have n5_ := Aside0.mk ((by rw [hg]; exact Nat.ne_of_lt (blk_lt (g := gb197) (o := .cells #[.int .i64 0, .int .i64 0, .int .i64 0, .string (⟨#[]⟩ : ByteArray)] 23 (0, 0)) (by (with_reducible repeat (first | refine blk_drewN ?_ _ | refine blk_drew ?_ | refine blk_alloc ?_ _)); exact BK197.out)) : gb197 ≠ gb206)); have n6_ := Aside0.mk ((by rw [hg]; exact Nat.ne_of_gt (blk_lt (g := gb197) (o := .cells #[.int .i64 0, .int .i64 0, .int .i64 0, .string (⟨#[]⟩ : ByteArray)] 23 (0, 0)) (by (with_reducible repeat (first | refine blk_drewN ?_ _ | refine blk_drew ?_ | refine blk_alloc ?_ _)); exact BK197.out)) : gb206 ≠ gb197)); clear BK197; clear HB; have BK197 := n0_; have HB := n1_; have BK206 := n2_; have GW206 := n3_; have GE206 := n4_; have NB197_206 := n5_; have NB206_197 := n6_; clear n0_ n1_ n2_ n3_ n4_ n5_ n6_; clear hb hbox hg; have hnb35 := NB206_197.out; have hnc35 := NB197_206.out; have hcz36_0 : w34.cell? ⟨gb206, 0, none⟩ = some (.int .i64 0) := (blk_cell BK206.out 0).trans rfl; have hcz36_1 : w34.cell? ⟨gb206, 1, none⟩ = some (.int .i64 0) := (blk_cell BK206.out 1).trans rfl; have hcz36_2 : w34.cell? ⟨gb206, 2, none⟩ = some (.int .i64 0) := (blk_cell BK206.out 2).trans rfl; have hcz36_3 : w34.cell? ⟨gb206, 3, none⟩ = some (.string (⟨#[]⟩ : ByteArray)) := (blk_cell BK206.out 3).trans rfl; have hfz36_0 := blk_frozen BK206.out 0; have hfz36_1 := blk_frozen BK206.out 1; have hfz36_2 := blk_frozen BK206.out 2; have hfz36_3 := blk_frozen BK206.out 3)))
                            (try simp only [Act.put, List.setIfInBounds_toArray, List.set_cons_zero, List.set_cons_succ])
                            go_cut [10] (fun v10 wc => ∃ (kq : Nat) (x10_31 : Bool) (x207000_31 : Int) (x207001_31 : Int) (x207002_31 : Int) (x207003_31 : ByteArray), v10 = .bool x10_31 ∧ Aside0 (signalboxref03_Decode.j4 kq a0 x10_31 x207000_31 x207001_31 x207002_31 x207003_31 = some (r1, r2, r3, r4, r5)) ∧ Aside0 (kq ≤ kj23) ∧ Aside0 (wc.heap[gb197]? = some (.cells #[.int .i64 0, .int .i64 0, .int .i64 0, .string (⟨#[]⟩ : ByteArray)] 23 (0, 0))) ∧ Aside0 (wc.heap[gb206]? = some (.cells #[.int .i64 x207000_31, .int .i64 x207001_31, .int .i64 x207002_31, .string x207003_31] 23 (0, 0))) ∧ Aside0 (Below w.heap.size w wc))
                            case first =>
                              have H := HC32.out
                              clear HC32
                              by_cases c37 : fd_ = true
                              · rw [if_pos c37] at H
                                have c37b0 : fd_ = true := c37
                                subst c37b0
                                (try (have c37b1 : decide ((a0.size : Int) = 72) = true := by simpa using c37))
                                (try (have c37b2 : fd_ = true := by simpa using c37))
                                try clear c37
                                (first | rw [c37b0] | (simp only [i64_w, i32_w]; rw [c37b0]) | skip)
                                have c38b0 := eq_true (of_decide_eq_true (by first | (with_reducible assumption) | assumption) : 8 ≤ (wrap64 (8 + (wrap64 (bt a0 4)))))
                                have c39b0 := eq_true (of_decide_eq_true (by first | (with_reducible assumption) | assumption) : (wrap64 (8 + (wrap64 (bt a0 4)))) ≤ (a0.size : Int))
                                have HC40 := Aside0.mk H
                                clear H
                                have hnb41 := NB206_197.out
                                have hnc41 := NB197_206.out
                                have hcz42_0 : w34.cell? ⟨gb206, 0, none⟩ = some (.int .i64 0) := (blk_cell BK206.out 0).trans rfl
                                have hcz42_1 : w34.cell? ⟨gb206, 1, none⟩ = some (.int .i64 0) := (blk_cell BK206.out 1).trans rfl
                                have hcz42_2 : w34.cell? ⟨gb206, 2, none⟩ = some (.int .i64 0) := (blk_cell BK206.out 2).trans rfl
                                have hcz42_3 : w34.cell? ⟨gb206, 3, none⟩ = some (.string (⟨#[]⟩ : ByteArray)) := (blk_cell BK206.out 3).trans rfl
                                have hfz42_0 := blk_frozen BK206.out 0
                                have hfz42_1 := blk_frozen BK206.out 1
                                have hfz42_2 := blk_frozen BK206.out 2
                                have hfz42_3 := blk_frozen BK206.out 3
                                go_upto_if 97 with (fail)
                                repeat (go_quiet (fail); go_upto_if 97 with (fail))
                                refine cut_world (fun wc => wc.heap[gb197]? = some (.cells #[.int .i64 0, .int .i64 0, .int .i64 0, .string (⟨#[]⟩ : ByteArray)] 23 (0, 0)) ∧ wc.heap[gb206]? = some (.cells #[.int .i64 (wrap64 (Int.tmod t198 536870912)), .int .i64 8, .int .i64 (wrap64 (bt a0 4)), .string (a0.extract 8 ((wrap64 (8 + (wrap64 (bt a0 4)))) : Int).toNat)] 23 (0, 0)) ∧ Below w.heap.size w wc) ⟨by (with_reducible repeat (first | refine blk_drewN ?_ _ | refine blk_drew ?_ | refine blk_alloc ?_ _)); refine blk_far ?_ NB197_206.out _; (with_reducible repeat (first | refine blk_drewN ?_ _ | refine blk_drew ?_ | refine blk_alloc ?_ _)); refine blk_far ?_ NB197_206.out _; (with_reducible repeat (first | refine blk_drewN ?_ _ | refine blk_drew ?_ | refine blk_alloc ?_ _)); refine blk_far ?_ NB197_206.out _; (with_reducible repeat (first | refine blk_drewN ?_ _ | refine blk_drew ?_ | refine blk_alloc ?_ _)); refine blk_far ?_ NB197_206.out _; (with_reducible repeat (first | refine blk_drewN ?_ _ | refine blk_drew ?_ | refine blk_alloc ?_ _)); refine blk_far ?_ NB197_206.out _; (with_reducible repeat (first | refine blk_drewN ?_ _ | refine blk_drew ?_ | refine blk_alloc ?_ _)); refine blk_far ?_ NB197_206.out _; (with_reducible repeat (first | refine blk_drewN ?_ _ | refine blk_drew ?_ | refine blk_alloc ?_ _)); refine blk_far ?_ NB197_206.out _; (with_reducible repeat (first | refine blk_drewN ?_ _ | refine blk_drew ?_ | refine blk_alloc ?_ _)); refine blk_far ?_ NB197_206.out _; (with_reducible repeat (first | refine blk_drewN ?_ _ | refine blk_drew ?_ | refine blk_alloc ?_ _)); exact BK197.out, by (with_reducible repeat (first | refine blk_drewN ?_ _ | refine blk_drew ?_ | refine blk_alloc ?_ _)); refine blk_put (cs := #[.int .i64 (wrap64 (Int.tmod t198 536870912)), .int .i64 8, .int .i64 (wrap64 (bt a0 4)), .string t204]) ?_ 3 _ rfl; (with_reducible repeat (first | refine blk_drewN ?_ _ | refine blk_drew ?_ | refine blk_alloc ?_ _)); refine blk_put (cs := #[.int .i64 (wrap64 (Int.tmod t198 536870912)), .int .i64 8, .int .i64 t203, .string t204]) ?_ 2 _ rfl; (with_reducible repeat (first | refine blk_drewN ?_ _ | refine blk_drew ?_ | refine blk_alloc ?_ _)); refine blk_put (cs := #[.int .i64 (wrap64 (Int.tmod t198 536870912)), .int .i64 t202, .int .i64 t203, .string t204]) ?_ 1 _ rfl; (with_reducible repeat (first | refine blk_drewN ?_ _ | refine blk_drew ?_ | refine blk_alloc ?_ _)); refine blk_put (cs := #[.int .i64 t201, .int .i64 t202, .int .i64 t203, .string t204]) ?_ 0 _ rfl; (with_reducible repeat (first | refine blk_drewN ?_ _ | refine blk_drew ?_ | refine blk_alloc ?_ _)); refine blk_put (cs := #[.int .i64 t201, .int .i64 t202, .int .i64 t203, .string (⟨#[]⟩ : ByteArray)]) ?_ 3 _ rfl; (with_reducible repeat (first | refine blk_drewN ?_ _ | refine blk_drew ?_ | refine blk_alloc ?_ _)); refine blk_put (cs := #[.int .i64 t201, .int .i64 t202, .int .i64 0, .string (⟨#[]⟩ : ByteArray)]) ?_ 2 _ rfl; (with_reducible repeat (first | refine blk_drewN ?_ _ | refine blk_drew ?_ | refine blk_alloc ?_ _)); refine blk_put (cs := #[.int .i64 t201, .int .i64 0, .int .i64 0, .string (⟨#[]⟩ : ByteArray)]) ?_ 1 _ rfl; (with_reducible repeat (first | refine blk_drewN ?_ _ | refine blk_drew ?_ | refine blk_alloc ?_ _)); refine blk_put (cs := #[.int .i64 0, .int .i64 0, .int .i64 0, .string (⟨#[]⟩ : ByteArray)]) ?_ 0 _ rfl; (with_reducible repeat (first | refine blk_drewN ?_ _ | refine blk_drew ?_ | refine blk_alloc ?_ _)); exact BK206.out, by repeat (first | (with_reducible first | exact HB.out | apply below_alloc | apply pw_below_drewN | apply below_drew1 | refine below_set ?_ GE197.out | refine below_set ?_ GE206.out) | exact HB.out)⟩ ?_
                                intro w35_ hR_
                                clear BK197 BK206 HB
                                have BK197 := Aside0.mk hR_.1
                                have BK206 := Aside0.mk hR_.2.1
                                have HB := Aside0.mk hR_.2.2
                                clear hR_
                                go_cut [] (fun wc => ∃ (kq : Nat) (x207001_39 : Int), Aside0 (signalboxref03_Decode.j3 kq a0 t198 (wrap64 (bt a0 5)) (wrap64 (Int.tmod t198 536870912)) x207001_39 (wrap64 (bt a0 4)) (a0.extract 8 ((wrap64 (8 + (wrap64 (bt a0 4)))) : Int).toNat) = some (r1, r2, r3, r4, r5)) ∧ Aside0 (kq ≤ kj23) ∧ Aside0 (wc.heap[gb197]? = some (.cells #[.int .i64 0, .int .i64 0, .int .i64 0, .string (⟨#[]⟩ : ByteArray)] 23 (0, 0))) ∧ Aside0 (wc.heap[gb206]? = some (.cells #[.int .i64 (wrap64 (Int.tmod t198 536870912)), .int .i64 x207001_39, .int .i64 (wrap64 (bt a0 4)), .string (a0.extract 8 ((wrap64 (8 + (wrap64 (bt a0 4)))) : Int).toNat)] 23 (0, 0))) ∧ Aside0 (Below w.heap.size w wc))
                                case first =>
                                  have H := HC40.out
                                  clear HC40
                                  by_cases c43 : t198 ≥ 2147483648
                                  · rw [if_pos c43] at H
                                    have c43b0 : decide (2147483648 ≤ t198) = true := decide_eq_true c43
                                    clear c43
                                    (first | rw [c43b0] | (simp only [i64_w, i32_w]; rw [c43b0]) | skip)
                                    have H' := Aside0.mk H
                                    clear H
                                    have hnb44 := NB206_197.out
                                    have hnc44 := NB197_206.out
                                    have hcz45_0 : w35_.cell? ⟨gb206, 0, none⟩ = some (.int .i64 (wrap64 (Int.tmod t198 536870912))) := (blk_cell BK206.out 0).trans rfl
                                    have hcz45_1 : w35_.cell? ⟨gb206, 1, none⟩ = some (.int .i64 8) := (blk_cell BK206.out 1).trans rfl
                                    have hcz45_2 : w35_.cell? ⟨gb206, 2, none⟩ = some (.int .i64 (wrap64 (bt a0 4))) := (blk_cell BK206.out 2).trans rfl
                                    have hcz45_3 : w35_.cell? ⟨gb206, 3, none⟩ = some (.string (a0.extract 8 ((wrap64 (8 + (wrap64 (bt a0 4)))) : Int).toNat)) := (blk_cell BK206.out 3).trans rfl
                                    have hfz45_0 := blk_frozen BK206.out 0
                                    have hfz45_1 := blk_frozen BK206.out 1
                                    have hfz45_2 := blk_frozen BK206.out 2
                                    have hfz45_3 := blk_frozen BK206.out 3
                                    go_wp2
                                    repeat (go_quiet (fail); try go_wp2)
                                    go_meet
                                    case rel => exact ⟨_, (9), H', ⟨by have := HJ1.out; have := HJ11.out; have := HJ23.out; first | omega | exact Nat.le_refl _⟩, ⟨by (with_reducible repeat (first | refine blk_drewN ?_ _ | refine blk_drew ?_ | refine blk_alloc ?_ _)); refine blk_far ?_ NB197_206.out _; (with_reducible repeat (first | refine blk_drewN ?_ _ | refine blk_drew ?_ | refine blk_alloc ?_ _)); exact BK197.out⟩, ⟨by (with_reducible repeat (first | refine blk_drewN ?_ _ | refine blk_drew ?_ | refine blk_alloc ?_ _)); refine blk_put (cs := #[.int .i64 (wrap64 (Int.tmod t198 536870912)), .int .i64 8, .int .i64 (wrap64 (bt a0 4)), .string (a0.extract 8 ((wrap64 (8 + (wrap64 (bt a0 4)))) : Int).toNat)]) ?_ 1 _ rfl; (with_reducible repeat (first | refine blk_drewN ?_ _ | refine blk_drew ?_ | refine blk_alloc ?_ _)); exact BK206.out⟩, ⟨by repeat (first | (with_reducible first | exact HB.out | apply below_alloc | apply pw_below_drewN | apply below_drew1 | refine below_set ?_ GE197.out | refine below_set ?_ GE206.out) | exact HB.out)⟩⟩
                                  · rw [if_neg c43] at H
                                    have c43b0 : decide (2147483648 ≤ t198) = false := decide_eq_false c43
                                    clear c43
                                    (first | rw [c43b0] | (simp only [i64_w, i32_w]; rw [c43b0]) | skip)
                                    have H' := Aside0.mk H
                                    clear H
                                    go_wp2
                                    repeat (go_quiet (fail); try go_wp2)
                                    go_meet
                                    case rel => exact ⟨_, (8), H', ⟨by have := HJ1.out; have := HJ11.out; have := HJ23.out; first | omega | exact Nat.le_refl _⟩, ⟨by (with_reducible repeat (first | refine blk_drewN ?_ _ | refine blk_drew ?_ | refine blk_alloc ?_ _)); exact BK197.out⟩, ⟨by (with_reducible repeat (first | refine blk_drewN ?_ _ | refine blk_drew ?_ | refine blk_alloc ?_ _)); exact BK206.out⟩, ⟨by repeat (first | (with_reducible first | exact HB.out | apply below_alloc | apply pw_below_drewN | apply below_drew1 | refine below_set ?_ GE197.out | refine below_set ?_ GE206.out) | exact HB.out)⟩⟩
                                case rest =>
                                  clear HC40
                                  try clear c1
                                  try clear p1
                                  try clear q1
                                  try clear hx1
                                  try clear qi1
                                  try clear c2
                                  try clear p2
                                  try clear c3
                                  try clear c4
                                  try clear c4b0
                                  try clear c4b1
                                  try clear c5
                                  try clear p6
                                  try clear c8
                                  try clear c8b0
                                  try clear c8b1
                                  try clear p9
                                  try clear q9
                                  try clear hx9
                                  try clear qi9
                                  try clear c10
                                  try clear c10b0
                                  try clear c10b1
                                  try clear p11
                                  try clear q11
                                  try clear hx11
                                  try clear qi11
                                  try clear c13
                                  try clear c13b0
                                  try clear c13b1
                                  try clear p14
                                  try clear q14
                                  try clear hx14
                                  try clear qi14
                                  try clear c15
                                  try clear c15b0
                                  try clear c15b1
                                  try clear c16
                                  try clear c16b0
                                  try clear c16b1
                                  try clear p17
                                  try clear q17
                                  try clear hx17
                                  try clear qi17
                                  try clear c18
                                  try clear c18b0
                                  try clear c18b1
                                  try clear c19
                                  try clear c19b0
                                  try clear c19b1
                                  try clear c19b2
                                  try clear c20
                                  try clear c20b0
                                  try clear c20b1
                                  try clear c21
                                  try clear c21b0
                                  try clear c21b1
                                  try clear c22
                                  try clear c25
                                  try clear c25b0
                                  try clear c27
                                  try clear c29
                                  try clear c29b0
                                  try clear c29b1
                                  try clear c30
                                  try clear c30b0
                                  try clear c30b1
                                  try clear c35
                                  try clear c37
                                  try clear c37b0
                                  try clear c37b1
                                  try clear c37b2
                                  try clear c38
                                  try clear c38b0
                                  try clear c39
                                  try clear c39b0
                                  try clear c41
                                  try clear c43
                                  try clear c43b0
                                  try clear c44
                                  try clear hcz23_0
                                  try clear hcz23_1
                                  try clear hcz23_2
                                  try clear hcz23_3
                                  try clear hcz28_0
                                  try clear hcz28_1
                                  try clear hcz28_2
                                  try clear hcz28_3
                                  try clear hcz36_0
                                  try clear hcz36_1
                                  try clear hcz36_2
                                  try clear hcz36_3
                                  try clear hcz42_0
                                  try clear hcz42_1
                                  try clear hcz42_2
                                  try clear hcz42_3
                                  try clear hcz45_0
                                  try clear hcz45_1
                                  try clear hcz45_2
                                  try clear hcz45_3
                                  try clear hcz6_0
                                  try clear hcz6_1
                                  try clear hcz6_2
                                  try clear hcz6_3
                                  try clear hfz23_0
                                  try clear hfz23_1
                                  try clear hfz23_2
                                  try clear hfz23_3
                                  try clear hfz28_0
                                  try clear hfz28_1
                                  try clear hfz28_2
                                  try clear hfz28_3
                                  try clear hfz36_0
                                  try clear hfz36_1
                                  try clear hfz36_2
                                  try clear hfz36_3
                                  try clear hfz42_0
                                  try clear hfz42_1
                                  try clear hfz42_2
                                  try clear hfz42_3
                                  try clear hfz45_0
                                  try clear hfz45_1
                                  try clear hfz45_2
                                  try clear hfz45_3
                                  try clear hfz6_0
                                  try clear hfz6_1
                                  try clear hfz6_2
                                  try clear hfz6_3
                                  try clear p1
                                  try clear p11
                                  try clear p14
                                  try clear p17
                                  try clear p2
                                  try clear p6
                                  try clear p9
                                  try clear q1
                                  try clear q11
                                  try clear q14
                                  try clear q17
                                  try clear q9
                                  try clear HA
                                  try clear HJ39
                                  try clear BK197
                                  try clear BK206
                                  try clear HB
                                  obtain ⟨kq, x207001_39, HA, HJ39, BK197, BK206, HB⟩ := hcut
                                  cases kq with
                                  | zero => exact absurd HA.out (by simp [signalboxref03_Decode.j3])
                                  | succ kj39 =>
                                    have H := HA.out
                                    clear HA
                                    simp only [signalboxref03_Decode.j3] at H
                                    by_cases c46 : (Int.tmod (wrap64 (bt a0 5)) 2) = 1
                                    · rw [if_pos c46] at H
                                      have c46b0 : ((Int.tmod (wrap64 (bt a0 5)) 2) == 1) = true := beq_iff_eq.mpr c46
                                      have c46b1 : ((Int.tmod (wrap64 (bt a0 5)) 2) != 1) = false := bne_eq_false_iff_eq.mpr c46
                                      clear c46
                                      by_cases c47 : (Int.tmod (wrap64 (Int.tdiv (wrap64 (bt a0 5)) 2)) 2) = 1
                                      · rw [if_pos c47] at H
                                        have c47b0 : ((Int.tmod (wrap64 (Int.tdiv (wrap64 (bt a0 5)) 2)) 2) == 1) = true := beq_iff_eq.mpr c47
                                        have c47b1 : ((Int.tmod (wrap64 (Int.tdiv (wrap64 (bt a0 5)) 2)) 2) != 1) = false := bne_eq_false_iff_eq.mpr c47
                                        clear c47
                                        replace H := Option.bind_eq_some_iff.mp H
                                        obtain ⟨t207, A480, H⟩ := H
                                        replace H : (if t207 = true then (signalboxref03_Decode.j4 kj39 a0 ((((Int.tdiv t198 536870912) % 4294967296) % 4) == 0) (wrap64 (Int.tmod t198 536870912)) (wrap64 ((wrap64 (x207001_39 + 16)) + 32)) (wrap64 (bt a0 4)) (a0.extract 8 ((wrap64 (8 + (wrap64 (bt a0 4)))) : Int).toNat)) else (signalboxref03_Decode.j4 kj39 a0 false (wrap64 (Int.tmod t198 536870912)) (wrap64 ((wrap64 (x207001_39 + 16)) + 32)) (wrap64 (bt a0 4)) (a0.extract 8 ((wrap64 (8 + (wrap64 (bt a0 4)))) : Int).toNat))) = some (r1, r2, r3, r4, r5) := H
                                        have A48 := Aside0.mk A480
                                        clear A480
                                        by_cases c49 : t207 = true
                                        · subst c49
                                          have H1 : (signalboxref03_Decode.j4 kj39 a0 ((((Int.tdiv t198 536870912) % 4294967296) % 4) == 0) (wrap64 (Int.tmod t198 536870912)) (wrap64 ((wrap64 (x207001_39 + 16)) + 32)) (wrap64 (bt a0 4)) (a0.extract 8 ((wrap64 (8 + (wrap64 (bt a0 4)))) : Int).toNat)) = some (r1, r2, r3, r4, r5) := by rw [if_pos rfl] at H; exact H
                                          clear H
                                          have H := H1
                                          clear H1
                                          have H' := Aside0.mk H
                                          clear H
                                          have hnb50 := NB206_197.out
                                          have hnc50 := NB197_206.out
                                          have hcz51_0 : wc.cell? ⟨gb206, 0, none⟩ = some (.int .i64 (wrap64 (Int.tmod t198 536870912))) := (blk_cell BK206.out 0).trans rfl
                                          have hcz51_1 : wc.cell? ⟨gb206, 1, none⟩ = some (.int .i64 x207001_39) := (blk_cell BK206.out 1).trans rfl
                                          have hcz51_2 : wc.cell? ⟨gb206, 2, none⟩ = some (.int .i64 (wrap64 (bt a0 4))) := (blk_cell BK206.out 2).trans rfl
                                          have hcz51_3 : wc.cell? ⟨gb206, 3, none⟩ = some (.string (a0.extract 8 ((wrap64 (8 + (wrap64 (bt a0 4)))) : Int).toNat)) := (blk_cell BK206.out 3).trans rfl
                                          have hfz51_0 := blk_frozen BK206.out 0
                                          have hfz51_1 := blk_frozen BK206.out 1
                                          have hfz51_2 := blk_frozen BK206.out 2
                                          have hfz51_3 := blk_frozen BK206.out 3
                                          go_wp2_with (first | (go_at_call 9; (with_reducible refine (signalboxref02_Right.calls kj39 (wrap64 (Int.tmod t198 536870912)) (wrap64 ((wrap64 (x207001_39 + 16)) + 32)) (wrap64 (bt a0 4)) (a0.extract 8 ((wrap64 (8 + (wrap64 (bt a0 4)))) : Int).toNat) true _ A48.out).mono ?_); rintro e w52 ⟨rfl, hb⟩; have n0_ := Aside0.mk (blk_below (g := gb197) (o := .cells #[.int .i64 0, .int .i64 0, .int .i64 0, .string (⟨#[]⟩ : ByteArray)] 23 (0, 0)) (by (with_reducible repeat (first | refine blk_drewN ?_ _ | refine blk_drew ?_ | refine blk_alloc ?_ _)); refine blk_far ?_ NB197_206.out _; (with_reducible repeat (first | refine blk_drewN ?_ _ | refine blk_drew ?_ | refine blk_alloc ?_ _)); refine blk_far ?_ NB197_206.out _; (with_reducible repeat (first | refine blk_drewN ?_ _ | refine blk_drew ?_ | refine blk_alloc ?_ _)); exact BK197.out) hb); have n1_ := Aside0.mk (blk_below (g := gb206) (o := .cells #[.int .i64 (wrap64 (Int.tmod t198 536870912)), .int .i64 (wrap64 ((wrap64 (x207001_39 + 16)) + 32)), .int .i64 (wrap64 (bt a0 4)), .string (a0.extract 8 ((wrap64 (8 + (wrap64 (bt a0 4)))) : Int).toNat)] 23 (0, 0)) (by (with_reducible repeat (first | refine blk_drewN ?_ _ | refine blk_drew ?_ | refine blk_alloc ?_ _)); refine blk_put (cs := #[.int .i64 (wrap64 (Int.tmod t198 536870912)), .int .i64 (wrap64 (x207001_39 + 16)), .int .i64 (wrap64 (bt a0 4)), .string (a0.extract 8 ((wrap64 (8 + (wrap64 (bt a0 4)))) : Int).toNat)]) ?_ 1 _ rfl; (with_reducible repeat (first | refine blk_drewN ?_ _ | refine blk_drew ?_ | refine blk_alloc ?_ _)); refine blk_put (cs := #[.int .i64 (wrap64 (Int.tmod t198 536870912)), .int .i64 x207001_39, .int .i64 (wrap64 (bt a0 4)), .string (a0.extract 8 ((wrap64 (8 + (wrap64 (bt a0 4)))) : Int).toNat)]) ?_ 1 _ rfl; (with_reducible repeat (first | refine blk_drewN ?_ _ | refine blk_drew ?_ | refine blk_alloc ?_ _)); exact BK206.out) hb); have n2_ := Aside0.mk (below_step (by repeat (first | (with_reducible first | exact HB.out | apply below_alloc | apply pw_below_drewN | apply below_drew1 | refine below_set ?_ GE197.out | refine below_set ?_ GE206.out) | exact HB.out)) hb); clear BK197; clear BK206; clear HB; have BK197 := n0_; have BK206 := n1_; have HB := n2_; clear n0_ n1_ n2_; (try clear hb); (try clear hb2); (try clear hk); (try clear hi)))
                                          repeat (go_quiet (first | (go_at_call 9; (with_reducible refine (signalboxref02_Right.calls kj39 (wrap64 (Int.tmod t198 536870912)) (wrap64 ((wrap64 (x207001_39 + 16)) + 32)) (wrap64 (bt a0 4)) (a0.extract 8 ((wrap64 (8 + (wrap64 (bt a0 4)))) : Int).toNat) true _ A48.out).mono ?_); rintro e w52 ⟨rfl, hb⟩; have n0_ := Aside0.mk (blk_below (g := gb197) (o := .cells #[.int .i64 0, .int .i64 0, .int .i64 0, .string (⟨#[]⟩ : ByteArray)] 23 (0, 0)) (by (with_reducible repeat (first | refine blk_drewN ?_ _ | refine blk_drew ?_ | refine blk_alloc ?_ _)); refine blk_far ?_ NB197_206.out _; (with_reducible repeat (first | refine blk_drewN ?_ _ | refine blk_drew ?_ | refine blk_alloc ?_ _)); refine blk_far ?_ NB197_206.out _; (with_reducible repeat (first | refine blk_drewN ?_ _ | refine blk_drew ?_ | refine blk_alloc ?_ _)); exact BK197.out) hb); have n1_ := Aside0.mk (blk_below (g := gb206) (o := .cells #[.int .i64 (wrap64 (Int.tmod t198 536870912)), .int .i64 (wrap64 ((wrap64 (x207001_39 + 16)) + 32)), .int .i64 (wrap64 (bt a0 4)), .string (a0.extract 8 ((wrap64 (8 + (wrap64 (bt a0 4)))) : Int).toNat)] 23 (0, 0)) (by (with_reducible repeat (first | refine blk_drewN ?_ _ | refine blk_drew ?_ | refine blk_alloc ?_ _)); refine blk_put (cs := #[.int .i64 (wrap64 (Int.tmod t198 536870912)), .int .i64 (wrap64 (x207001_39 + 16)), .int .i64 (wrap64 (bt a0 4)), .string (a0.extract 8 ((wrap64 (8 + (wrap64 (bt a0 4)))) : Int).toNat)]) ?_ 1 _ rfl; (with_reducible repeat (first | refine blk_drewN ?_ _ | refine blk_drew ?_ | refine blk_alloc ?_ _)); refine blk_put (cs := #[.int .i64 (wrap64 (Int.tmod t198 536870912)), .int .i64 x207001_39, .int .i64 (wrap64 (bt a0 4)), .string (a0.extract 8 ((wrap64 (8 + (wrap64 (bt a0 4)))) : Int).toNat)]) ?_ 1 _ rfl; (with_reducible repeat (first | refine blk_drewN ?_ _ | refine blk_drew ?_ | refine blk_alloc ?_ _)); exact BK206.out) hb); have n2_ := Aside0.mk (below_step (by repeat (first | (with_reducible first | exact HB.out | apply below_alloc | apply pw_below_drewN | apply below_drew1 | refine below_set ?_ GE197.out | refine below_set ?_ GE206.out) | exact HB.out)) hb); clear BK197; clear BK206; clear HB; have BK197 := n0_; have BK206 := n1_; have HB := n2_; clear n0_ n1_ n2_; (try clear hb); (try clear hb2); (try clear hk); (try clear hi))); try go_wp2_with (first | (go_at_call 9; (with_reducible refine (signalboxref02_Right.calls kj39 (wrap64 (Int.tmod t198 536870912)) (wrap64 ((wrap64 (x207001_39 + 16)) + 32)) (wrap64 (bt a0 4)) (a0.extract 8 ((wrap64 (8 + (wrap64 (bt a0 4)))) : Int).toNat) true _ A48.out).mono ?_); rintro e w52 ⟨rfl, hb⟩; have n0_ := Aside0.mk (blk_below (g := gb197) (o := .cells #[.int .i64 0, .int .i64 0, .int .i64 0, .string (⟨#[]⟩ : ByteArray)] 23 (0, 0)) (by (with_reducible repeat (first | refine blk_drewN ?_ _ | refine blk_drew ?_ | refine blk_alloc ?_ _)); refine blk_far ?_ NB197_206.out _; (with_reducible repeat (first | refine blk_drewN ?_ _ | refine blk_drew ?_ | refine blk_alloc ?_ _)); refine blk_far ?_ NB197_206.out _; (with_reducible repeat (first | refine blk_drewN ?_ _ | refine blk_drew ?_ | refine blk_alloc ?_ _)); exact BK197.out) hb); have n1_ := Aside0.mk (blk_below (g := gb206) (o := .cells #[.int .i64 (wrap64 (Int.tmod t198 536870912)), .int .i64 (wrap64 ((wrap64 (x207001_39 + 16)) + 32)), .int .i64 (wrap64 (bt a0 4)), .string (a0.extract 8 ((wrap64 (8 + (wrap64 (bt a0 4)))) : Int).toNat)] 23 (0, 0)) (by (with_reducible repeat (first | refine blk_drewN ?_ _ | refine blk_drew ?_ | refine blk_alloc ?_ _)); refine blk_put (cs := #[.int .i64 (wrap64 (Int.tmod t198 536870912)), .int .i64 (wrap64 (x207001_39 + 16)), .int .i64 (wrap64 (bt a0 4)), .string (a0.extract 8 ((wrap64 (8 + (wrap64 (bt a0 4)))) : Int).toNat)]) ?_ 1 _ rfl; (with_reducible repeat (first | refine blk_drewN ?_ _ | refine blk_drew ?_ | refine blk_alloc ?_ _)); refine blk_put (cs := #[.int .i64 (wrap64 (Int.tmod t198 536870912)), .int .i64 x207001_39, .int .i64 (wrap64 (bt a0 4)), .string (a0.extract 8 ((wrap64 (8 + (wrap64 (bt a0 4)))) : Int).toNat)]) ?_ 1 _ rfl; (with_reducible repeat (first | refine blk_drewN ?_ _ | refine blk_drew ?_ | refine blk_alloc ?_ _)); exact BK206.out) hb); have n2_ := Aside0.mk (below_step (by repeat (first | (with_reducible first | exact HB.out | apply below_alloc | apply pw_below_drewN | apply below_drew1 | refine below_set ?_ GE197.out | refine below_set ?_ GE206.out) | exact HB.out)) hb); clear BK197; clear BK206; clear HB; have BK197 := n0_; have BK206 := n1_; have HB := n2_; clear n0_ n1_ n2_; (try clear hb); (try clear hb2); (try clear hk); (try clear hi))))
                                          go_meet
                                          case rel => exact ⟨_, (((((Int.tdiv t198 536870912) % 4294967296) % 4) == 0)), ((wrap64 (Int.tmod t198 536870912))), (wrap64 ((wrap64 (x207001_39 + 16)) + 32)), ((wrap64 (bt a0 4))), ((a0.extract 8 ((wrap64 (8 + (wrap64 (bt a0 4)))) : Int).toNat)), (by first | rfl | (simp; done) | (simp [*]; done) | (refine congrArg _ ?_; omega)), H', ⟨by have := HJ1.out; have := HJ11.out; have := HJ23.out; have := HJ39.out; first | omega | exact Nat.le_refl _⟩, ⟨by (with_reducible repeat (first | refine blk_drewN ?_ _ | refine blk_drew ?_ | refine blk_alloc ?_ _)); exact BK197.out⟩, ⟨by (with_reducible repeat (first | refine blk_drewN ?_ _ | refine blk_drew ?_ | refine blk_alloc ?_ _)); exact BK206.out⟩, ⟨by repeat (first | (with_reducible first | exact HB.out | apply below_alloc | apply pw_below_drewN | apply below_drew1 | refine below_set ?_ GE197.out | refine below_set ?_ GE206.out) | exact HB.out)⟩⟩
                                        · replace c49 := Bool.eq_false_iff.mpr c49
                                          subst c49
                                          have H1 : (signalboxref03_Decode.j4 kj39 a0 false (wrap64 (Int.tmod t198 536870912)) (wrap64 ((wrap64 (x207001_39 + 16)) + 32)) (wrap64 (bt a0 4)) (a0.extract 8 ((wrap64 (8 + (wrap64 (bt a0 4)))) : Int).toNat)) = some (r1, r2, r3, r4, r5) := by rw [if_neg (show ¬ (false = true) by decide)] at H; exact H
                                          clear H
                                          have H := H1
                                          clear H1
                                          have H' := Aside0.mk H
                                          clear H
                                          have hnb53 := NB206_197.out
                                          have hnc53 := NB197_206.out
                                          have hcz54_0 : wc.cell? ⟨gb206, 0, none⟩ = some (.int .i64 (wrap64 (Int.tmod t198 536870912))) := (blk_cell BK206.out 0).trans rfl
                                          have hcz54_1 : wc.cell? ⟨gb206, 1, none⟩ = some (.int .i64 x207001_39) := (blk_cell BK206.out 1).trans rfl
                                          have hcz54_2 : wc.cell? ⟨gb206, 2, none⟩ = some (.int .i64 (wrap64 (bt a0 4))) := (blk_cell BK206.out 2).trans rfl
                                          have hcz54_3 : wc.cell? ⟨gb206, 3, none⟩ = some (.string (a0.extract 8 ((wrap64 (8 + (wrap64 (bt a0 4)))) : Int).toNat)) := (blk_cell BK206.out 3).trans rfl
                                          have hfz54_0 := blk_frozen BK206.out 0
                                          have hfz54_1 := blk_frozen BK206.out 1
                                          have hfz54_2 := blk_frozen BK206.out 2
                                          have hfz54_3 := blk_frozen BK206.out 3
                                          go_wp2_with (first | (go_at_call 9; (with_reducible refine (signalboxref02_Right.calls kj39 (wrap64 (Int.tmod t198 536870912)) (wrap64 ((wrap64 (x207001_39 + 16)) + 32)) (wrap64 (bt a0 4)) (a0.extract 8 ((wrap64 (8 + (wrap64 (bt a0 4)))) : Int).toNat) false _ A48.out).mono ?_); rintro e w55 ⟨rfl, hb⟩; have n0_ := Aside0.mk (blk_below (g := gb197) (o := .cells #[.int .i64 0, .int .i64 0, .int .i64 0, .string (⟨#[]⟩ : ByteArray)] 23 (0, 0)) (by (with_reducible repeat (first | refine blk_drewN ?_ _ | refine blk_drew ?_ | refine blk_alloc ?_ _)); refine blk_far ?_ NB197_206.out _; (with_reducible repeat (first | refine blk_drewN ?_ _ | refine blk_drew ?_ | refine blk_alloc ?_ _)); refine blk_far ?_ NB197_206.out _; (with_reducible repeat (first | refine blk_drewN ?_ _ | refine blk_drew ?_ | refine blk_alloc ?_ _)); exact BK197.out) hb); have n1_ := Aside0.mk (blk_below (g := gb206) (o := .cells #[.int .i64 (wrap64 (Int.tmod t198 536870912)), .int .i64 (wrap64 ((wrap64 (x207001_39 + 16)) + 32)), .int .i64 (wrap64 (bt a0 4)), .string (a0.extract 8 ((wrap64 (8 + (wrap64 (bt a0 4)))) : Int).toNat)] 23 (0, 0)) (by (with_reducible repeat (first | refine blk_drewN ?_ _ | refine blk_drew ?_ | refine blk_alloc ?_ _)); refine blk_put (cs := #[.int .i64 (wrap64 (Int.tmod t198 536870912)), .int .i64 (wrap64 (x207001_39 + 16)), .int .i64 (wrap64 (bt a0 4)), .string (a0.extract 8 ((wrap64 (8 + (wrap64 (bt a0 4)))) : Int).toNat)]) ?_ 1 _ rfl; (with_reducible repeat (first | refine blk_drewN ?_ _ | refine blk_drew ?_ | refine blk_alloc ?_ _)); refine blk_put (cs := #[.int .i64 (wrap64 (Int.tmod t198 536870912)), .int .i64 x207001_39, .int .i64 (wrap64 (bt a0 4)), .string (a0.extract 8 ((wrap64 (8 + (wrap64 (bt a0 4)))) : Int).toNat)]) ?_ 1 _ rfl; (with_reducible repeat (first | refine blk_drewN ?_ _ | refine blk_drew ?_ | refine blk_alloc ?_ _)); exact BK206.out) hb); have n2_ := Aside0.mk (below_step (by repeat (first | (with_reducible first | exact HB.out | apply below_alloc | apply pw_below_drewN | apply below_drew1 | refine below_set ?_ GE197.out | refine below_set ?_ GE206.out) | exact HB.out)) hb); clear BK197; clear BK206; clear HB; have BK197 := n0_; have BK206 := n1_; have HB := n2_; clear n0_ n1_ n2_; (try clear hb); (try clear hb2); (try clear hk); (try clear hi)))
                                          repeat (go_quiet (first | (go_at_call 9; (with_reducible refine (signalboxref02_Right.calls kj39 (wrap64 (Int.tmod t198 536870912)) (wrap64 ((wrap64 (x207001_39 + 16)) + 32)) (wrap64 (bt a0 4)) (a0.extract 8 ((wrap64 (8 + (wrap64 (bt a0 4)))) : Int).toNat) false _ A48.out).mono ?_); rintro e w55 ⟨rfl, hb⟩; have n0_ := Aside0.mk (blk_below (g := gb197) (o := .cells #[.int .i64 0, .int .i64 0, .int .i64 0, .string (⟨#[]⟩ : ByteArray)] 23 (0, 0)) (by (with_reducible repeat (first | refine blk_drewN ?_ _ | refine blk_drew ?_ | refine blk_alloc ?_ _)); refine blk_far ?_ NB197_206.out _; (with_reducible repeat (first | refine blk_drewN ?_ _ | refine blk_drew ?_ | refine blk_alloc ?_ _)); refine blk_far ?_ NB197_206.out _; (with_reducible repeat (first | refine blk_drewN ?_ _ | refine blk_drew ?_ | refine blk_alloc ?_ _)); exact BK197.out) hb); have n1_ := Aside0.mk (blk_below (g := gb206) (o := .cells #[.int .i64 (wrap64 (Int.tmod t198 536870912)), .int .i64 (wrap64 ((wrap64 (x207001_39 + 16)) + 32)), .int .i64 (wrap64 (bt a0 4)), .string (a0.extract 8 ((wrap64 (8 + (wrap64 (bt a0 4)))) : Int).toNat)] 23 (0, 0)) (by (with_reducible repeat (first | refine blk_drewN ?_ _ | refine blk_drew ?_ | refine blk_alloc ?_ _)); refine blk_put (cs := #[.int .i64 (wrap64 (Int.tmod t198 536870912)), .int .i64 (wrap64 (x207001_39 + 16)), .int .i64 (wrap64 (bt a0 4)), .string (a0.extract 8 ((wrap64 (8 + (wrap64 (bt a0 4)))) : Int).toNat)]) ?_ 1 _ rfl; (with_reducible repeat (first | refine blk_drewN ?_ _ | refine blk_drew ?_ | refine blk_alloc ?_ _)); refine blk_put (cs := #[.int .i64 (wrap64 (Int.tmod t198 536870912)), .int .i64 x207001_39, .int .i64 (wrap64 (bt a0 4)), .string (a0.extract 8 ((wrap64 (8 + (wrap64 (bt a0 4)))) : Int).toNat)]) ?_ 1 _ rfl; (with_reducible repeat (first | refine blk_drewN ?_ _ | refine blk_drew ?_ | refine blk_alloc ?_ _)); exact BK206.out) hb); have n2_ := Aside0.mk (below_step (by repeat (first | (with_reducible first | exact HB.out | apply below_alloc | apply pw_below_drewN | apply below_drew1 | refine below_set ?_ GE197.out | refine below_set ?_ GE206.out) | exact HB.out)) hb); clear BK197; clear BK206; clear HB; have BK197 := n0_; have BK206 := n1_; have HB := n2_; clear n0_ n1_ n2_; (try clear hb); (try clear hb2); (try clear hk); (try clear hi))); try go_wp2_with (first | (go_at_call 9; (with_reducible refine (signalboxref02_Right.calls kj39 (wrap64 (Int.tmod t198 536870912)) (wrap64 ((wrap64 (x207001_39 + 16)) + 32)) (wrap64 (bt a0 4)) (a0.extract 8 ((wrap64 (8 + (wrap64 (bt a0 4)))) : Int).toNat) false _ A48.out).mono ?_); rintro e w55 ⟨rfl, hb⟩; have n0_ := Aside0.mk (blk_below (g := gb197) (o := .cells #[.int .i64 0, .int .i64 0, .int .i64 0, .string (⟨#[]⟩ : ByteArray)] 23 (0, 0)) (by (with_reducible repeat (first | refine blk_drewN ?_ _ | refine blk_drew ?_ | refine blk_alloc ?_ _)); refine blk_far ?_ NB197_206.out _; (with_reducible repeat (first | refine blk_drewN ?_ _ | refine blk_drew ?_ | refine blk_alloc ?_ _)); refine blk_far ?_ NB197_206.out _; (with_reducible repeat (first | refine blk_drewN ?_ _ | refine blk_drew ?_ | refine blk_alloc ?_ _)); exact BK197.out) hb); have n1_ := Aside0.mk (blk_below (g := gb206) (o := .cells #[.int .i64 (wrap64 (Int.tmod t198 536870912)), .int .i64 (wrap64 ((wrap64 (x207001_39 + 16)) + 32)), .int .i64 (wrap64 (bt a0 4)), .string (a0.extract 8 ((wrap64 (8 + (wrap64 (bt a0 4)))) : Int).toNat)] 23 (0, 0)) (by (with_reducible repeat (first | refine blk_drewN ?_ _ | refine blk_drew ?_ | refine blk_alloc ?_ _)); refine blk_put (cs := #[.int .i64 (wrap64 (Int.tmod t198 536870912)), .int .i64 (wrap64 (x207001_39 + 16)), .int .i64 (wrap64 (bt a0 4)), .string (a0.extract 8 ((wrap64 (8 + (wrap64 (bt a0 4)))) : Int).toNat)]) ?_ 1 _ rfl; (with_reducible repeat (first | refine blk_drewN ?_ _ | refine blk_drew ?_ | refine blk_alloc ?_ _)); refine blk_put (cs := #[.int .i64 (wrap64 (Int.tmod t198 536870912)), .int .i64 x207001_39, .int .i64 (wrap64 (bt a0 4)), .string (a0.extract 8 ((wrap64 (8 + (wrap64 (bt a0 4)))) : Int).toNat)]) ?_ 1 _ rfl; (with_reducible repeat (first | refine blk_drewN ?_ _ | refine blk_drew ?_ | refine blk_alloc ?_ _)); exact BK206.out) hb); have n2_ := Aside0.mk (below_step (by repeat (first | (with_reducible first | exact HB.out | apply below_alloc | apply pw_below_drewN | apply below_drew1 | refine below_set ?_ GE197.out | refine below_set ?_ GE206.out) | exact HB.out)) hb); clear BK197; clear BK206; clear HB; have BK197 := n0_; have BK206 := n1_; have HB := n2_; clear n0_ n1_ n2_; (try clear hb); (try clear hb2); (try clear hk); (try clear hi))))
                                          go_meet
                                          case rel => exact ⟨_, (false), ((wrap64 (Int.tmod t198 536870912))), (wrap64 ((wrap64 (x207001_39 + 16)) + 32)), ((wrap64 (bt a0 4))), ((a0.extract 8 ((wrap64 (8 + (wrap64 (bt a0 4)))) : Int).toNat)), (by first | rfl | (simp; done) | (simp [*]; done)), H', ⟨by have := HJ1.out; have := HJ11.out; have := HJ23.out; have := HJ39.out; first | omega | exact Nat.le_refl _⟩, ⟨by (with_reducible repeat (first | refine blk_drewN ?_ _ | refine blk_drew ?_ | refine blk_alloc ?_ _)); exact BK197.out⟩, ⟨by (with_reducible repeat (first | refine blk_drewN ?_ _ | refine blk_drew ?_ | refine blk_alloc ?_ _)); exact BK206.out⟩, ⟨by repeat (first | (with_reducible first | exact HB.out | apply below_alloc | apply pw_below_drewN | apply below_drew1 | refine below_set ?_ GE197.out | refine below_set ?_ GE206.out) | exact HB.out)⟩⟩
                                      · rw [if_neg c47] at H
                                        have c47b0 : ((Int.tmod (wrap64 (Int.tdiv (wrap64 (bt a0 5)) 2)) 2) == 1) = false := beq_eq_false_iff_ne.mpr c47
                                        have c47b1 : ((Int.tmod (wrap64 (Int.tdiv (wrap64 (bt a0 5)) 2)) 2) != 1) = true := bne_iff_ne.mpr c47
                                        replace H := Option.bind_eq_some_iff.mp H
                                        obtain ⟨t208, A560, H⟩ := H
                                        replace H : (if t208 = true then (signalboxref03_Decode.j4 kj39 a0 ((((Int.tdiv t198 536870912) % 4294967296) % 4) == 0) (wrap64 (Int.tmod t198 536870912)) (wrap64 (x207001_39 + 16)) (wrap64 (bt a0 4)) (a0.extract 8 ((wrap64 (8 + (wrap64 (bt a0 4)))) : Int).toNat)) else (signalboxref03_Decode.j4 kj39 a0 false (wrap64 (Int.tmod t198 536870912)) (wrap64 (x207001_39 + 16)) (wrap64 (bt a0 4)) (a0.extract 8 ((wrap64 (8 + (wrap64 (bt a0 4)))) : Int).toNat))) = some (r1, r2, r3, r4, r5) := H
                                        have A56 := Aside0.mk A560
                                        clear A560
                                        by_cases c57 : t208 = true
                                        · subst c57
                                          have H1 : (signalboxref03_Decode.j4 kj39 a0 ((((Int.tdiv t198 536870912) % 4294967296) % 4) == 0) (wrap64 (Int.tmod t198 536870912)) (wrap64 (x207001_39 + 16)) (wrap64 (bt a0 4)) (a0.extract 8 ((wrap64 (8 + (wrap64 (bt a0 4)))) : Int).toNat)) = some (r1, r2, r3, r4, r5) := by rw [if_pos rfl] at H; exact H
                                          clear H
                                          have H := H1
                                          clear H1
                                          have H' := Aside0.mk H
                                          clear H
                                          have hnb58 := NB206_197.out
                                          have hnc58 := NB197_206.out
                                          have hcz59_0 : wc.cell? ⟨gb206, 0, none⟩ = some (.int .i64 (wrap64 (Int.tmod t198 536870912))) := (blk_cell BK206.out 0).trans rfl
                                          have hcz59_1 : wc.cell? ⟨gb206, 1, none⟩ = some (.int .i64 x207001_39) := (blk_cell BK206.out 1).trans rfl
                                          have hcz59_2 : wc.cell? ⟨gb206, 2, none⟩ = some (.int .i64 (wrap64 (bt a0 4))) := (blk_cell BK206.out 2).trans rfl
                                          have hcz59_3 : wc.cell? ⟨gb206, 3, none⟩ = some (.string (a0.extract 8 ((wrap64 (8 + (wrap64 (bt a0 4)))) : Int).toNat)) := (blk_cell BK206.out 3).trans rfl
                                          have hfz59_0 := blk_frozen BK206.out 0
                                          have hfz59_1 := blk_frozen BK206.out 1
                                          have hfz59_2 := blk_frozen BK206.out 2
                                          have hfz59_3 := blk_frozen BK206.out 3
                                          go_wp2_with (first | (go_at_call 9; (with_reducible refine (signalboxref02_Right.calls kj39 (wrap64 (Int.tmod t198 536870912)) (wrap64 (x207001_39 + 16)) (wrap64 (bt a0 4)) (a0.extract 8 ((wrap64 (8 + (wrap64 (bt a0 4)))) : Int).toNat) true _ A56.out).mono ?_); rintro e w60 ⟨rfl, hb⟩; have n0_ := Aside0.mk (blk_below (g := gb197) (o := .cells #[.int .i64 0, .int .i64 0, .int .i64 0, .string (⟨#[]⟩ : ByteArray)] 23 (0, 0)) (by (with_reducible repeat (first | refine blk_drewN ?_ _ | refine blk_drew ?_ | refine blk_alloc ?_ _)); refine blk_far ?_ NB197_206.out _; (with_reducible repeat (first | refine blk_drewN ?_ _ | refine blk_drew ?_ | refine blk_alloc ?_ _)); exact BK197.out) hb); have n1_ := Aside0.mk (blk_below (g := gb206) (o := .cells #[.int .i64 (wrap64 (Int.tmod t198 536870912)), .int .i64 (wrap64 (x207001_39 + 16)), .int .i64 (wrap64 (bt a0 4)), .string (a0.extract 8 ((wrap64 (8 + (wrap64 (bt a0 4)))) : Int).toNat)] 23 (0, 0)) (by (with_reducible repeat (first | refine blk_drewN ?_ _ | refine blk_drew ?_ | refine blk_alloc ?_ _)); refine blk_put (cs := #[.int .i64 (wrap64 (Int.tmod t198 536870912)), .int .i64 x207001_39, .int .i64 (wrap64 (bt a0 4)), .string (a0.extract 8 ((wrap64 (8 + (wrap64 (bt a0 4)))) : Int).toNat)]) ?_ 1 _ rfl; (with_reducible repeat (first | refine blk_drewN ?_ _ | refine blk_drew ?_ | refine blk_alloc ?_ _)); exact BK206.out) hb); have n2_ := Aside0.mk (below_step (by repeat (first | (with_reducible first | exact HB.out | apply below_alloc | apply pw_below_drewN | apply below_drew1 | refine below_set ?_ GE197.out | refine below_set ?_ GE206.out) | exact HB.out)) hb); clear BK197; clear BK206; clear HB; have BK197 := n0_; have BK206 := n1_; have HB := n2_; clear n0_ n1_ n2_; (try clear hb); (try clear hb2); (try clear hk); (try clear hi)))
                                          repeat (go_quiet (first | (go_at_call 9; (with_reducible refine (signalboxref02_Right.calls kj39 (wrap64 (Int.tmod t198 536870912)) (wrap64 (x207001_39 + 16)) (wrap64 (bt a0 4)) (a0.extract 8 ((wrap64 (8 + (wrap64 (bt a0 4)))) : Int).toNat) true _ A56.out).mono ?_); rintro e w60 ⟨rfl, hb⟩; have n0_ := Aside0.mk (blk_below (g := gb197) (o := .cells #[.int .i64 0, .int .i64 0, .int .i64 0, .string (⟨#[]⟩ : ByteArray)] 23 (0, 0)) (by (with_reducible repeat (first | refine blk_drewN ?_ _ | refine blk_drew ?_ | refine blk_alloc ?_ _)); refine blk_far ?_ NB197_206.out _; (with_reducible repeat (first | refine blk_drewN ?_ _ | refine blk_drew ?_ | refine blk_alloc ?_ _)); exact BK197.out) hb); have n1_ := Aside0.mk (blk_below (g := gb206) (o := .cells #[.int .i64 (wrap64 (Int.tmod t198 536870912)), .int .i64 (wrap64 (x207001_39 + 16)), .int .i64 (wrap64 (bt a0 4)), .string (a0.extract 8 ((wrap64 (8 + (wrap64 (bt a0 4)))) : Int).toNat)] 23 (0, 0)) (by (with_reducible repeat (first | refine blk_drewN ?_ _ | refine blk_drew ?_ | refine blk_alloc ?_ _)); refine blk_put (cs := #[.int .i64 (wrap64 (Int.tmod t198 536870912)), .int .i64 x207001_39, .int .i64 (wrap64 (bt a0 4)), .string (a0.extract 8 ((wrap64 (8 + (wrap64 (bt a0 4)))) : Int).toNat)]) ?_ 1 _ rfl; (with_reducible repeat (first | refine blk_drewN ?_ _ | refine blk_drew ?_ | refine blk_alloc ?_ _)); exact BK206.out) hb); have n2_ := Aside0.mk (below_step (by repeat (first | (with_reducible first | exact HB.out | apply below_alloc | apply pw_below_drewN | apply below_drew1 | refine below_set ?_ GE197.out | refine below_set ?_ GE206.out) | exact HB.out)) hb); clear BK197; clear BK206; clear HB; have BK197 := n0_; have BK206 := n1_; have HB := n2_; clear n0_ n1_ n2_; (try clear hb); (try clear hb2); (try clear hk); (try clear hi))); try go_wp2_with (first | (go_at_call 9; (with_reducible refine (signalboxref02_Right.calls kj39 (wrap64 (Int.tmod t198 536870912)) (wrap64 (x207001_39 + 16)) (wrap64 (bt a0 4)) (a0.extract 8 ((wrap64 (8 + (wrap64 (bt a0 4)))) : Int).toNat) true _ A56.out).mono ?_); rintro e w60 ⟨rfl, hb⟩; have n0_ := Aside0.mk (blk_below (g := gb197) (o := .cells #[.int .i64 0, .int .i64 0, .int .i64 0, .string (⟨#[]⟩ : ByteArray)] 23 (0, 0)) (by (with_reducible repeat (first | refine blk_drewN ?_ _ | refine blk_drew ?_ | refine blk_alloc ?_ _)); refine blk_far ?_ NB197_206.out _; (with_reducible repeat (first | refine blk_drewN ?_ _ | refine blk_drew ?_ | refine blk_alloc ?_ _)); exact BK197.out) hb); have n1_ := Aside0.mk (blk_below (g := gb206) (o := .cells #[.int .i64 (wrap64 (Int.tmod t198 536870912)), .int .i64 (wrap64 (x207001_39 + 16)), .int .i64 (wrap64 (bt a0 4)), .string (a0.extract 8 ((wrap64 (8 + (wrap64 (bt a0 4)))) : Int).toNat)] 23 (0, 0)) (by (with_reducible repeat (first | refine blk_drewN ?_ _ | refine blk_drew ?_ | refine blk_alloc ?_ _)); refine blk_put (cs := #[.int .i64 (wrap64 (Int.tmod t198 536870912)), .int .i64 x207001_39, .int .i64 (wrap64 (bt a0 4)), .string (a0.extract 8 ((wrap64 (8 + (wrap64 (bt a0 4)))) : Int).toNat)]) ?_ 1 _ rfl; (with_reducible repeat (first | refine blk_drewN ?_ _ | refine blk_drew ?_ | refine blk_alloc ?_ _)); exact BK206.out) hb); have n2_ := Aside0.mk (below_step (by repeat (first | (with_reducible first | exact HB.out | apply below_alloc | apply pw_below_drewN | apply below_drew1 | refine below_set ?_ GE197.out | refine below_set ?_ GE206.out) | exact HB.out)) hb); clear BK197; clear BK206; clear HB; have BK197 := n0_; have BK206 := n1_; have HB := n2_; clear n0_ n1_ n2_; (try clear hb); (try clear hb2); (try clear hk); (try clear hi))))
                                          go_meet
                                          case rel => exact ⟨_, (((((Int.tdiv t198 536870912) % 4294967296) % 4) == 0)), ((wrap64 (Int.tmod t198 536870912))), (wrap64 (x207001_39 + 16)), ((wrap64 (bt a0 4))), ((a0.extract 8 ((wrap64 (8 + (wrap64 (bt a0 4)))) : Int).toNat)), (by first | rfl | (simp; done) | (simp [*]; done) | (refine congrArg _ ?_; omega)), H', ⟨by have := HJ1.out; have := HJ11.out; have := HJ23.out; have := HJ39.out; first | omega | exact Nat.le_refl _⟩, ⟨by (with_reducible repeat (first | refine blk_drewN ?_ _ | refine blk_drew ?_ | refine blk_alloc ?_ _)); exact BK197.out⟩, ⟨by (with_reducible repeat (first | refine blk_drewN ?_ _ | refine blk_drew ?_ | refine blk_alloc ?_ _)); exact BK206.out⟩, ⟨by repeat (first | (with_reducible first | exact HB.out | apply below_alloc | apply pw_below_drewN | apply below_drew1 | refine below_set ?_ GE197.out | refine below_set ?_ GE206.out) | exact HB.out)⟩⟩
                                        · replace c57 := Bool.eq_false_iff.mpr c57
                                          subst c57
                                          have H1 : (signalboxref03_Decode.j4 kj39 a0 false (wrap64 (Int.tmod t198 536870912)) (wrap64 (x207001_39 + 16)) (wrap64 (bt a0 4)) (a0.extract 8 ((wrap64 (8 + (wrap64 (bt a0 4)))) : Int).toNat)) = some (r1, r2, r3, r4, r5) := by rw [if_neg (show ¬ (false = true) by decide)] at H; exact H
                                          clear H
                                          have H := H1
                                          clear H1
                                          have H' := Aside0.mk H
                                          clear H
                                          have hnb61 := NB206_197.out
                                          have hnc61 := NB197_206.out
                                          have hcz62_0 : wc.cell? ⟨gb206, 0, none⟩ = some (.int .i64 (wrap64 (Int.tmod t198 536870912))) := (blk_cell BK206.out 0).trans rfl
                                          have hcz62_1 : wc.cell? ⟨gb206, 1, none⟩ = some (.int .i64 x207001_39) := (blk_cell BK206.out 1).trans rfl
                                          have hcz62_2 : wc.cell? ⟨gb206, 2, none⟩ = some (.int .i64 (wrap64 (bt a0 4))) := (blk_cell BK206.out 2).trans rfl
                                          have hcz62_3 : wc.cell? ⟨gb206, 3, none⟩ = some (.string (a0.extract 8 ((wrap64 (8 + (wrap64 (bt a0 4)))) : Int).toNat)) := (blk_cell BK206.out 3).trans rfl
                                          have hfz62_0 := blk_frozen BK206.out 0
                                          have hfz62_1 := blk_frozen BK206.out 1
                                          have hfz62_2 := blk_frozen BK206.out 2
                                          have hfz62_3 := blk_frozen BK206.out 3
                                          go_wp2_with (first | (go_at_call 9; (with_reducible refine (signalboxref02_Right.calls kj39 (wrap64 (Int.tmod t198 536870912)) (wrap64 (x207001_39 + 16)) (wrap64 (bt a0 4)) (a0.extract 8 ((wrap64 (8 + (wrap64 (bt a0 4)))) : Int).toNat) false _ A56.out).mono ?_); rintro e w63 ⟨rfl, hb⟩; have n0_ := Aside0.mk (blk_below (g := gb197) (o := .cells #[.int .i64 0, .int .i64 0, .int .i64 0, .string (⟨#[]⟩ : ByteArray)] 23 (0, 0)) (by (with_reducible repeat (first | refine blk_drewN ?_ _ | refine blk_drew ?_ | refine blk_alloc ?_ _)); refine blk_far ?_ NB197_206.out _; (with_reducible repeat (first | refine blk_drewN ?_ _ | refine blk_drew ?_ | refine blk_alloc ?_ _)); exact BK197.out) hb); have n1_ := Aside0.mk (blk_below (g := gb206) (o := .cells #[.int .i64 (wrap64 (Int.tmod t198 536870912)), .int .i64 (wrap64 (x207001_39 + 16)), .int .i64 (wrap64 (bt a0 4)), .string (a0.extract 8 ((wrap64 (8 + (wrap64 (bt a0 4)))) : Int).toNat)] 23 (0, 0)) (by (with_reducible repeat (first | refine blk_drewN ?_ _ | refine blk_drew ?_ | refine blk_alloc ?_ _)); refine blk_put (cs := #[.int .i64 (wrap64 (Int.tmod t198 536870912)), .int .i64 x207001_39, .int .i64 (wrap64 (bt a0 4)), .string (a0.extract 8 ((wrap64 (8 + (wrap64 (bt a0 4)))) : Int).toNat)]) ?_ 1 _ rfl; (with_reducible repeat (first | refine blk_drewN ?_ _ | refine blk_drew ?_ | refine blk_alloc ?_ _)); exact BK206.out) hb); have n2_ := Aside0.mk (below_step (by repeat (first | (with_reducible first | exact HB.out | apply below_alloc | apply pw_below_drewN | apply below_drew1 | refine below_set ?_ GE197.out | refine below_set ?_ GE206.out) | exact HB.out)) hb); clear BK197; clear BK206; clear HB; have BK197 := n0_; have BK206 := n1_; have HB := n2_; clear n0_ n1_ n2_; (try clear hb); (try clear hb2); (try clear hk); (try clear hi)))
                                          repeat (go_quiet (first | (go_at_call 9; (with_reducible refine (signalboxref02_Right.calls kj39 (wrap64 (Int.tmod t198 536870912)) (wrap64 (x207001_39 + 16)) (wrap64 (bt a0 4)) (a0.extract 8 ((wrap64 (8 + (wrap64 (bt a0 4)))) : Int).toNat) false _ A56.out).mono ?_); rintro e w63 ⟨rfl, hb⟩; have n0_ := Aside0.mk (blk_below (g := gb197) (o := .cells #[.int .i64 0, .int .i64 0, .int .i64 0, .string (⟨#[]⟩ : ByteArray)] 23 (0, 0)) (by (with_reducible repeat (first | refine blk_drewN ?_ _ | refine blk_drew ?_ | refine blk_alloc ?_ _)); refine blk_far ?_ NB197_206.out _; (with_reducible repeat (first | refine blk_drewN ?_ _ | refine blk_drew ?_ | refine blk_alloc ?_ _)); exact BK197.out) hb); have n1_ := Aside0.mk (blk_below (g := gb206) (o := .cells #[.int .i64 (wrap64 (Int.tmod t198 536870912)), .int .i64 (wrap64 (x207001_39 + 16)), .int .i64 (wrap64 (bt a0 4)), .string (a0.extract 8 ((wrap64 (8 + (wrap64 (bt a0 4)))) : Int).toNat)] 23 (0, 0)) (by (with_reducible repeat (first | refine blk_drewN ?_ _ | refine blk_drew ?_ | refine blk_alloc ?_ _)); refine blk_put (cs := #[.int .i64 (wrap64 (Int.tmod t198 536870912)), .int .i64 x207001_39, .int .i64 (wrap64 (bt a0 4)), .string (a0.extract 8 ((wrap64 (8 + (wrap64 (bt a0 4)))) : Int).toNat)]) ?_ 1 _ rfl; (with_reducible repeat (first | refine blk_drewN ?_ _ | refine blk_drew ?_ | refine blk_alloc ?_ _)); exact BK206.out) hb); have n2_ := Aside0.mk (below_step (by repeat (first | (with_reducible first | exact HB.out | apply below_alloc | apply pw_below_drewN | apply below_drew1 | refine below_set ?_ GE197.out | refine below_set ?_ GE206.out) | exact HB.out)) hb); clear BK197; clear BK206; clear HB; have BK197 := n0_; have BK206 := n1_; have HB := n2_; clear n0_ n1_ n2_; (try clear hb); (try clear hb2); (try clear hk); (try clear hi))); try go_wp2_with (first | (go_at_call 9; (with_reducible refine (signalboxref02_Right.calls kj39 (wrap64 (Int.tmod t198 536870912)) (wrap64 (x207001_39 + 16)) (wrap64 (bt a0 4)) (a0.extract 8 ((wrap64 (8 + (wrap64 (bt a0 4)))) : Int).toNat) false _ A56.out).mono ?_); rintro e w63 ⟨rfl, hb⟩; have n0_ := Aside0.mk (blk_below (g := gb197) (o := .cells #[.int .i64 0, .int .i64 0, .int .i64 0, .string (⟨#[]⟩ : ByteArray)] 23 (0, 0)) (by (with_reducible repeat (first | refine blk_drewN ?_ _ | refine blk_drew ?_ | refine blk_alloc ?_ _)); refine blk_far ?_ NB197_206.out _; (with_reducible repeat (first | refine blk_drewN ?_ _ | refine blk_drew ?_ | refine blk_alloc ?_ _)); exact BK197.out) hb); have n1_ := Aside0.mk (blk_below (g := gb206) (o := .cells #[.int .i64 (wrap64 (Int.tmod t198 536870912)), .int .i64 (wrap64 (x207001_39 + 16)), .int .i64 (wrap64 (bt a0 4)), .string (a0.extract 8 ((wrap64 (8 + (wrap64 (bt a0 4)))) : Int).toNat)] 23 (0, 0)) (by (with_reducible repeat (first | refine blk_drewN ?_ _ | refine blk_drew ?_ | refine blk_alloc ?_ _)); refine blk_put (cs := #[.int .i64 (wrap64 (Int.tmod t198 536870912)), .int .i64 x207001_39, .int .i64 (wrap64 (bt a0 4)), .string (a0.extract 8 ((wrap64 (8 + (wrap64 (bt a0 4)))) : Int).toNat)]) ?_ 1 _ rfl; (with_reducible repeat (first | refine blk_drewN ?_ _ | refine blk_drew ?_ | refine blk_alloc ?_ _)); exact BK206.out) hb); have n2_ := Aside0.mk (below_step (by repeat (first | (with_reducible first | exact HB.out | apply below_alloc | apply pw_below_drewN | apply below_drew1 | refine below_set ?_ GE197.out | refine below_set ?_ GE206.out) | exact HB.out)) hb); clear BK197; clear BK206; clear HB; have BK197 := n0_; have BK206 := n1_; have HB := n2_; clear n0_ n1_ n2_; (try clear hb); (try clear hb2); (try clear hk); (try clear hi))))
                                          go_meet
                                          case rel => exact ⟨_, (false), ((wrap64 (Int.tmod t198 536870912))), (wrap64 (x207001_39 + 16)), ((wrap64 (bt a0 4))), ((a0.extract 8 ((wrap64 (8 + (wrap64 (bt a0 4)))) : Int).toNat)), (by first | rfl | (simp; done) | (simp [*]; done)), H', ⟨by have := HJ1.out; have := HJ11.out; have := HJ23.out; have := HJ39.out; first | omega | exact Nat.le_refl _⟩, ⟨by (with_reducible repeat (first | refine blk_drewN ?_ _ | refine blk_drew ?_ | refine blk_alloc ?_ _)); exact BK197.out⟩, ⟨by (with_reducible repeat (first | refine blk_drewN ?_ _ | refine blk_drew ?_ | refine blk_alloc ?_ _)); exact BK206.out⟩, ⟨by repeat (first | (with_reducible first | exact HB.out | apply below_alloc | apply pw_below_drewN | apply below_drew1 | refine below_set ?_ GE197.out | refine below_set ?_ GE206.out) | exact HB.out)⟩⟩
                                    · rw [if_neg c46] at H
                                      have c46b0 : ((Int.tmod (wrap64 (bt a0 5)) 2) == 1) = false := beq_eq_false_iff_ne.mpr c46
                                      have c46b1 : ((Int.tmod (wrap64 (bt a0 5)) 2) != 1) = true := bne_iff_ne.mpr c46
                                      by_cases c64 : (Int.tmod (wrap64 (Int.tdiv (wrap64 (bt a0 5)) 2)) 2) = 1
                                      · rw [if_pos c64] at H
                                        have c64b0 : ((Int.tmod (wrap64 (Int.tdiv (wrap64 (bt a0 5)) 2)) 2) == 1) = true := beq_iff_eq.mpr c64
                                        have c64b1 : ((Int.tmod (wrap64 (Int.tdiv (wrap64 (bt a0 5)) 2)) 2) != 1) = false := bne_eq_false_iff_eq.mpr c64
                                        clear c64
                                        replace H := Option.bind_eq_some_iff.mp H
                                        obtain ⟨t209, A650, H⟩ := H
                                        replace H : (if t209 = true then (signalboxref03_Decode.j4 kj39 a0 ((((Int.tdiv t198 536870912) % 4294967296) % 4) == 0) (wrap64 (Int.tmod t198 536870912)) (wrap64 (x207001_39 + 32)) (wrap64 (bt a0 4)) (a0.extract 8 ((wrap64 (8 + (wrap64 (bt a0 4)))) : Int).toNat)) else (signalboxref03_Decode.j4 kj39 a0 false (wrap64 (Int.tmod t198 536870912)) (wrap64 (x207001_39 + 32)) (wrap64 (bt a0 4)) (a0.extract 8 ((wrap64 (8 + (wrap64 (bt a0 4)))) : Int).toNat))) = some (r1, r2, r3, r4, r5) := H
                                        have A65 := Aside0.mk A650
                                        clear A650
                                        by_cases c66 : t209 = true
                                        · subst c66
                                          have H1 : (signalboxref03_Decode.j4 kj39 a0 ((((Int.tdiv t198 536870912) % 4294967296) % 4) == 0) (wrap64 (Int.tmod t198 536870912)) (wrap64 (x207001_39 + 32)) (wrap64 (bt a0 4)) (a0.extract 8 ((wrap64 (8 + (wrap64 (bt a0 4)))) : Int).toNat)) = some (r1, r2, r3, r4, r5) := by rw [if_pos rfl] at H; exact H
                                          clear H
                                          have H := H1
                                          clear H1
                                          have H' := Aside0.mk H
                                          clear H
                                          have hnb67 := NB206_197.out
                                          have hnc67 := NB197_206.out
                                          have hcz68_0 : wc.cell? ⟨gb206, 0, none⟩ = some (.int .i64 (wrap64 (Int.tmod t198 536870912))) := (blk_cell BK206.out 0).trans rfl
                                          have hcz68_1 : wc.cell? ⟨gb206, 1, none⟩ = some (.int .i64 x207001_39) := (blk_cell BK206.out 1).trans rfl
                                          have hcz68_2 : wc.cell? ⟨gb206, 2, none⟩ = some (.int .i64 (wrap64 (bt a0 4))) := (blk_cell BK206.out 2).trans rfl
                                          have hcz68_3 : wc.cell? ⟨gb206, 3, none⟩ = some (.string (a0.extract 8 ((wrap64 (8 + (wrap64 (bt a0 4)))) : Int).toNat)) := (blk_cell BK206.out 3).trans rfl
                                          have hfz68_0 := blk_frozen BK206.out 0
                                          have hfz68_1 := blk_frozen BK206.out 1
                                          have hfz68_2 := blk_frozen BK206.out 2
                                          have hfz68_3 := blk_frozen BK206.out 3
                                          go_wp2_with (first | (go_at_call 9; (with_reducible refine (signalboxref02_Right.calls kj39 (wrap64 (Int.tmod t198 536870912)) (wrap64 (x207001_39 + 32)) (wrap64 (bt a0 4)) (a0.extract 8 ((wrap64 (8 + (wrap64 (bt a0 4)))) : Int).toNat) true _ A65.out).mono ?_); rintro e w69 ⟨rfl, hb⟩; have n0_ := Aside0.mk (blk_below (g := gb197) (o := .cells #[.int .i64 0, .int .i64 0, .int .i64 0, .string (⟨#[]⟩ : ByteArray)] 23 (0, 0)) (by (with_reducible repeat (first | refine blk_drewN ?_ _ | refine blk_drew ?_ | refine blk_alloc ?_ _)); refine blk_far ?_ NB197_206.out _; (with_reducible repeat (first | refine blk_drewN ?_ _ | refine blk_drew ?_ | refine blk_alloc ?_ _)); exact BK197.out) hb); have n1_ := Aside0.mk (blk_below (g := gb206) (o := .cells #[.int .i64 (wrap64 (Int.tmod t198 536870912)), .int .i64 (wrap64 (x207001_39 + 32)), .int .i64 (wrap64 (bt a0 4)), .string (a0.extract 8 ((wrap64 (8 + (wrap64 (bt a0 4)))) : Int).toNat)] 23 (0, 0)) (by (with_reducible repeat (first | refine blk_drewN ?_ _ | refine blk_drew ?_ | refine blk_alloc ?_ _)); refine blk_put (cs := #[.int .i64 (wrap64 (Int.tmod t198 536870912)), .int .i64 x207001_39, .int .i64 (wrap64 (bt a0 4)), .string (a0.extract 8 ((wrap64 (8 + (wrap64 (bt a0 4)))) : Int).toNat)]) ?_ 1 _ rfl; (with_reducible repeat (first | refine blk_drewN ?_ _ | refine blk_drew ?_ | refine blk_alloc ?_ _)); exact BK206.out) hb); have n2_ := Aside0.mk (below_step (by repeat (first | (with_reducible first | exact HB.out | apply below_alloc | apply pw_below_drewN | apply below_drew1 | refine below_set ?_ GE197.out | refine below_set ?_ GE206.out) | exact HB.out)) hb); clear BK197; clear BK206; clear HB; have BK197 := n0_; have BK206 := n1_; have HB := n2_; clear n0_ n1_ n2_; (try clear hb); (try clear hb2); (try clear hk); (try clear hi)))
                                          repeat (go_quiet (first | (go_at_call 9; (with_reducible refine (signalboxref02_Right.calls kj39 (wrap64 (Int.tmod t198 536870912)) (wrap64 (x207001_39 + 32)) (wrap64 (bt a0 4)) (a0.extract 8 ((wrap64 (8 + (wrap64 (bt a0 4)))) : Int).toNat) true _ A65.out).mono ?_); rintro e w69 ⟨rfl, hb⟩; have n0_ := Aside0.mk (blk_below (g := gb197) (o := .cells #[.int .i64 0, .int .i64 0, .int .i64 0, .string (⟨#[]⟩ : ByteArray)] 23 (0, 0)) (by (with_reducible repeat (first | refine blk_drewN ?_ _ | refine blk_drew ?_ | refine blk_alloc ?_ _)); refine blk_far ?_ NB197_206.out _; (with_reducible repeat (first | refine blk_drewN ?_ _ | refine blk_drew ?_ | refine blk_alloc ?_ _)); exact BK197.out) hb); have n1_ := Aside0.mk (blk_below (g := gb206) (o := .cells #[.int .i64 (wrap64 (Int.tmod t198 536870912)), .int .i64 (wrap64 (x207001_39 + 32)), .int .i64 (wrap64 (bt a0 4)), .string (a0.extract 8 ((wrap64 (8 + (wrap64 (bt a0 4)))) : Int).toNat)] 23 (0, 0)) (by (with_reducible repeat (first | refine blk_drewN ?_ _ | refine blk_drew ?_ | refine blk_alloc ?_ _)); refine blk_put (cs := #[.int .i64 (wrap64 (Int.tmod t198 536870912)), .int .i64 x207001_39, .int .i64 (wrap64 (bt a0 4)), .string (a0.extract 8 ((wrap64 (8 + (wrap64 (bt a0 4)))) : Int).toNat)]) ?_ 1 _ rfl; (with_reducible repeat (first | refine blk_drewN ?_ _ | refine blk_drew ?_ | refine blk_alloc ?_ _)); exact BK206.out) hb); have n2_ := Aside0.mk (below_step (by repeat (first | (with_reducible first | exact HB.out | apply below_alloc | apply pw_below_drewN | apply below_drew1 | refine below_set ?_ GE197.out | refine below_set ?_ GE206.out) | exact HB.out)) hb); clear BK197; clear BK206; clear HB; have BK197 := n0_; have BK206 := n1_; have HB := n2_; clear n0_ n1_ n2_; (try clear hb); (try clear hb2); (try clear hk); (try clear hi))); try go_wp2_with (first | (go_at_call 9; (with_reducible refine (signalboxref02_Right.calls kj39 (wrap64 (Int.tmod t198 536870912)) (wrap64 (x207001_39 + 32)) (wrap64 (bt a0 4)) (a0.extract 8 ((wrap64 (8 + (wrap64 (bt a0 4)))) : Int).toNat) true _ A65.out).mono ?_); rintro e w69 ⟨rfl, hb⟩; have n0_ := Aside0.mk (blk_below (g := gb197) (o := .cells #[.int .i64 0, .int .i64 0, .int .i64 0, .string (⟨#[]⟩ : ByteArray)] 23 (0, 0)) (by (with_reducible repeat (first | refine blk_drewN ?_ _ | refine blk_drew ?_ | refine blk_alloc ?_ _)); refine blk_far ?_ NB197_206.out _; (with_reducible repeat (first | refine blk_drewN ?_ _ | refine blk_drew ?_ | refine blk_alloc ?_ _)); exact BK197.out) hb); have n1_ := Aside0.mk (blk_below (g := gb206) (o := .cells #[.int .i64 (wrap64 (Int.tmod t198 536870912)), .int .i64 (wrap64 (x207001_39 + 32)), .int .i64 (wrap64 (bt a0 4)), .string (a0.extract 8 ((wrap64 (8 + (wrap64 (bt a0 4)))) : Int).toNat)] 23 (0, 0)) (by (with_reducible repeat (first | refine blk_drewN ?_ _ | refine blk_drew ?_ | refine blk_alloc ?_ _)); refine blk_put (cs := #[.int .i64 (wrap64 (Int.tmod t198 536870912)), .int .i64 x207001_39, .int .i64 (wrap64 (bt a0 4)), .string (a0.extract 8 ((wrap64 (8 + (wrap64 (bt a0 4)))) : Int).toNat)]) ?_ 1 _ rfl; (with_reducible repeat (first | refine blk_drewN ?_ _ | refine blk_drew ?_ | refine blk_alloc ?_ _)); exact BK206.out) hb); have n2_ := Aside0.mk (below_step (by repeat (first | (with_reducible first | exact HB.out | apply below_alloc | apply pw_below_drewN | apply below_drew1 | refine below_set ?_ GE197.out | refine below_set ?_ GE206.out) | exact HB.out)) hb); clear BK197; clear BK206; clear HB; have BK197 := n0_; have BK206 := n1_; have HB := n2_; clear n0_ n1_ n2_; (try clear hb); (try clear hb2); (try clear hk); (try clear hi))))
                                          go_meet
                                          case rel => exact ⟨_, (((((Int.tdiv t198 536870912) % 4294967296) % 4) == 0)), ((wrap64 (Int.tmod t198 536870912))), (wrap64 (x207001_39 + 32)), ((wrap64 (bt a0 4))), ((a0.extract 8 ((wrap64 (8 + (wrap64 (bt a0 4)))) : Int).toNat)), (by first | rfl | (simp; done) | (simp [*]; done) | (refine congrArg _ ?_; omega)), H', ⟨by have := HJ1.out; have := HJ11.out; have := HJ23.out; have := HJ39.out; first | omega | exact Nat.le_refl _⟩, ⟨by (with_reducible repeat (first | refine blk_drewN ?_ _ | refine blk_drew ?_ | refine blk_alloc ?_ _)); exact BK197.out⟩, ⟨by (with_reducible repeat (first | refine blk_drewN ?_ _ | refine blk_drew ?_ | refine blk_alloc ?_ _)); exact BK206.out⟩, ⟨by repeat (first | (with_reducible first | exact HB.out | apply below_alloc | apply pw_below_drewN | apply below_drew1 | refine below_set ?_ GE197.out | refine below_set ?_ GE206.out) | exact HB.out)⟩⟩
                                        · replace c66 := Bool.eq_false_iff.mpr c66
                                          subst c66
                                          have H1 : (signalboxref03_Decode.j4 kj39 a0 false (wrap64 (Int.tmod t198 536870912)) (wrap64 (x207001_39 + 32)) (wrap64 (bt a0 4)) (a0.extract 8 ((wrap64 (8 + (wrap64 (bt a0 4)))) : Int).toNat)) = some (r1, r2, r3, r4, r5) := by rw [if_neg (show ¬ (false = true) by decide)] at H; exact H
                                          clear H
                                          have H := H1
                                          clear H1
                                          have H' := Aside0.mk H
                                          clear H
                                          have hnb70 := NB206_197.out
                                          have hnc70 := NB197_206.out
                                          have hcz71_0 : wc.cell? ⟨gb206, 0, none⟩ = some (.int .i64 (wrap64 (Int.tmod t198 536870912))) := (blk_cell BK206.out 0).trans rfl
                                          have hcz71_1 : wc.cell? ⟨gb206, 1, none⟩ = some (.int .i64 x207001_39) := (blk_cell BK206.out 1).trans rfl
                                          have hcz71_2 : wc.cell? ⟨gb206, 2, none⟩ = some (.int .i64 (wrap64 (bt a0 4))) := (blk_cell BK206.out 2).trans rfl
                                          have hcz71_3 : wc.cell? ⟨gb206, 3, none⟩ = some (.string (a0.extract 8 ((wrap64 (8 + (wrap64 (bt a0 4)))) : Int).toNat)) := (blk_cell BK206.out 3).trans rfl
                                          have hfz71_0 := blk_frozen BK206.out 0
                                          have hfz71_1 := blk_frozen BK206.out 1
                                          have hfz71_2 := blk_frozen BK206.out 2
                                          have hfz71_3 := blk_frozen BK206.out 3
                                          go_wp2_with (first | (go_at_call 9; (with_reducible refine (signalboxref02_Right.calls kj39 (wrap64 (Int.tmod t198 536870912)) (wrap64 (x207001_39 + 32)) (wrap64 (bt a0 4)) (a0.extract 8 ((wrap64 (8 + (wrap64 (bt a0 4)))) : Int).toNat) false _ A65.out).mono ?_); rintro e w72 ⟨rfl, hb⟩; have n0_ := Aside0.mk (blk_below (g := gb197) (o := .cells #[.int .i64 0, .int .i64 0, .int .i64 0, .string (⟨#[]⟩ : ByteArray)] 23 (0, 0)) (by (with_reducible repeat (first | refine blk_drewN ?_ _ | refine blk_drew ?_ | refine blk_alloc ?_ _)); refine blk_far ?_ NB197_206.out _; (with_reducible repeat (first | refine blk_drewN ?_ _ | refine blk_drew ?_ | refine blk_alloc ?_ _)); exact BK197.out) hb); have n1_ := Aside0.mk (blk_below (g := gb206) (o := .cells #[.int .i64 (wrap64 (Int.tmod t198 536870912)), .int .i64 (wrap64 (x207001_39 + 32)), .int .i64 (wrap64 (bt a0 4)), .string (a0.extract 8 ((wrap64 (8 + (wrap64 (bt a0 4)))) : Int).toNat)] 23 (0, 0)) (by (with_reducible repeat (first | refine blk_drewN ?_ _ | refine blk_drew ?_ | refine blk_alloc ?_ _)); refine blk_put (cs := #[.int .i64 (wrap64 (Int.tmod t198 536870912)), .int .i64 x207001_39, .int .i64 (wrap64 (bt a0 4)), .string (a0.extract 8 ((wrap64 (8 + (wrap64 (bt a0 4)))) : Int).toNat)]) ?_ 1 _ rfl; (with_reducible repeat (first | refine blk_drewN ?_ _ | refine blk_drew ?_ | refine blk_alloc ?_ _)); exact BK206.out) hb); have n2_ := Aside0.mk (below_step (by repeat (first | (with_reducible first | exact HB.out | apply below_alloc | apply pw_below_drewN | apply below_drew1 | refine below_set ?_ GE197.out | refine below_set ?_ GE206.out) | exact HB.out)) hb); clear BK197; clear BK206; clear HB; have BK197 := n0_; have BK206 := n1_; have HB := n2_; clear n0_ n1_ n2_; (try clear hb); (try clear hb2); (try clear hk); (try clear hi)))
                                          repeat (go_quiet (first | (go_at_call 9; (with_reducible refine (signalboxref02_Right.calls kj39 (wrap64 (Int.tmod t198 536870912)) (wrap64 (x207001_39 + 32)) (wrap64 (bt a0 4)) (a0.extract 8 ((wrap64 (8 + (wrap64 (bt a0 4)))) : Int).toNat) false _ A65.out).mono ?_); rintro e w72 ⟨rfl, hb⟩; have n0_ := Aside0.mk (blk_below (g := gb197) (o := .cells #[.int .i64 0, .int .i64 0, .int .i64 0, .string (⟨#[]⟩ : ByteArray)] 23 (0, 0)) (by (with_reducible repeat (first | refine blk_drewN ?_ _ | refine blk_drew ?_ | refine blk_alloc ?_ _)); refine blk_far ?_ NB197_206.out _; (with_reducible repeat (first | refine blk_drewN ?_ _ | refine blk_drew ?_ | refine blk_alloc ?_ _)); exact BK197.out) hb); have n1_ := Aside0.mk (blk_below (g := gb206) (o := .cells #[.int .i64 (wrap64 (Int.tmod t198 536870912)), .int .i64 (wrap64 (x207001_39 + 32)), .int .i64 (wrap64 (bt a0 4)), .string (a0.extract 8 ((wrap64 (8 + (wrap64 (bt a0 4)))) : Int).toNat)] 23 (0, 0)) (by (with_reducible repeat (first | refine blk_drewN ?_ _ | refine blk_drew ?_ | refine blk_alloc ?_ _)); refine blk_put (cs := #[.int .i64 (wrap64 (Int.tmod t198 536870912)), .int .i64 x207001_39, .int .i64 (wrap64 (bt a0 4)), .string (a0.extract 8 ((wrap64 (8 + (wrap64 (bt a0 4)))) : Int).toNat)]) ?_ 1 _ rfl; (with_reducible repeat (first | refine blk_drewN ?_ _ | refine blk_drew ?_ | refine blk_alloc ?_ _)); exact BK206.out) hb); have n2_ := Aside0.mk (below_step (by repeat (first | (with_reducible first | exact HB.out | apply below_alloc | apply pw_below_drewN | apply below_drew1 | refine below_set ?_ GE197.out | refine below_set ?_ GE206.out) | exact HB.out)) hb); clear BK197; clear BK206; clear HB; have BK197 := n0_; have BK206 := n1_; have HB := n2_; clear n0_ n1_ n2_; (try clear hb); (try clear hb2); (try clear hk); (try clear hi))); try go_wp2_with (first | (go_at_call 9; (with_reducible refine (signalboxref02_Right.calls kj39 (wrap64 (Int.tmod t198 536870912)) (wrap64 (x207001_39 + 32)) (wrap64 (bt a0 4)) (a0.extract 8 ((wrap64 (8 + (wrap64 (bt a0 4)))) : Int).toNat) false _ A65.out).mono ?_); rintro e w72 ⟨rfl, hb⟩; have n0_ := Aside0.mk (blk_below (g := gb197) (o := .cells #[.int .i64 0, .int .i64 0, .int .i64 0, .string (⟨#[]⟩ : ByteArray)] 23 (0, 0)) (by (with_reducible repeat (first | refine blk_drewN ?_ _ | refine blk_drew ?_ | refine blk_alloc ?_ _)); refine blk_far ?_ NB197_206.out _; (with_reducible repeat (first | refine blk_drewN ?_ _ | refine blk_drew ?_ | refine blk_alloc ?_ _)); exact BK197.out) hb); have n1_ := Aside0.mk (blk_below (g := gb206) (o := .cells #[.int .i64 (wrap64 (Int.tmod t198 536870912)), .int .i64 (wrap64 (x207001_39 + 32)), .int .i64 (wrap64 (bt a0 4)), .string (a0.extract 8 ((wrap64 (8 + (wrap64 (bt a0 4)))) : Int).toNat)] 23 (0, 0)) (by (with_reducible repeat (first | refine blk_drewN ?_ _ | refine blk_drew ?_ | refine blk_alloc ?_ _)); refine blk_put (cs := #[.int .i64 (wrap64 (Int.tmod t198 536870912)), .int .i64 x207001_39, .int .i64 (wrap64 (bt a0 4)), .string (a0.extract 8 ((wrap64 (8 + (wrap64 (bt a0 4)))) : Int).toNat)]) ?_ 1 _ rfl; (with_reducible repeat (first | refine blk_drewN ?_ _ | refine blk_drew ?_ | refine blk_alloc ?_ _)); exact BK206.out) hb); have n2_ := Aside0.mk (below_step (by repeat (first | (with_reducible first | exact HB.out | apply below_alloc | apply pw_below_drewN | apply below_drew1 | refine below_set ?_ GE197.out | refine below_set ?_ GE206.out) | exact HB.out)) hb); clear BK197; clear BK206; clear HB; have BK197 := n0_; have BK206 := n1_; have HB := n2_; clear n0_ n1_ n2_; (try clear hb); (try clear hb2); (try clear hk); (try clear hi))))
                                          go_meet
                                          case rel => exact ⟨_, (false), ((wrap64 (Int.tmod t198 536870912))), (wrap64 (x207001_39 + 32)), ((wrap64 (bt a0 4))), ((a0.extract 8 ((wrap64 (8 + (wrap64 (bt a0 4)))) : Int).toNat)), (by first | rfl | (simp; done) | (simp [*]; done)), H', ⟨by have := HJ1.out; have := HJ11.out; have := HJ23.out; have := HJ39.out; first | omega | exact Nat.le_refl _⟩, ⟨by (with_reducible repeat (first | refine blk_drewN ?_ _ | refine blk_drew ?_ | refine blk_alloc ?_ _)); exact BK197.out⟩, ⟨by (with_reducible repeat (first | refine blk_drewN ?_ _ | refine blk_drew ?_ | refine blk_alloc ?_ _)); exact BK206.out⟩, ⟨by repeat (first | (with_reducible first | exact HB.out | apply below_alloc | apply pw_below_drewN | apply below_drew1 | refine below_set ?_ GE197.out | refine below_set ?_ GE206.out) | exact HB.out)⟩⟩
                                      · rw [if_neg c64] at H
                                        have c64b0 : ((Int.tmod (wrap64 (Int.tdiv (wrap64 (bt a0 5)) 2)) 2) == 1) = false := beq_eq_false_iff_ne.mpr c64
                                        have c64b1 : ((Int.tmod (wrap64 (Int.tdiv (wrap64 (bt a0 5)) 2)) 2) != 1) = true := bne_iff_ne.mpr c64
                                        replace H := Option.bind_eq_some_iff.mp H
                                        obtain ⟨t210, A730, H⟩ := H
                                        replace H : (if t210 = true then (signalboxref03_Decode.j4 kj39 a0 ((((Int.tdiv t198 536870912) % 4294967296) % 4) == 0) (wrap64 (Int.tmod t198 536870912)) x207001_39 (wrap64 (bt a0 4)) (a0.extract 8 ((wrap64 (8 + (wrap64 (bt a0 4)))) : Int).toNat)) else (signalboxref03_Decode.j4 kj39 a0 false (wrap64 (Int.tmod t198 536870912)) x207001_39 (wrap64 (bt a0 4)) (a0.extract 8 ((wrap64 (8 + (wrap64 (bt a0 4)))) : Int).toNat))) = some (r1, r2, r3, r4, r5) := H
                                        have A73 := Aside0.mk A730
                                        clear A730
                                        by_cases c74 : t210 = true
                                        · subst c74
                                          have H1 : (signalboxref03_Decode.j4 kj39 a0 ((((Int.tdiv t198 536870912) % 4294967296) % 4) == 0) (wrap64 (Int.tmod t198 536870912)) x207001_39 (wrap64 (bt a0 4)) (a0.extract 8 ((wrap64 (8 + (wrap64 (bt a0 4)))) : Int).toNat)) = some (r1, r2, r3, r4, r5) := by rw [if_pos rfl] at H; exact H
                                          clear H
                                          have H := H1
                                          clear H1
                                          have H' := Aside0.mk H
                                          clear H
                                          have hnb75 := NB206_197.out
                                          have hnc75 := NB197_206.out
                                          have hcz76_0 : wc.cell? ⟨gb206, 0, none⟩ = some (.int .i64 (wrap64 (Int.tmod t198 536870912))) := (blk_cell BK206.out 0).trans rfl
                                          have hcz76_1 : wc.cell? ⟨gb206, 1, none⟩ = some (.int .i64 x207001_39) := (blk_cell BK206.out 1).trans rfl
                                          have hcz76_2 : wc.cell? ⟨gb206, 2, none⟩ = some (.int .i64 (wrap64 (bt a0 4))) := (blk_cell BK206.out 2).trans rfl
                                          have hcz76_3 : wc.cell? ⟨gb206, 3, none⟩ = some (.string (a0.extract 8 ((wrap64 (8 + (wrap64 (bt a0 4)))) : Int).toNat)) := (blk_cell BK206.out 3).trans rfl
                                          have hfz76_0 := blk_frozen BK206.out 0
                                          have hfz76_1 := blk_frozen BK206.out 1
                                          have hfz76_2 := blk_frozen BK206.out 2
                                          have hfz76_3 := blk_frozen BK206.out 3
                                          go_wp2_with (first | (go_at_call 9; (with_reducible refine (signalboxref02_Right.calls kj39 (wrap64 (Int.tmod t198 536870912)) x207001_39 (wrap64 (bt a0 4)) (a0.extract 8 ((wrap64 (8 + (wrap64 (bt a0 4)))) : Int).toNat) true _ A73.out).mono ?_); rintro e w77 ⟨rfl, hb⟩; have n0_ := Aside0.mk (blk_below (g := gb197) (o := .cells #[.int .i64 0, .int .i64 0, .int .i64 0, .string (⟨#[]⟩ : ByteArray)] 23 (0, 0)) (by (with_reducible repeat (first | refine blk_drewN ?_ _ | refine blk_drew ?_ | refine blk_alloc ?_ _)); exact BK197.out) hb); have n1_ := Aside0.mk (blk_below (g := gb206) (o := .cells #[.int .i64 (wrap64 (Int.tmod t198 536870912)), .int .i64 x207001_39, .int .i64 (wrap64 (bt a0 4)), .string (a0.extract 8 ((wrap64 (8 + (wrap64 (bt a0 4)))) : Int).toNat)] 23 (0, 0)) (by (with_reducible repeat (first | refine blk_drewN ?_ _ | refine blk_drew ?_ | refine blk_alloc ?_ _)); exact BK206.out) hb); have n2_ := Aside0.mk (below_step (by repeat (first | (with_reducible first | exact HB.out | apply below_alloc | apply pw_below_drewN | apply below_drew1 | refine below_set ?_ GE197.out | refine below_set ?_ GE206.out) | exact HB.out)) hb); clear BK197; clear BK206; clear HB; have BK197 := n0_; have BK206 := n1_; have HB := n2_; clear n0_ n1_ n2_; (try clear hb); (try clear hb2); (try clear hk); (try clear hi)))
                                          repeat (go_quiet (first | (go_at_call 9; (with_reducible refine (signalboxref02_Right.calls kj39 (wrap64 (Int.tmod t198 536870912)) x207001_39 (wrap64 (bt a0 4)) (a0.extract 8 ((wrap64 (8 + (wrap64 (bt a0 4)))) : Int).toNat) true _ A73.out).mono ?_); rintro e w77 ⟨rfl, hb⟩; have n0_ := Aside0.mk (blk_below (g := gb197) (o := .cells #[.int .i64 0, .int .i64 0, .int .i64 0, .string (⟨#[]⟩ : ByteArray)] 23 (0, 0)) (by (with_reducible repeat (first | refine blk_drewN ?_ _ | refine blk_drew ?_ | refine blk_alloc ?_ _)); exact BK197.out) hb); have n1_ := Aside0.mk (blk_below (g := gb206) (o := .cells #[.int .i64 (wrap64 (Int.tmod t198 536870912)), .int .i64 x207001_39, .int .i64 (wrap64 (bt a0 4)), .string (a0.extract 8 ((wrap64 (8 + (wrap64 (bt a0 4)))) : Int).toNat)] 23 (0, 0)) (by (with_reducible repeat (first | refine blk_drewN ?_ _ | refine blk_drew ?_ | refine blk_alloc ?_ _)); exact BK206.out) hb); have n2_ := Aside0.mk (below_step (by repeat (first | (with_reducible first | exact HB.out | apply below_alloc | apply pw_below_drewN | apply below_drew1 | refine below_set ?_ GE197.out | refine below_set ?_ GE206.out) | exact HB.out)) hb); clear BK197; clear BK206; clear HB; have BK197 := n0_; have BK206 := n1_; have HB := n2_; clear n0_ n1_ n2_; (try clear hb); (try clear hb2); (try clear hk); (try clear hi))); try go_wp2_with (first | (go_at_call 9; (with_reducible refine (signalboxref02_Right.calls kj39 (wrap64 (Int.tmod t198 536870912)) x207001_39 (wrap64 (bt a0 4)) (a0.extract 8 ((wrap64 (8 + (wrap64 (bt a0 4)))) : Int).toNat) true _ A73.out).mono ?_); rintro e w77 ⟨rfl, hb⟩; have n0_ := Aside0.mk (blk_below (g := gb197) (o := .cells #[.int .i64 0, .int .i64 0, .int .i64 0, .string (⟨#[]⟩ : ByteArray)] 23 (0, 0)) (by (with_reducible repeat (first | refine blk_drewN ?_ _ | refine blk_drew ?_ | refine blk_alloc ?_ _)); exact BK197.out) hb); have n1_ := Aside0.mk (blk_below (g := gb206) (o := .cells #[.int .i64 (wrap64 (Int.tmod t198 536870912)), .int .i64 x207001_39, .int .i64 (wrap64 (bt a0 4)), .string (a0.extract 8 ((wrap64 (8 + (wrap64 (bt a0 4)))) : Int).toNat)] 23 (0, 0)) (by (with_reducible repeat (first | refine blk_drewN ?_ _ | refine blk_drew ?_ | refine blk_alloc ?_ _)); exact BK206.out) hb); have n2_ := Aside0.mk (below_step (by repeat (first | (with_reducible first | exact HB.out | apply below_alloc | apply pw_below_drewN | apply below_drew1 | refine below_set ?_ GE197.out | refine below_set ?_ GE206.out) | exact HB.out)) hb); clear BK197; clear BK206; clear HB; have BK197 := n0_; have BK206 := n1_; have HB := n2_; clear n0_ n1_ n2_; (try clear hb); (try clear hb2); (try clear hk); (try clear hi))))
                                          go_meet
                                          case rel => exact ⟨_, (((((Int.tdiv t198 536870912) % 4294967296) % 4) == 0)), ((wrap64 (Int.tmod t198 536870912))), (x207001_39), ((wrap64 (bt a0 4))), ((a0.extract 8 ((wrap64 (8 + (wrap64 (bt a0 4)))) : Int).toNat)), (by first | rfl | (simp; done) | (simp [*]; done) | (refine congrArg _ ?_; omega)), H', ⟨by have := HJ1.out; have := HJ11.out; have := HJ23.out; have := HJ39.out; first | omega | exact Nat.le_refl _⟩, ⟨by (with_reducible repeat (first | refine blk_drewN ?_ _ | refine blk_drew ?_ | refine blk_alloc ?_ _)); exact BK197.out⟩, ⟨by (with_reducible repeat (first | refine blk_drewN ?_ _ | refine blk_drew ?_ | refine blk_alloc ?_ _)); exact BK206.out⟩, ⟨by repeat (first | (with_reducible first | exact HB.out | apply below_alloc | apply pw_below_drewN | apply below_drew1 | refine below_set ?_ GE197.out | refine below_set ?_ GE206.out) | exact HB.out)⟩⟩
                                        · replace c74 := Bool.eq_false_iff.mpr c74
                                          subst c74
                                          have H1 : (signalboxref03_Decode.j4 kj39 a0 false (wrap64 (Int.tmod t198 536870912)) x207001_39 (wrap64 (bt a0 4)) (a0.extract 8 ((wrap64 (8 + (wrap64 (bt a0 4)))) : Int).toNat)) = some (r1, r2, r3, r4, r5) := by rw [if_neg (show ¬ (false = true) by decide)] at H; exact H
                                          clear H
                                          have H := H1
                                          clear H1
                                          have H' := Aside0.mk H
                                          clear H
                                          have hnb78 := NB206_197.out
                                          have hnc78 := NB197_206.out
                                          have hcz79_0 : wc.cell? ⟨gb206, 0, none⟩ = some (.int .i64 (wrap64 (Int.tmod t198 536870912))) := (blk_cell BK206.out 0).trans rfl
                                          have hcz79_1 : wc.cell? ⟨gb206, 1, none⟩ = some (.int .i64 x207001_39) := (blk_cell BK206.out 1).trans rfl
                                          have hcz79_2 : wc.cell? ⟨gb206, 2, none⟩ = some (.int .i64 (wrap64 (bt a0 4))) := (blk_cell BK206.out 2).trans rfl
                                          have hcz79_3 : wc.cell? ⟨gb206, 3, none⟩ = some (.string (a0.extract 8 ((wrap64 (8 + (wrap64 (bt a0 4)))) : Int).toNat)) := (blk_cell BK206.out 3).trans rfl
                                          have hfz79_0 := blk_frozen BK206.out 0
                                          have hfz79_1 := blk_frozen BK206.out 1
                                          have hfz79_2 := blk_frozen BK206.out 2
                                          have hfz79_3 := blk_frozen BK206.out 3
                                          go_wp2_with (first | (go_at_call 9; (with_reducible refine (signalboxref02_Right.calls kj39 (wrap64 (Int.tmod t198 536870912)) x207001_39 (wrap64 (bt a0 4)) (a0.extract 8 ((wrap64 (8 + (wrap64 (bt a0 4)))) : Int).toNat) false _ A73.out).mono ?_); rintro e w80 ⟨rfl, hb⟩; have n0_ := Aside0.mk (blk_below (g := gb197) (o := .cells #[.int .i64 0, .int .i64 0, .int .i64 0, .string (⟨#[]⟩ : ByteArray)] 23 (0, 0)) (by (with_reducible repeat (first | refine blk_drewN ?_ _ | refine blk_drew ?_ | refine blk_alloc ?_ _)); exact BK197.out) hb); have n1_ := Aside0.mk (blk_below (g := gb206) (o := .cells #[.int .i64 (wrap64 (Int.tmod t198 536870912)), .int .i64 x207001_39, .int .i64 (wrap64 (bt a0 4)), .string (a0.extract 8 ((wrap64 (8 + (wrap64 (bt a0 4)))) : Int).toNat)] 23 (0, 0)) (by (with_reducible repeat (first | refine blk_drewN ?_ _ | refine blk_drew ?_ | refine blk_alloc ?_ _)); exact BK206.out) hb); have n2_ := Aside0.mk (below_step (by repeat (first | (with_reducible first | exact HB.out | apply below_alloc | apply pw_below_drewN | apply below_drew1 | refine below_set ?_ GE197.out | refine below_set ?_ GE206.out) | exact HB.out)) hb); clear BK197; clear BK206; clear HB; have BK197 := n0_; have BK206 := n1_; have HB := n2_; clear n0_ n1_ n2_; (try clear hb); (try clear hb2); (try clear hk); (try clear hi)))
                                          repeat (go_quiet (first | (go_at_call 9; (with_reducible refine (signalboxref02_Right.calls kj39 (wrap64 (Int.tmod t198 536870912)) x207001_39 (wrap64 (bt a0 4)) (a0.extract 8 ((wrap64 (8 + (wrap64 (bt a0 4)))) : Int).toNat) false _ A73.out).mono ?_); rintro e w80 ⟨rfl, hb⟩; have n0_ := Aside0.mk (blk_below (g := gb197) (o := .cells #[.int .i64 0, .int .i64 0, .int .i64 0, .string (⟨#[]⟩ : ByteArray)] 23 (0, 0)) (by (with_reducible repeat (first | refine blk_drewN ?_ _ | refine blk_drew ?_ | refine blk_alloc ?_ _)); exact BK197.out) hb); have n1_ := Aside0.mk (blk_below (g := gb206) (o := .cells #[.int .i64 (wrap64 (Int.tmod t198 536870912)), .int .i64 x207001_39, .int .i64 (wrap64 (bt a0 4)), .string (a0.extract 8 ((wrap64 (8 + (wrap64 (bt a0 4)))) : Int).toNat)] 23 (0, 0)) (by (with_reducible repeat (first | refine blk_drewN ?_ _ | refine blk_drew ?_ | refine blk_alloc ?_ _)); exact BK206.out) hb); have n2_ := Aside0.mk (below_step (by repeat (first | (with_reducible first | exact HB.out | apply below_alloc | apply pw_below_drewN | apply below_drew1 | refine below_set ?_ GE197.out | refine below_set ?_ GE206.out) | exact HB.out)) hb); clear BK197; clear BK206; clear HB; have BK197 := n0_; have BK206 := n1_; have HB := n2_; clear n0_ n1_ n2_; (try clear hb); (try clear hb2); (try clear hk); (try clear hi))); try go_wp2_with (first | (go_at_call 9; (with_reducible refine (signalboxref02_Right.calls kj39 (wrap64 (Int.tmod t198 536870912)) x207001_39 (wrap64 (bt a0 4)) (a0.extract 8 ((wrap64 (8 + (wrap64 (bt a0 4)))) : Int).toNat) false _ A73.out).mono ?_); rintro e w80 ⟨rfl, hb⟩; have n0_ := Aside0.mk (blk_below (g := gb197) (o := .cells #[.int .i64 0, .int .i64 0, .int .i64 0, .string (⟨#[]⟩ : ByteArray)] 23 (0, 0)) (by (with_reducible repeat (first | refine blk_drewN ?_ _ | refine blk_drew ?_ | refine blk_alloc ?_ _)); exact BK197.out) hb); have n1_ := Aside0.mk (blk_below (g := gb206) (o := .cells #[.int .i64 (wrap64 (Int.tmod t198 536870912)), .int .i64 x207001_39, .int .i64 (wrap64 (bt a0 4)), .string (a0.extract 8 ((wrap64 (8 + (wrap64 (bt a0 4)))) : Int).toNat)] 23 (0, 0)) (by (with_reducible repeat (first | refine blk_drewN ?_ _ | refine blk_drew ?_ | refine blk_alloc ?_ _)); exact BK206.out) hb); have n2_ := Aside0.mk (below_step (by repeat (first | (with_reducible first | exact HB.out | apply below_alloc | apply pw_below_drewN | apply below_drew1 | refine below_set ?_ GE197.out | refine below_set ?_ GE206.out) | exact HB.out)) hb); clear BK197; clear BK206; clear HB; have BK197 := n0_; have BK206 := n1_; have HB := n2_; clear n0_ n1_ n2_; (try clear hb); (try clear hb2); (try clear hk); (try clear hi))))
                                          go_meet
                                          case rel => exact ⟨_, (false), ((wrap64 (Int.tmod t198 536870912))), (x207001_39), ((wrap64 (bt a0 4))), ((a0.extract 8 ((wrap64 (8 + (wrap64 (bt a0 4)))) : Int).toNat)), (by first | rfl | (simp; done) | (simp [*]; done)), H', ⟨by have := HJ1.out; have := HJ11.out; have := HJ23.out; have := HJ39.out; first | omega | exact Nat.le_refl _⟩, ⟨by (with_reducible repeat (first | refine blk_drewN ?_ _ | refine blk_drew ?_ | refine blk_alloc ?_ _)); exact BK197.out⟩, ⟨by (with_reducible repeat (first | refine blk_drewN ?_ _ | refine blk_drew ?_ | refine blk_alloc ?_ _)); exact BK206.out⟩, ⟨by repeat (first | (with_reducible first | exact HB.out | apply below_alloc | apply pw_below_drewN | apply below_drew1 | refine below_set ?_ GE197.out | refine below_set ?_ GE206.out) | exact HB.out)⟩⟩
                              · rw [if_neg c37] at H
                                have c37b0 : fd_ = false := by simpa using c37
                                subst c37b0
                                (try (have c37b1 : decide ((a0.size : Int) = 72) = false := by simpa using c37))
                                (try (have c37b2 : fd_ = false := by simpa using c37))
                                (try (have c37b3 : ¬ ((a0.size : Int) = 72) := by simpa using c37))
                                try clear c37
                                (first | rw [c37b0] | (simp only [i64_w, i32_w]; rw [c37b0]) | skip)
                                have H' := Aside0.mk H
                                clear H
                                go_wp2
                                repeat (go_quiet (fail); try go_wp2)
                                go_meet
                                case rel => exact ⟨_, (t205), (t201), (t202), (t203), (t204), (by first | rfl | (simp; done) | (simp [*]; done)), H', ⟨by have := HJ1.out; have := HJ11.out; have := HJ23.out; first | omega | exact Nat.le_refl _⟩, ⟨by (with_reducible repeat (first | refine blk_drewN ?_ _ | refine blk_drew ?_ | refine blk_alloc ?_ _)); refine blk_far ?_ NB197_206.out _; (with_reducible repeat (first | refine blk_drewN ?_ _ | refine blk_drew ?_ | refine blk_alloc ?_ _)); refine blk_far ?_ NB197_206.out _; (with_reducible repeat (first | refine blk_drewN ?_ _ | refine blk_drew ?_ | refine blk_alloc ?_ _)); refine blk_far ?_ NB197_206.out _; (with_reducible repeat (first | refine blk_drewN ?_ _ | refine blk_drew ?_ | refine blk_alloc ?_ _)); refine blk_far ?_ NB197_206.out _; (with_reducible repeat (first | refine blk_drewN ?_ _ | refine blk_drew ?_ | refine blk_alloc ?_ _)); exact BK197.out⟩, ⟨by (with_reducible repeat (first | refine blk_drewN ?_ _ | refine blk_drew ?_ | refine blk_alloc ?_ _)); refine blk_put (cs := #[.int .i64 t201, .int .i64 t202, .int .i64 t203, .string (⟨#[]⟩ : ByteArray)]) ?_ 3 _ rfl; (with_reducible repeat (first | refine blk_drewN ?_ _ | refine blk_drew ?_ | refine blk_alloc ?_ _)); refine blk_put (cs := #[.int .i64 t201, .int .i64 t202, .int .i64 0, .string (⟨#[]⟩ : ByteArray)]) ?_ 2 _ rfl; (with_reducible repeat (first | refine blk_drewN ?_ _ | refine blk_drew ?_ | refine blk_alloc ?_ _)); refine blk_put (cs := #[.int .i64 t201, .int .i64 0, .int .i64 0, .string (⟨#[]⟩ : ByteArray)]) ?_ 1 _ rfl; (with_reducible repeat (first | refine blk_drewN ?_ _ | refine blk_drew ?_ | refine blk_alloc ?_ _)); refine blk_put (cs := #[.int .i64 0, .int .i64 0, .int .i64 0, .string (⟨#[]⟩ : ByteArray)]) ?_ 0 _ rfl; (with_reducible repeat (first | refine blk_drewN ?_ _ | refine blk_drew ?_ | refine blk_alloc ?_ _)); exact BK206.out⟩, ⟨by repeat (first | (with_reducible first | exact HB.out | apply below_alloc | apply pw_below_drewN | apply below_drew1 | refine below_set ?_ GE197.out | refine below_set ?_ GE206.out) | exact HB.out)⟩⟩
                            case rest =>
                              clear HC32
                              try clear c1
                              try clear p1
                              try clear q1
                              try clear hx1
                              try clear qi1
                              try clear c2
                              try clear p2
                              try clear c3
                              try clear c4
                              try clear c4b0
                              try clear c4b1
                              try clear c5
                              try clear c6
                              try clear p6
                              try clear c7
                              try clear c8
                              try clear c8b0
                              try clear c8b1
                              try clear p9
                              try clear q9
                              try clear hx9
                              try clear qi9
                              try clear c10
                              try clear c10b0
                              try clear c10b1
                              try clear p11
                              try clear q11
                              try clear hx11
                              try clear qi11
                              try clear c13
                              try clear c13b0
                              try clear c13b1
                              try clear p14
                              try clear q14
                              try clear hx14
                              try clear qi14
                              try clear c15
                              try clear c15b0
                              try clear c15b1
                              try clear c16
                              try clear c16b0
                              try clear c16b1
                              try clear p17
                              try clear q17
                              try clear hx17
                              try clear qi17
                              try clear c18
                              try clear c18b0
                              try clear c18b1
                              try clear c19
                              try clear c19b0
                              try clear c19b1
                              try clear c19b2
                              try clear c20
                              try clear c20b0
                              try clear c20b1
                              try clear c21
                              try clear c21b0
                              try clear c21b1
                              try clear c22
                              try clear c25
                              try clear c25b0
                              try clear c27
                              try clear c29
                              try clear c29b0
                              try clear c29b1
                              try clear c30
                              try clear c30b0
                              try clear c30b1
                              try clear c35
                              try clear c37
                              try clear c37b0
                              try clear c37b1
                              try clear c37b2
                              try clear c38
                              try clear c38b0
                              try clear c39
                              try clear c39b0
                              try clear c41
                              try clear c43
                              try clear c43b0
                              try clear c44
                              try clear c46
                              try clear c46b0
                              try clear c46b1
                              try clear c47
                              try clear c47b0
                              try clear c47b1
                              try clear c49
                              try clear c50
                              try clear c53
                              try clear c57
                              try clear c58
                              try clear c61
                              try clear c64
                              try clear c64b0
                              try clear c64b1
                              try clear p64
                              try clear c66
                              try clear c67
                              try clear c70
                              try clear c74
                              try clear c75
                              try clear c78
                              try clear hcz23_0
                              try clear hcz23_1
                              try clear hcz23_2
                              try clear hcz23_3
                              try clear hcz28_0
                              try clear hcz28_1
                              try clear hcz28_2
                              try clear hcz28_3
                              try clear hcz36_0
                              try clear hcz36_1
                              try clear hcz36_2
                              try clear hcz36_3
                              try clear hcz42_0
                              try clear hcz42_1
                              try clear hcz42_2
                              try clear hcz42_3
                              try clear hcz45_0
                              try clear hcz45_1
                              try clear hcz45_2
                              try clear hcz45_3
                              try clear hcz51_0
                              try clear hcz51_1
                              try clear hcz51_2
                              try clear hcz51_3
                              try clear hcz54_0
                              try clear hcz54_1
                              try clear hcz54_2
                              try clear hcz54_3
                              try clear hcz59_0
                              try clear hcz59_1
                              try clear hcz59_2
                              try clear hcz59_3
                              try clear hcz62_0
                              try clear hcz62_1
                              try clear hcz62_2
                              try clear hcz62_3
                              try clear hcz68_0
                              try clear hcz68_1
                              try clear hcz68_2
                              try clear hcz68_3
                              try clear hcz6_0
                              try clear hcz6_1
                              try clear hcz6_2
                              try clear hcz6_3
                              try clear hcz71_0
                              try clear hcz71_1
                              try clear hcz71_2
                              try clear hcz71_3
                              try clear hcz76_0
                              try clear hcz76_1
                              try clear hcz76_2
                              try clear hcz76_3
                              try clear hcz79_0
                              try clear hcz79_1
                              try clear hcz79_2
                              try clear hcz79_3
                              try clear hfz23_0
                              try clear hfz23_1
                              try clear hfz23_2
                              try clear hfz23_3
                              try clear hfz28_0
                              try clear hfz28_1
                              try clear hfz28_2
                              try clear hfz28_3
                              try clear hfz36_0
                              try clear hfz36_1
                              try clear hfz36_2
                              try clear hfz36_3
                              try clear hfz42_0
                              try clear hfz42_1
                              try clear hfz42_2
                              try clear hfz42_3
                              try clear hfz45_0
                              try clear hfz45_1
                              try clear hfz45_2
                              try clear hfz45_3
                              try clear hfz51_0
                              try clear hfz51_1
                              try clear hfz51_2
                              try clear hfz51_3
                              try clear hfz54_0
                              try clear hfz54_1
                              try clear hfz54_2
                              try clear hfz54_3
                              try clear hfz59_0
                              try clear hfz59_1
                              try clear hfz59_2
                              try clear hfz59_3
                              try clear hfz62_0
                              try clear hfz62_1
                              try clear hfz62_2
                              try clear hfz62_3
                              try clear hfz68_0
                              try clear hfz68_1
                              try clear hfz68_2
                              try clear hfz68_3
                              try clear hfz6_0
                              try clear hfz6_1
                              try clear hfz6_2
                              try clear hfz6_3
                              try clear hfz71_0
                              try clear hfz71_1
                              try clear hfz71_2
                              try clear hfz71_3
                              try clear hfz76_0
                              try clear hfz76_1
                              try clear hfz76_2
                              try clear hfz76_3
                              try clear hfz79_0
                              try clear hfz79_1
                              try clear hfz79_2
                              try clear hfz79_3
                              try clear p1
                              try clear p11
                              try clear p14
                              try clear p17
                              try clear p2
                              try clear p6
                              try clear p9
                              try clear q1
                              try clear q11
                              try clear q14
                              try clear q17
                              try clear q9
                              try clear HA
                              try clear HJ31
                              try clear BK197
                              try clear BK206
                              try clear HB
                              obtain ⟨kq, x10_31, x207000_31, x207001_31, x207002_31, x207003_31, rfl, HA, HJ31, BK197, BK206, HB⟩ := hcut
                              cases kq with
                              | zero => exact absurd HA.out (by simp [signalboxref03_Decode.j4])
                              | succ kj31 =>
                                have H := HA.out
                                clear HA
                                simp only [signalboxref03_Decode.j4] at H
                                by_cases c81 : x10_31 = true
                                · subst c81
                                  have H1 : ((signalboxref02_Has.f x207000_31 x207001_31 x207002_31 x207003_31 2).bind fun t211 => (if t211 = true then ((signalboxref03_zero.f kj31 a0 8 (a0.size : Int)).bind fun t212 => (if t212 = true then (some (x207000_31, x207001_31, x207002_31, x207003_31, true)) else (some (0, 0, 0, (⟨#[]⟩ : ByteArray), false)))) else (some (x207000_31, x207001_31, x207002_31, x207003_31, true)))) = some (r1, r2, r3, r4, r5) := by rw [if_pos rfl] at H; exact H
                                  clear H
                                  have H := H1
                                  clear H1
                                  replace H := Option.bind_eq_some_iff.mp H
                                  obtain ⟨t211, A820, H⟩ := H
                                  replace H : (if t211 = true then ((signalboxref03_zero.f kj31 a0 8 (a0.size : Int)).bind fun t212 => (if t212 = true then (some (x207000_31, x207001_31, x207002_31, x207003_31, true)) else (some (0, 0, 0, (⟨#[]⟩ : ByteArray), false)))) else (some (x207000_31, x207001_31, x207002_31, x207003_31, true))) = some (r1, r2, r3, r4, r5) := H
                                  have A82 := Aside0.mk A820
                                  clear A820
                                  by_cases c83 : t211 = true
                                  · subst c83
                                    have H1 : ((signalboxref03_zero.f kj31 a0 8 (a0.size : Int)).bind fun t212 => (if t212 = true then (some (x207000_31, x207001_31, x207002_31, x207003_31, true)) else (some (0, 0, 0, (⟨#[]⟩ : ByteArray), false)))) = some (r1, r2, r3, r4, r5) := by rw [if_pos rfl] at H; exact H
                                    clear H
                                    have H := H1
                                    clear H1
                                    replace H := Option.bind_eq_some_iff.mp H
                                    obtain ⟨t212, A840, H⟩ := H
                                    replace H : (if t212 = true then (some (x207000_31, x207001_31, x207002_31, x207003_31, true)) else (some (0, 0, 0, (⟨#[]⟩ : ByteArray), false))) = some (r1, r2, r3, r4, r5) := H
                                    have A84 := Aside0.mk A840
                                    clear A840
                                    by_cases c85 : t212 = true
                                    · subst c85
                                      have H1 : (some (x207000_31, x207001_31, x207002_31, x207003_31, true)) = some (r1, r2, r3, r4, r5) := by rw [if_pos rfl] at H; exact H
                                      clear H
                                      have H := H1
                                      clear H1
                                      simp only [Option.some.injEq, Prod.mk.injEq] at H
                                      obtain ⟨rfl, rfl, rfl, rfl, rfl⟩ := H
                                      have hnb86 := NB206_197.out
                                      have hnc86 := NB197_206.out
                                      have hcz87_0 : wc.cell? ⟨gb206, 0, none⟩ = some (.int .i64 x207000_31) := (blk_cell BK206.out 0).trans rfl
                                      have hcz87_1 : wc.cell? ⟨gb206, 1, none⟩ = some (.int .i64 x207001_31) := (blk_cell BK206.out 1).trans rfl
                                      have hcz87_2 : wc.cell? ⟨gb206, 2, none⟩ = some (.int .i64 x207002_31) := (blk_cell BK206.out 2).trans rfl
                                      have hcz87_3 : wc.cell? ⟨gb206, 3, none⟩ = some (.string x207003_31) := (blk_cell BK206.out 3).trans rfl
                                      have hfz87_0 := blk_frozen BK206.out 0
                                      have hfz87_1 := blk_frozen BK206.out 1
                                      have hfz87_2 := blk_frozen BK206.out 2
                                      have hfz87_3 := blk_frozen BK206.out 3
                                      go_wp2_with (first | (go_at_call 26; (with_reducible refine (signalboxref02_Has.calls x207000_31 x207001_31 x207002_31 x207003_31 2 true _ A82.out).mono ?_); rintro e w88 ⟨rfl, hb⟩; have n0_ := Aside0.mk (blk_below (g := gb197) (o := .cells #[.int .i64 0, .int .i64 0, .int .i64 0, .string (⟨#[]⟩ : ByteArray)] 23 (0, 0)) (by (with_reducible repeat (first | refine blk_drewN ?_ _ | refine blk_drew ?_ | refine blk_alloc ?_ _)); exact BK197.out) hb); have n1_ := Aside0.mk (blk_below (g := gb206) (o := .cells #[.int .i64 x207000_31, .int .i64 x207001_31, .int .i64 x207002_31, .string x207003_31] 23 (0, 0)) (by (with_reducible repeat (first | refine blk_drewN ?_ _ | refine blk_drew ?_ | refine blk_alloc ?_ _)); exact BK206.out) hb); have n2_ := Aside0.mk (below_step (by repeat (first | (with_reducible first | exact HB.out | apply below_alloc | apply pw_below_drewN | apply below_drew1 | refine below_set ?_ GE197.out | refine below_set ?_ GE206.out) | exact HB.out)) hb); clear BK197; clear BK206; clear HB; have BK197 := n0_; have BK206 := n1_; have HB := n2_; clear n0_ n1_ n2_; (try clear hb); (try clear hb2); (try clear hk); (try clear hi)) | (go_at_call 32; (with_reducible refine (signalboxref03_zero.calls kj31 a0 8 (a0.size : Int) true _ A84.out).mono ?_); rintro e w' ⟨rfl, ⟨nd, rfl⟩⟩; (try first | exact ⟨rfl, _, World.drewN_drewN _ _ _⟩ | exact ⟨rfl, _, Eq.trans (World.drewN_drewN _ _ _) (congrArg (World.drewN _) (Nat.add_assoc _ _ _))⟩); have hcz89_0 : w88.cell? ⟨gb206, 0, none⟩ = some (.int .i64 x207000_31) := (blk_cell BK206.out 0).trans rfl; have hcz89_1 : w88.cell? ⟨gb206, 1, none⟩ = some (.int .i64 x207001_31) := (blk_cell BK206.out 1).trans rfl; have hcz89_2 : w88.cell? ⟨gb206, 2, none⟩ = some (.int .i64 x207002_31) := (blk_cell BK206.out 2).trans rfl; have hcz89_3 : w88.cell? ⟨gb206, 3, none⟩ = some (.string x207003_31) := (blk_cell BK206.out 3).trans rfl; have hfz89_0 := blk_frozen BK206.out 0; have hfz89_1 := blk_frozen BK206.out 1; have hfz89_2 := blk_frozen BK206.out 2; have hfz89_3 := blk_frozen BK206.out 3; have hcz90_0 : w88.cell? ⟨gb197, 0, none⟩ = some (.int .i64 0) := (blk_cell BK197.out 0).trans rfl; have hcz90_1 : w88.cell? ⟨gb197, 1, none⟩ = some (.int .i64 0) := (blk_cell BK197.out 1).trans rfl; have hcz90_2 : w88.cell? ⟨gb197, 2, none⟩ = some (.int .i64 0) := (blk_cell BK197.out 2).trans rfl; have hcz90_3 : w88.cell? ⟨gb197, 3, none⟩ = some (.string (⟨#[]⟩ : ByteArray)) := (blk_cell BK197.out 3).trans rfl; have hfz90_0 := blk_frozen BK197.out 0; have hfz90_1 := blk_frozen BK197.out 1; have hfz90_2 := blk_frozen BK197.out 2; have hfz90_3 := blk_frozen BK197.out 3))
                                      repeat (go_quiet (first | (go_at_call 26; (with_reducible refine (signalboxref02_Has.calls x207000_31 x207001_31 x207002_31 x207003_31 2 true _ A82.out).mono ?_); rintro e w88 ⟨rfl, hb⟩; have n0_ := Aside0.mk (blk_below (g := gb197) (o := .cells #[.int .i64 0, .int .i64 0, .int .i64 0, .string (⟨#[]⟩ : ByteArray)] 23 (0, 0)) (by (with_reducible repeat (first | refine blk_drewN ?_ _ | refine blk_drew ?_ | refine blk_alloc ?_ _)); exact BK197.out) hb); have n1_ := Aside0.mk (blk_below (g := gb206) (o := .cells #[.int .i64 x207000_31, .int .i64 x207001_31, .int .i64 x207002_31, .string x207003_31] 23 (0, 0)) (by (with_reducible repeat (first | refine blk_drewN ?_ _ | refine blk_drew ?_ | refine blk_alloc ?_ _)); exact BK206.out) hb); have n2_ := Aside0.mk (below_step (by repeat (first | (with_reducible first | exact HB.out | apply below_alloc | apply pw_below_drewN | apply below_drew1 | refine below_set ?_ GE197.out | refine below_set ?_ GE206.out) | exact HB.out)) hb); clear BK197; clear BK206; clear HB; have BK197 := n0_; have BK206 := n1_; have HB := n2_; clear n0_ n1_ n2_; (try clear hb); (try clear hb2); (try clear hk); (try clear hi)) | (go_at_call 32; (with_reducible refine (signalboxref03_zero.calls kj31 a0 8 (a0.size : Int) true _ A84.out).mono ?_); rintro e w' ⟨rfl, ⟨nd, rfl⟩⟩; (try first | exact ⟨rfl, _, World.drewN_drewN _ _ _⟩ | exact ⟨rfl, _, Eq.trans (World.drewN_drewN _ _ _) (congrArg (World.drewN _) (Nat.add_assoc _ _ _))⟩); have hcz89_0 : w88.cell? ⟨gb206, 0, none⟩ = some (.int .i64 x207000_31) := (blk_cell BK206.out 0).trans rfl; have hcz89_1 : w88.cell? ⟨gb206, 1, none⟩ = some (.int .i64 x207001_31) := (blk_cell BK206.out 1).trans rfl; have hcz89_2 : w88.cell? ⟨gb206, 2, none⟩ = some (.int .i64 x207002_31) := (blk_cell BK206.out 2).trans rfl; have hcz89_3 : w88.cell? ⟨gb206, 3, none⟩ = some (.string x207003_31) := (blk_cell BK206.out 3).trans rfl; have hfz89_0 := blk_frozen BK206.out 0; have hfz89_1 := blk_frozen BK206.out 1; have hfz89_2 := blk_frozen BK206.out 2; have hfz89_3 := blk_frozen BK206.out 3; have hcz90_0 : w88.cell? ⟨gb197, 0, none⟩ = some (.int .i64 0) := (blk_cell BK197.out 0).trans rfl; have hcz90_1 : w88.cell? ⟨gb197, 1, none⟩ = some (.int .i64 0) := (blk_cell BK197.out 1).trans rfl; have hcz90_2 : w88.cell? ⟨gb197, 2, none⟩ = some (.int .i64 0) := (blk_cell BK197.out 2).trans rfl; have hcz90_3 : w88.cell? ⟨gb197, 3, none⟩ = some (.string (⟨#[]⟩ : ByteArray)) := (blk_cell BK197.out 3).trans rfl; have hfz90_0 := blk_frozen BK197.out 0; have hfz90_1 := blk_frozen BK197.out 1; have hfz90_2 := blk_frozen BK197.out 2; have hfz90_3 := blk_frozen BK197.out 3)); try go_wp2_with (first | (go_at_call 26; (with_reducible refine (signalboxref02_Has.calls x207000_31 x207001_31 x207002_31 x207003_31 2 true _ A82.out).mono ?_); rintro e w88 ⟨rfl, hb⟩; have n0_ := Aside0.mk (blk_below (g := gb197) (o := .cells #[.int .i64 0, .int .i64 0, .int .i64 0, .string (⟨#[]⟩ : ByteArray)] 23 (0, 0)) (by (with_reducible repeat (first | refine blk_drewN ?_ _ | refine blk_drew ?_ | refine blk_alloc ?_ _)); exact BK197.out) hb); have n1_ := Aside0.mk (blk_below (g := gb206) (o := .cells #[.int .i64 x207000_31, .int .i64 x207001_31, .int .i64 x207002_31, .string x207003_31] 23 (0, 0)) (by (with_reducible repeat (first | refine blk_drewN ?_ _ | refine blk_drew ?_ | refine blk_alloc ?_ _)); exact BK206.out) hb); have n2_ := Aside0.mk (below_step (by repeat (first | (with_reducible first | exact HB.out | apply below_alloc | apply pw_below_drewN | apply below_drew1 | refine below_set ?_ GE197.out | refine below_set ?_ GE206.out) | exact HB.out)) hb); clear BK197; clear BK206; clear HB; have BK197 := n0_; have BK206 := n1_; have HB := n2_; clear n0_ n1_ n2_; (try clear hb); (try clear hb2); (try clear hk); (try clear hi)) | (go_at_call 32; (with_reducible refine (signalboxref03_zero.calls kj31 a0 8 (a0.size : Int) true _ A84.out).mono ?_); rintro e w' ⟨rfl, ⟨nd, rfl⟩⟩; (try first | exact ⟨rfl, _, World.drewN_drewN _ _ _⟩ | exact ⟨rfl, _, Eq.trans (World.drewN_drewN _ _ _) (congrArg (World.drewN _) (Nat.add_assoc _ _ _))⟩); have hcz89_0 : w88.cell? ⟨gb206, 0, none⟩ = some (.int .i64 x207000_31) := (blk_cell BK206.out 0).trans rfl; have hcz89_1 : w88.cell? ⟨gb206, 1, none⟩ = some (.int .i64 x207001_31) := (blk_cell BK206.out 1).trans rfl; have hcz89_2 : w88.cell? ⟨gb206, 2, none⟩ = some (.int .i64 x207002_31) := (blk_cell BK206.out 2).trans rfl; have hcz89_3 : w88.cell? ⟨gb206, 3, none⟩ = some (.string x207003_31) := (blk_cell BK206.out 3).trans rfl; have hfz89_0 := blk_frozen BK206.out 0; have hfz89_1 := blk_frozen BK206.out 1; have hfz89_2 := blk_frozen BK206.out 2; have hfz89_3 := blk_frozen BK206.out 3; have hcz90_0 : w88.cell? ⟨gb197, 0, none⟩ = some (.int .i64 0) := (blk_cell BK197.out 0).trans rfl; have hcz90_1 : w88.cell? ⟨gb197, 1, none⟩ = some (.int .i64 0) := (blk_cell BK197.out 1).trans rfl; have hcz90_2 : w88.cell? ⟨gb197, 2, none⟩ = some (.int .i64 0) := (blk_cell BK197.out 2).trans rfl; have hcz90_3 : w88.cell? ⟨gb197, 3, none⟩ = some (.string (⟨#[]⟩ : ByteArray)) := (blk_cell BK197.out 3).trans rfl; have hfz90_0 := blk_frozen BK197.out 0; have hfz90_1 := blk_frozen BK197.out 1; have hfz90_2 := blk_frozen BK197.out 2; have hfz90_3 := blk_frozen BK197.out 3)))
                                      refine bodyPost_ret (results_ct rfl _ _ gb197 23 #[.int .i64 x207000_31, .int .i64 x207001_31, .int .i64 x207002_31, .string x207003_31] (0, 0) _ rfl (by (with_reducible repeat (first | refine blk_drewN ?_ _ | refine blk_drew ?_ | refine blk_alloc ?_ _)); refine blk_put (cs := #[.int .i64 x207000_31, .int .i64 x207001_31, .int .i64 x207002_31, .string (⟨#[]⟩ : ByteArray)]) ?_ 3 _ rfl; (with_reducible repeat (first | refine blk_drewN ?_ _ | refine blk_drew ?_ | refine blk_alloc ?_ _)); refine blk_put (cs := #[.int .i64 x207000_31, .int .i64 x207001_31, .int .i64 0, .string (⟨#[]⟩ : ByteArray)]) ?_ 2 _ rfl; (with_reducible repeat (first | refine blk_drewN ?_ _ | refine blk_drew ?_ | refine blk_alloc ?_ _)); refine blk_put (cs := #[.int .i64 x207000_31, .int .i64 0, .int .i64 0, .string (⟨#[]⟩ : ByteArray)]) ?_ 1 _ rfl; (with_reducible repeat (first | refine blk_drewN ?_ _ | refine blk_drew ?_ | refine blk_alloc ?_ _)); refine blk_put (cs := #[.int .i64 0, .int .i64 0, .int .i64 0, .string (⟨#[]⟩ : ByteArray)]) ?_ 0 _ rfl; (with_reducible repeat (first | refine blk_drewN ?_ _ | refine blk_drew ?_ | refine blk_alloc ?_ _)); exact BK197.out) Try.underlying23 rfl (by kernel_rfl)) rfl ?_
                                      exact ⟨by first | rfl | (simp [errW_none, errW_some] <;> rfl) | (simp [*, errW_none, errW_some] <;> rfl), by repeat (first | (with_reducible first | exact HB.out | apply below_alloc | apply pw_below_drewN | apply below_drew1 | refine below_set ?_ GE197.out | refine below_set ?_ GE206.out) | exact HB.out)⟩
                                    · replace c85 := Bool.eq_false_iff.mpr c85
                                      subst c85
                                      have H1 : (some (0, 0, 0, (⟨#[]⟩ : ByteArray), false)) = some (r1, r2, r3, r4, r5) := by rw [if_neg (show ¬ (false = true) by decide)] at H; exact H
                                      clear H
                                      have H := H1
                                      clear H1
                                      simp only [Option.some.injEq, Prod.mk.injEq] at H
                                      obtain ⟨rfl, rfl, rfl, rfl, rfl⟩ := H
                                      have hnb91 := NB206_197.out
                                      have hnc91 := NB197_206.out
                                      have hcz92_0 : wc.cell? ⟨gb206, 0, none⟩ = some (.int .i64 x207000_31) := (blk_cell BK206.out 0).trans rfl
                                      have hcz92_1 : wc.cell? ⟨gb206, 1, none⟩ = some (.int .i64 x207001_31) := (blk_cell BK206.out 1).trans rfl
                                      have hcz92_2 : wc.cell? ⟨gb206, 2, none⟩ = some (.int .i64 x207002_31) := (blk_cell BK206.out 2).trans rfl
                                      have hcz92_3 : wc.cell? ⟨gb206, 3, none⟩ = some (.string x207003_31) := (blk_cell BK206.out 3).trans rfl
                                      have hfz92_0 := blk_frozen BK206.out 0
                                      have hfz92_1 := blk_frozen BK206.out 1
                                      have hfz92_2 := blk_frozen BK206.out 2
                                      have hfz92_3 := blk_frozen BK206.out 3
                                      go_wp2_with (first | (go_at_call 26; (with_reducible refine (signalboxref02_Has.calls x207000_31 x207001_31 x207002_31 x207003_31 2 true _ A82.out).mono ?_); rintro e w93 ⟨rfl, hb⟩; have n0_ := Aside0.mk (blk_below (g := gb197) (o := .cells #[.int .i64 0, .int .i64 0, .int .i64 0, .string (⟨#[]⟩ : ByteArray)] 23 (0, 0)) (by (with_reducible repeat (first | refine blk_drewN ?_ _ | refine blk_drew ?_ | refine blk_alloc ?_ _)); exact BK197.out) hb); have n1_ := Aside0.mk (blk_below (g := gb206) (o := .cells #[.int .i64 x207000_31, .int .i64 x207001_31, .int .i64 x207002_31, .string x207003_31] 23 (0, 0)) (by (with_reducible repeat (first | refine blk_drewN ?_ _ | refine blk_drew ?_ | refine blk_alloc ?_ _)); exact BK206.out) hb); have n2_ := Aside0.mk (below_step (by repeat (first | (with_reducible first | exact HB.out | apply below_alloc | apply pw_below_drewN | apply below_drew1 | refine below_set ?_ GE197.out | refine below_set ?_ GE206.out) | exact HB.out)) hb); clear BK197; clear BK206; clear HB; have BK197 := n0_; have BK206 := n1_; have HB := n2_; clear n0_ n1_ n2_; (try clear hb); (try clear hb2); (try clear hk); (try clear hi)) | (go_at_call 32; (with_reducible refine (signalboxref03_zero.calls kj31 a0 8 (a0.size : Int) false _ A84.out).mono ?_); rintro e w' ⟨rfl, ⟨nd, rfl⟩⟩; (try first | exact ⟨rfl, _, World.drewN_drewN _ _ _⟩ | exact ⟨rfl, _, Eq.trans (World.drewN_drewN _ _ _) (congrArg (World.drewN _) (Nat.add_assoc _ _ _))⟩); have hcz94_0 : w93.cell? ⟨gb197, 0, none⟩ = some (.int .i64 0) := (blk_cell BK197.out 0).trans rfl; have hcz94_1 : w93.cell? ⟨gb197, 1, none⟩ = some (.int .i64 0) := (blk_cell BK197.out 1).trans rfl; have hcz94_2 : w93.cell? ⟨gb197, 2, none⟩ = some (.int .i64 0) := (blk_cell BK197.out 2).trans rfl; have hcz94_3 : w93.cell? ⟨gb197, 3, none⟩ = some (.string (⟨#[]⟩ : ByteArray)) := (blk_cell BK197.out 3).trans rfl; have hfz94_0 := blk_frozen BK197.out 0; have hfz94_1 := blk_frozen BK197.out 1; have hfz94_2 := blk_frozen BK197.out 2; have hfz94_3 := blk_frozen BK197.out 3))
                                      repeat (go_quiet (first | (go_at_call 26; (with_reducible refine (signalboxref02_Has.calls x207000_31 x207001_31 x207002_31 x207003_31 2 true _ A82.out).mono ?_); rintro e w93 ⟨rfl, hb⟩; have n0_ := Aside0.mk (blk_below (g := gb197) (o := .cells #[.int .i64 0, .int .i64 0, .int .i64 0, .string (⟨#[]⟩ : ByteArray)] 23 (0, 0)) (by (with_reducible repeat (first | refine blk_drewN ?_ _ | refine blk_drew ?_ | refine blk_alloc ?_ _)); exact BK197.out) hb); have n1_ := Aside0.mk (blk_below (g := gb206) (o := .cells #[.int .i64 x207000_31, .int .i64 x207001_31, .int .i64 x207002_31, .string x207003_31] 23 (0, 0)) (by (with_reducible repeat (first | refine blk_drewN ?_ _ | refine blk_drew ?_ | refine blk_alloc ?_ _)); exact BK206.out) hb); have n2_ := Aside0.mk (below_step (by repeat (first | (with_reducible first | exact HB.out | apply below_alloc | apply pw_below_drewN | apply below_drew1 | refine below_set ?_ GE197.out | refine below_set ?_ GE206.out) | exact HB.out)) hb); clear BK197; clear BK206; clear HB; have BK197 := n0_; have BK206 := n1_; have HB := n2_; clear n0_ n1_ n2_; (try clear hb); (try clear hb2); (try clear hk); (try clear hi)) | (go_at_call 32; (with_reducible refine (signalboxref03_zero.calls kj31 a0 8 (a0.size : Int) false _ A84.out).mono ?_); rintro e w' ⟨rfl, ⟨nd, rfl⟩⟩; (try first | exact ⟨rfl, _, World.drewN_drewN _ _ _⟩ | exact ⟨rfl, _, Eq.trans (World.drewN_drewN _ _ _) (congrArg (World.drewN _) (Nat.add_assoc _ _ _))⟩); have hcz94_0 : w93.cell? ⟨gb197, 0, none⟩ = some (.int .i64 0) := (blk_cell BK197.out 0).trans rfl; have hcz94_1 : w93.cell? ⟨gb197, 1, none⟩ = some (.int .i64 0) := (blk_cell BK197.out 1).trans rfl; have hcz94_2 : w93.cell? ⟨gb197, 2, none⟩ = some (.int .i64 0) := (blk_cell BK197.out 2).trans rfl; have hcz94_3 : w93.cell? ⟨gb197, 3, none⟩ = some (.string (⟨#[]⟩ : ByteArray)) := (blk_cell BK197.out 3).trans rfl; have hfz94_0 := blk_frozen BK197.out 0; have hfz94_1 := blk_frozen BK197.out 1; have hfz94_2 := blk_frozen BK197.out 2; have hfz94_3 := blk_frozen BK197.out 3)); try go_wp2_with (first | (go_at_call 26; (with_reducible refine (signalboxref02_Has.calls x207000_31 x207001_31 x207002_31 x207003_31 2 true _ A82.out).mono ?_); rintro e w93 ⟨rfl, hb⟩; have n0_ := Aside0.mk (blk_below (g := gb197) (o := .cells #[.int .i64 0, .int .i64 0, .int .i64 0, .string (⟨#[]⟩ : ByteArray)] 23 (0, 0)) (by (with_reducible repeat (first | refine blk_drewN ?_ _ | refine blk_drew ?_ | refine blk_alloc ?_ _)); exact BK197.out) hb); have n1_ := Aside0.mk (blk_below (g := gb206) (o := .cells #[.int .i64 x207000_31, .int .i64 x207001_31, .int .i64 x207002_31, .string x207003_31] 23 (0, 0)) (by (with_reducible repeat (first | refine blk_drewN ?_ _ | refine blk_drew ?_ | refine blk_alloc ?_ _)); exact BK206.out) hb); have n2_ := Aside0.mk (below_step (by repeat (first | (with_reducible first | exact HB.out | apply below_alloc | apply pw_below_drewN | apply below_drew1 | refine below_set ?_ GE197.out | refine below_set ?_ GE206.out) | exact HB.out)) hb); clear BK197; clear BK206; clear HB; have BK197 := n0_; have BK206 := n1_; have HB := n2_; clear n0_ n1_ n2_; (try clear hb); (try clear hb2); (try clear hk); (try clear hi)) | (go_at_call 32; (with_reducible refine (signalboxref03_zero.calls kj31 a0 8 (a0.size : Int) false _ A84.out).mono ?_); rintro e w' ⟨rfl, ⟨nd, rfl⟩⟩; (try first | exact ⟨rfl, _, World.drewN_drewN _ _ _⟩ | exact ⟨rfl, _, Eq.trans (World.drewN_drewN _ _ _) (congrArg (World.drewN _) (Nat.add_assoc _ _ _))⟩); have hcz94_0 : w93.cell? ⟨gb197, 0, none⟩ = some (.int .i64 0) := (blk_cell BK197.out 0).trans rfl; have hcz94_1 : w93.cell? ⟨gb197, 1, none⟩ = some (.int .i64 0) := (blk_cell BK197.out 1).trans rfl; have hcz94_2 : w93.cell? ⟨gb197, 2, none⟩ = some (.int .i64 0) := (blk_cell BK197.out 2).trans rfl; have hcz94_3 : w93.cell? ⟨gb197, 3, none⟩ = some (.string (⟨#[]⟩ : ByteArray)) := (blk_cell BK197.out 3).trans rfl; have hfz94_0 := blk_frozen BK197.out 0; have hfz94_1 := blk_frozen BK197.out 1; have hfz94_2 := blk_frozen BK197.out 2; have hfz94_3 := blk_frozen BK197.out 3)))
                                      refine bodyPost_ret (results_ct rfl _ _ gb197 23 #[.int .i64 0, .int .i64 0, .int .i64 0, .string (⟨#[]⟩ : ByteArray)] (0, 0) _ rfl (by (with_reducible repeat (first | refine blk_drewN ?_ _ | refine blk_drew ?_ | refine blk_alloc ?_ _)); refine blk_put (cs := #[.int .i64 0, .int .i64 0, .int .i64 0, .string (⟨#[]⟩ : ByteArray)]) ?_ 3 _ rfl; (with_reducible repeat (first | refine blk_drewN ?_ _ | refine blk_drew ?_ | refine blk_alloc ?_ _)); refine blk_put (cs := #[.int .i64 0, .int .i64 0, .int .i64 0, .string (⟨#[]⟩ : ByteArray)]) ?_ 2 _ rfl; (with_reducible repeat (first | refine blk_drewN ?_ _ | refine blk_drew ?_ | refine blk_alloc ?_ _)); refine blk_put (cs := #[.int .i64 0, .int .i64 0, .int .i64 0, .string (⟨#[]⟩ : ByteArray)]) ?_ 1 _ rfl; (with_reducible repeat (first | refine blk_drewN ?_ _ | refine blk_drew ?_ | refine blk_alloc ?_ _)); refine blk_put (cs := #[.int .i64 0, .int .i64 0, .int .i64 0, .string (⟨#[]⟩ : ByteArray)]) ?_ 0 _ rfl; (with_reducible repeat (first | refine blk_drewN ?_ _ | refine blk_drew ?_ | refine blk_alloc ?_ _)); exact BK197.out) Try.underlying23 rfl (by kernel_rfl)) rfl ?_
                                      exact ⟨by first | rfl | (simp [errW_none, errW_some] <;> rfl) | (simp [*, errW_none, errW_some] <;> rfl), by repeat (first | (with_reducible first | exact HB.out | apply below_alloc | apply pw_below_drewN | apply below_drew1 | refine below_set ?_ GE197.out | refine below_set ?_ GE206.out) | exact HB.out)⟩
                                  · replace c83 := Bool.eq_false_iff.mpr c83
                                    subst c83
                                    have H1 : (some (x207000_31, x207001_31, x207002_31, x207003_31, true)) = some (r1, r2, r3, r4, r5) := by rw [if_neg (show ¬ (false = true) by decide)] at H; exact H
                                    clear H
                                    have H := H1
                                    clear H1
                                    simp only [Option.some.injEq, Prod.mk.injEq] at H
                                    obtain ⟨rfl, rfl, rfl, rfl, rfl⟩ := H
                                    have hnb95 := NB206_197.out
                                    have hnc95 := NB197_206.out
                                    have hcz96_0 : wc.cell? ⟨gb206, 0, none⟩ = some (.int .i64 x207000_31) := (blk_cell BK206.out 0).trans rfl
                                    have hcz96_1 : wc.cell? ⟨gb206, 1, none⟩ = some (.int .i64 x207001_31) := (blk_cell BK206.out 1).trans rfl
                                    have hcz96_2 : wc.cell? ⟨gb206, 2, none⟩ = some (.int .i64 x207002_31) := (blk_cell BK206.out 2).trans rfl
                                    have hcz96_3 : wc.cell? ⟨gb206, 3, none⟩ = some (.string x207003_31) := (blk_cell BK206.out 3).trans rfl
                                    have hfz96_0 := blk_frozen BK206.out 0
                                    have hfz96_1 := blk_frozen BK206.out 1
                                    have hfz96_2 := blk_frozen BK206.out 2
                                    have hfz96_3 := blk_frozen BK206.out 3
                                    go_wp2_with (first | (go_at_call 26; (with_reducible refine (signalboxref02_Has.calls x207000_31 x207001_31 x207002_31 x207003_31 2 false _ A82.out).mono ?_); rintro e w97 ⟨rfl, hb⟩; have n0_ := Aside0.mk (blk_below (g := gb197) (o := .cells #[.int .i64 0, .int .i64 0, .int .i64 0, .string (⟨#[]⟩ : ByteArray)] 23 (0, 0)) (by (with_reducible repeat (first | refine blk_drewN ?_ _ | refine blk_drew ?_ | refine blk_alloc ?_ _)); exact BK197.out) hb); have n1_ := Aside0.mk (blk_below (g := gb206) (o := .cells #[.int .i64 x207000_31, .int .i64 x207001_31, .int .i64 x207002_31, .string x207003_31] 23 (0, 0)) (by (with_reducible repeat (first | refine blk_drewN ?_ _ | refine blk_drew ?_ | refine blk_alloc ?_ _)); exact BK206.out) hb); have n2_ := Aside0.mk (below_step (by repeat (first | (with_reducible first | exact HB.out | apply below_alloc | apply pw_below_drewN | apply below_drew1 | refine below_set ?_ GE197.out | refine below_set ?_ GE206.out) | exact HB.out)) hb); clear BK197; clear BK206; clear HB; have BK197 := n0_; have BK206 := n1_; have HB := n2_; clear n0_ n1_ n2_; (try clear hb); (try clear hb2); (try clear hk); (try clear hi); have hcz98_0 : w97.cell? ⟨gb206, 0, none⟩ = some (.int .i64 x207000_31) := (blk_cell BK206.out 0).trans rfl; have hcz98_1 : w97.cell? ⟨gb206, 1, none⟩ = some (.int .i64 x207001_31) := (blk_cell BK206.out 1).trans rfl; have hcz98_2 : w97.cell? ⟨gb206, 2, none⟩ = some (.int .i64 x207002_31) := (blk_cell BK206.out 2).trans rfl; have hcz98_3 : w97.cell? ⟨gb206, 3, none⟩ = some (.string x207003_31) := (blk_cell BK206.out 3).trans rfl; have hfz98_0 := blk_frozen BK206.out 0; have hfz98_1 := blk_frozen BK206.out 1; have hfz98_2 := blk_frozen BK206.out 2; have hfz98_3 := blk_frozen BK206.out 3; have hcz99_0 : w97.cell? ⟨gb197, 0, none⟩ = some (.int .i64 0) := (blk_cell BK197.out 0).trans rfl; have hcz99_1 : w97.cell? ⟨gb197, 1, none⟩ = some (.int .i64 0) := (blk_cell BK197.out 1).trans rfl; have hcz99_2 : w97.cell? ⟨gb197, 2, none⟩ = some (.int .i64 0) := (blk_cell BK197.out 2).trans rfl; have hcz99_3 : w97.cell? ⟨gb197, 3, none⟩ = some (.string (⟨#[]⟩ : ByteArray)) := (blk_cell BK197.out 3).trans rfl; have hfz99_0 := blk_frozen BK197.out 0; have hfz99_1 := blk_frozen BK197.out 1; have hfz99_2 := blk_frozen BK197.out 2; have hfz99_3 := blk_frozen BK197.out 3))
                                    repeat (go_quiet (first | (go_at_call 26; (with_reducible refine (signalboxref02_Has.calls x207000_31 x207001_31 x207002_31 x207003_31 2 false _ A82.out).mono ?_); rintro e w97 ⟨rfl, hb⟩; have n0_ := Aside0.mk (blk_below (g := gb197) (o := .cells #[.int .i64 0, .int .i64 0, .int .i64 0, .string (⟨#[]⟩ : ByteArray)] 23 (0, 0)) (by (with_reducible repeat (first | refine blk_drewN ?_ _ | refine blk_drew ?_ | refine blk_alloc ?_ _)); exact BK197.out) hb); have n1_ := Aside0.mk (blk_below (g := gb206) (o := .cells #[.int .i64 x207000_31, .int .i64 x207001_31, .int .i64 x207002_31, .string x207003_31] 23 (0, 0)) (by (with_reducible repeat (first | refine blk_drewN ?_ _ | refine blk_drew ?_ | refine blk_alloc ?_ _)); exact BK206.out) hb); have n2_ := Aside0.mk (below_step (by repeat (first | (with_reducible first | exact HB.out | apply below_alloc | apply pw_below_drewN | apply below_drew1 | refine below_set ?_ GE197.out | refine below_set ?_ GE206.out) | exact HB.out)) hb); clear BK197; clear BK206; clear HB; have BK197 := n0_; have BK206 := n1_; have HB := n2_; clear n0_ n1_ n2_; (try clear hb); (try clear hb2); (try clear hk); (try clear hi); have hcz98_0 : w97.cell? ⟨gb206, 0, none⟩ = some (.int .i64 x207000_31) := (blk_cell BK206.out 0).trans rfl; have hcz98_1 : w97.cell? ⟨gb206, 1, none⟩ = some (.int .i64 x207001_31) := (blk_cell BK206.out 1).trans rfl; have hcz98_2 : w97.cell? ⟨gb206, 2, none⟩ = some (.int .i64 x207002_31) := (blk_cell BK206.out 2).trans rfl; have hcz98_3 : w97.cell? ⟨gb206, 3, none⟩ = some (.string x207003_31) := (blk_cell BK206.out 3).trans rfl; have hfz98_0 := blk_frozen BK206.out 0; have hfz98_1 := blk_frozen BK206.out 1; have hfz98_2 := blk_frozen BK206.out 2; have hfz98_3 := blk_frozen BK206.out 3; have hcz99_0 : w97.cell? ⟨gb197, 0, none⟩ = some (.int .i64 0) := (blk_cell BK197.out 0).trans rfl; have hcz99_1 : w97.cell? ⟨gb197, 1, none⟩ = some (.int .i64 0) := (blk_cell BK197.out 1).trans rfl; have hcz99_2 : w97.cell? ⟨gb197, 2, none⟩ = some (.int .i64 0) := (blk_cell BK197.out 2).trans rfl; have hcz99_3 : w97.cell? ⟨gb197, 3, none⟩ = some (.string (⟨#[]⟩ : ByteArray)) := (blk_cell BK197.out 3).trans rfl; have hfz99_0 := blk_frozen BK197.out 0; have hfz99_1 := blk_frozen BK197.out 1; have hfz99_2 := blk_frozen BK197.out 2; have hfz99_3 := blk_frozen BK197.out 3)); try go_wp2_with (first | (go_at_call 26; (with_reducible refine (signalboxref02_Has.calls x207000_31 x207001_31 x207002_31 x207003_31 2 false _ A82.out).mono ?_); rintro e w97 ⟨rfl, hb⟩; have n0_ := Aside0.mk (blk_below (g := gb197) (o := .cells #[.int .i64 0, .int .i64 0, .int .i64 0, .string (⟨#[]⟩ : ByteArray)] 23 (0, 0)) (by (with_reducible repeat (first | refine blk_drewN ?_ _ | refine blk_drew ?_ | refine blk_alloc ?_ _)); exact BK197.out) hb); have n1_ := Aside0.mk (blk_below (g := gb206) (o := .cells #[.int .i64 x207000_31, .int .i64 x207001_31, .int .i64 x207002_31, .string x207003_31] 23 (0, 0)) (by (with_reducible repeat (first | refine blk_drewN ?_ _ | refine blk_drew ?_ | refine blk_alloc ?_ _)); exact BK206.out) hb); have n2_ := Aside0.mk (below_step (by repeat (first | (with_reducible first | exact HB.out | apply below_alloc | apply pw_below_drewN | apply below_drew1 | refine below_set ?_ GE197.out | refine below_set ?_ GE206.out) | exact HB.out)) hb); clear BK197; clear BK206; clear HB; have BK197 := n0_; have BK206 := n1_; have HB := n2_; clear n0_ n1_ n2_; (try clear hb); (try clear hb2); (try clear hk); (try clear hi); have hcz98_0 : w97.cell? ⟨gb206, 0, none⟩ = some (.int .i64 x207000_31) := (blk_cell BK206.out 0).trans rfl; have hcz98_1 : w97.cell? ⟨gb206, 1, none⟩ = some (.int .i64 x207001_31) := (blk_cell BK206.out 1).trans rfl; have hcz98_2 : w97.cell? ⟨gb206, 2, none⟩ = some (.int .i64 x207002_31) := (blk_cell BK206.out 2).trans rfl; have hcz98_3 : w97.cell? ⟨gb206, 3, none⟩ = some (.string x207003_31) := (blk_cell BK206.out 3).trans rfl; have hfz98_0 := blk_frozen BK206.out 0; have hfz98_1 := blk_frozen BK206.out 1; have hfz98_2 := blk_frozen BK206.out 2; have hfz98_3 := blk_frozen BK206.out 3; have hcz99_0 : w97.cell? ⟨gb197, 0, none⟩ = some (.int .i64 0) := (blk_cell BK197.out 0).trans rfl; have hcz99_1 : w97.cell? ⟨gb197, 1, none⟩ = some (.int .i64 0) := (blk_cell BK197.out 1).trans rfl; have hcz99_2 : w97.cell? ⟨gb197, 2, none⟩ = some (.int .i64 0) := (blk_cell BK197.out 2).trans rfl; have hcz99_3 : w97.cell? ⟨gb197, 3, none⟩ = some (.string (⟨#[]⟩ : ByteArray)) := (blk_cell BK197.out 3).trans rfl; have hfz99_0 := blk_frozen BK197.out 0; have hfz99_1 := blk_frozen BK197.out 1; have hfz99_2 := blk_frozen BK197.out 2; have hfz99_3 := blk_frozen BK197.out 3)))
                                    refine bodyPost_ret (results_ct rfl _ _ gb197 23 #[.int .i64 x207000_31, .int .i64 x207001_31, .int .i64 x207002_31, .string x207003_31] (0, 0) _ rfl (by (with_reducible repeat (first | refine blk_drewN ?_ _ | refine blk_drew ?_ | refine blk_alloc ?_ _)); refine blk_put (cs := #[.int .i64 x207000_31, .int .i64 x207001_31, .int .i64 x207002_31, .string (⟨#[]⟩ : ByteArray)]) ?_ 3 _ rfl; (with_reducible repeat (first | refine blk_drewN ?_ _ | refine blk_drew ?_ | refine blk_alloc ?_ _)); refine blk_put (cs := #[.int .i64 x207000_31, .int .i64 x207001_31, .int .i64 0, .string (⟨#[]⟩ : ByteArray)]) ?_ 2 _ rfl; (with_reducible repeat (first | refine blk_drewN ?_ _ | refine blk_drew ?_ | refine blk_alloc ?_ _)); refine blk_put (cs := #[.int .i64 x207000_31, .int .i64 0, .int .i64 0, .string (⟨#[]⟩ : ByteArray)]) ?_ 1 _ rfl; (with_reducible repeat (first | refine blk_drewN ?_ _ | refine blk_drew ?_ | refine blk_alloc ?_ _)); refine blk_put (cs := #[.int .i64 0, .int .i64 0, .int .i64 0, .string (⟨#[]⟩ : ByteArray)]) ?_ 0 _ rfl; (with_reducible repeat (first | refine blk_drewN ?_ _ | refine blk_drew ?_ | refine blk_alloc ?_ _)); exact BK197.out) Try.underlying23 rfl (by kernel_rfl)) rfl ?_
                                    exact ⟨by first | rfl | (simp [errW_none, errW_some] <;> rfl) | (simp [*, errW_none, errW_some] <;> rfl), by repeat (first | (with_reducible first | exact HB.out | apply below_alloc | apply pw_below_drewN | apply below_drew1 | refine below_set ?_ GE197.out | refine below_set ?_ GE206.out) | exact HB.out)⟩
                                · replace c81 := Bool.eq_false_iff.mpr c81
                                  subst c81
                                  have H1 : (some (0, 0, 0, (⟨#[]⟩ : ByteArray), false)) = some (r1, r2, r3, r4, r5) := by rw [if_neg (show ¬ (false = true) by decide)] at H; exact H
                                  clear H
                                  have H := H1
                                  clear H1
                                  simp only [Option.some.injEq, Prod.mk.injEq] at H
                                  obtain ⟨rfl, rfl, rfl, rfl, rfl⟩ := H
                                  have hnb100 := NB197_206.out
                                  have hnc100 := NB206_197.out
                                  have hcz101_0 : wc.cell? ⟨gb197, 0, none⟩ = some (.int .i64 0) := (blk_cell BK197.out 0).trans rfl
                                  have hcz101_1 : wc.cell? ⟨gb197, 1, none⟩ = some (.int .i64 0) := (blk_cell BK197.out 1).trans rfl
                                  have hcz101_2 : wc.cell? ⟨gb197, 2, none⟩ = some (.int .i64 0) := (blk_cell BK197.out 2).trans rfl
                                  have hcz101_3 : wc.cell? ⟨gb197, 3, none⟩ = some (.string (⟨#[]⟩ : ByteArray)) := (blk_cell BK197.out 3).trans rfl
                                  have hfz101_0 := blk_frozen BK197.out 0
                                  have hfz101_1 := blk_frozen BK197.out 1
                                  have hfz101_2 := blk_frozen BK197.out 2
                                  have hfz101_3 := blk_frozen BK197.out 3
                                  go_wp2
                                  repeat (go_quiet (fail); try go_wp2)
                                  refine bodyPost_ret (results_ct rfl _ _ gb197 23 #[.int .i64 0, .int .i64 0, .int .i64 0, .string (⟨#[]⟩ : ByteArray)] (0, 0) _ rfl (by (with_reducible repeat (first | refine blk_drewN ?_ _ | refine blk_drew ?_ | refine blk_alloc ?_ _)); refine blk_put (cs := #[.int .i64 0, .int .i64 0, .int .i64 0, .string (⟨#[]⟩ : ByteArray)]) ?_ 3 _ rfl; (with_reducible repeat (first | refine blk_drewN ?_ _ | refine blk_drew ?_ | refine blk_alloc ?_ _)); refine blk_put (cs := #[.int .i64 0, .int .i64 0, .int .i64 0, .string (⟨#[]⟩ : ByteArray)]) ?_ 2 _ rfl; (with_reducible repeat (first | refine blk_drewN ?_ _ | refine blk_drew ?_ | refine blk_alloc ?_ _)); refine blk_put (cs := #[.int .i64 0, .int .i64 0, .int .i64 0, .string (⟨#[]⟩ : ByteArray)]) ?_ 1 _ rfl; (with_reducible repeat (first | refine blk_drewN ?_ _ | refine blk_drew ?_ | refine blk_alloc ?_ _)); refine blk_put (cs := #[.int .i64 0, .int .i64 0, .int .i64 0, .string (⟨#[]⟩ : ByteArray)]) ?_ 0 _ rfl; (with_reducible repeat (first | refine blk_drewN ?_ _ | refine blk_drew ?_ | refine blk_alloc ?_ _)); exact BK197.out) Try.underlying23 rfl (by kernel_rfl)) rfl ?_
                                  exact ⟨by first | rfl | (simp [errW_none, errW_some] <;> rfl) | (simp [*, errW_none, errW_some] <;> rfl), by repeat (first | (with_reducible first | exact HB.out | apply below_alloc | apply pw_below_drewN | apply below_drew1 | refine below_set ?_ GE197.out | refine below_set ?_ GE206.out) | exact HB.out)⟩
                          · rw [if_neg c30] at H
                            exact absurd H (by simp)
                        · rw [if_neg c29] at H
                          exact absurd H (by simp)
          · rw [if_neg c10] at H
            exact absurd H (by simp)
        · rw [if_neg c8] at H
          exact absurd H (by simp)

end Go.Proofs.Ytiljancboibbmaa.PWireUnpacks
