-- Laid by a program of the session over the kit's print. Not trusted: Lean checks it.
import Derived.Test.YtelplkdbjfkfmaaRows
import Derived.Test.YtelplkdbjfkfmaaPWatchThrottlex8
import Derived.Test.YtelplkdbjfkfmaaOpens
import Derived.Test.YtelplkdbjfkfmaaPureWatchThrottle
import Derived.WalkKit
import Derived.ProofKit
import Derived.OpenShut
import Derived.ShutString
import Derived.ChangeOld
import Derived.Below
import Derived.SizedLaws
namespace Go.Proofs.Ytelplkdbjfkfmaa.watchThrottle
open Go.ChangeShapes Go.WideShapes Go.ChangeAt Go.RowKit Go.Proofs.YtelplkdbjfkfmaaW.PrintWords Go.Proofs.Ytelplkdbjfkfmaa.Opens Go.Proofs.Ytelplkdbjfkfmaa.PWatchThrottle
open Go.ChangeMaps (open_string shut_string)
set_option linter.unusedVariables false
theorem own : ownKnob Try.prog.godebug = none := by kernel_rfl
theorem laidOut : laidOutB Try.prog = true := by kernel_rfl
instance : Inhabited S29 := ⟨z29⟩
theorem opens29 : Opens k29 Try.prog 29 ok29 := by
  intro H enc w fuel cs x h hz
  obtain ⟨hl, hf⟩ := struct_fields Try.underlying29 h hz
  rw [show Try.prog.cellsOf 29 = 3 by kernel_rfl] at hl
  match cs, hl with
  | [c0, c1, c2], _ =>
    obtain ⟨x0, h0, o0⟩ := hf 0 _ rfl (opens_int Try.underlying27)
    replace h0 : (Kd.int .u32).K w x0 ((List.drop 0 [c0, c1, c2]).take (Try.prog.cellsOf 27)) := h0
    rw [show Try.prog.cellsOf 27 = 1 by kernel_rfl] at h0
    replace h0 : (Kd.int .u32).K w x0 [c0] := h0
    obtain ⟨x1, h1, o1⟩ := hf 1 _ rfl (opens_int Try.underlying27)
    replace h1 : (Kd.int .u32).K w x1 ((List.drop 1 [c0, c1, c2]).take (Try.prog.cellsOf 27)) := h1
    rw [show Try.prog.cellsOf 27 = 1 by kernel_rfl] at h1
    replace h1 : (Kd.int .u32).K w x1 [c1] := h1
    obtain ⟨x2, h2, o2⟩ := hf 2 _ rfl (opens_bool Try.underlying4)
    replace h2 : Kd.bool.K w x2 ((List.drop 2 [c0, c1, c2]).take (Try.prog.cellsOf 4)) := h2
    rw [show Try.prog.cellsOf 4 = 1 by kernel_rfl] at h2
    replace h2 : Kd.bool.K w x2 [c2] := h2
    exact ⟨⟨x0, x1, x2⟩, ⟨[c0], [c1, c2], rfl, h0, ⟨[c1], [c2], rfl, h1, h2⟩⟩, ⟨o0, o1, o2⟩⟩
instance : Inhabited S31 := ⟨z31⟩
theorem opens31 : Opens k31 Try.prog 31 ok31 := by
  intro H enc w fuel cs x h hz
  obtain ⟨hl, hf⟩ := struct_fields Try.underlying31 h hz
  rw [show Try.prog.cellsOf 31 = 6 by kernel_rfl] at hl
  match cs, hl with
  | [c0, c1, c2, c3, c4, c5], _ =>
    obtain ⟨x0, h0, o0⟩ := hf 0 _ rfl opens29
    replace h0 : k29.K w x0 ((List.drop 0 [c0, c1, c2, c3, c4, c5]).take (Try.prog.cellsOf 29)) := h0
    rw [show Try.prog.cellsOf 29 = 3 by kernel_rfl] at h0
    replace h0 : k29.K w x0 [c0, c1, c2] := h0
    obtain ⟨x1, h1, o1⟩ := hf 1 _ rfl (opens_string Try.underlying9)
    replace h1 : Kd.string.K w x1 ((List.drop 3 [c0, c1, c2, c3, c4, c5]).take (Try.prog.cellsOf 9)) := h1
    rw [show Try.prog.cellsOf 9 = 1 by kernel_rfl] at h1
    replace h1 : Kd.string.K w x1 [c3] := h1
    obtain ⟨x2, h2, o2⟩ := hf 2 _ rfl (opens_int Try.underlying3)
    replace h2 : (Kd.int .i64).K w x2 ((List.drop 4 [c0, c1, c2, c3, c4, c5]).take (Try.prog.cellsOf 3)) := h2
    rw [show Try.prog.cellsOf 3 = 1 by kernel_rfl] at h2
    replace h2 : (Kd.int .i64).K w x2 [c4] := h2
    obtain ⟨x3, h3, o3⟩ := hf 3 _ rfl (opens_int Try.underlying3)
    replace h3 : (Kd.int .i64).K w x3 ((List.drop 5 [c0, c1, c2, c3, c4, c5]).take (Try.prog.cellsOf 3)) := h3
    rw [show Try.prog.cellsOf 3 = 1 by kernel_rfl] at h3
    replace h3 : (Kd.int .i64).K w x3 [c5] := h3
    exact ⟨⟨x0, x1, x2, x3⟩, ⟨[c0, c1, c2], [c3, c4, c5], rfl, h0, ⟨[c3], [c4, c5], rfl, h1, ⟨[c4], [c5], rfl, h2, h3⟩⟩⟩, ⟨o0, o1, o2, o3⟩⟩
instance : Inhabited S33 := ⟨z33⟩
theorem opens33 : Opens k33 Try.prog 33 ok33 := by
  intro H enc w fuel cs x h hz
  obtain ⟨hl, hf⟩ := struct_fields Try.underlying33 h hz
  rw [show Try.prog.cellsOf 33 = 4 by kernel_rfl] at hl
  match cs, hl with
  | [c0, c1, c2, c3], _ =>
    obtain ⟨x0, h0, o0⟩ := hf 0 _ rfl (opens_int Try.underlying3)
    replace h0 : (Kd.int .i64).K w x0 ((List.drop 0 [c0, c1, c2, c3]).take (Try.prog.cellsOf 3)) := h0
    rw [show Try.prog.cellsOf 3 = 1 by kernel_rfl] at h0
    replace h0 : (Kd.int .i64).K w x0 [c0] := h0
    obtain ⟨x1, h1, o1⟩ := hf 1 _ rfl (opens_int Try.underlying3)
    replace h1 : (Kd.int .i64).K w x1 ((List.drop 1 [c0, c1, c2, c3]).take (Try.prog.cellsOf 3)) := h1
    rw [show Try.prog.cellsOf 3 = 1 by kernel_rfl] at h1
    replace h1 : (Kd.int .i64).K w x1 [c1] := h1
    obtain ⟨x2, h2, o2⟩ := hf 2 _ rfl (opens_int Try.underlying3)
    replace h2 : (Kd.int .i64).K w x2 ((List.drop 2 [c0, c1, c2, c3]).take (Try.prog.cellsOf 3)) := h2
    rw [show Try.prog.cellsOf 3 = 1 by kernel_rfl] at h2
    replace h2 : (Kd.int .i64).K w x2 [c2] := h2
    obtain ⟨x3, h3, o3⟩ := hf 3 _ rfl (opens_string Try.underlying9)
    replace h3 : Kd.string.K w x3 ((List.drop 3 [c0, c1, c2, c3]).take (Try.prog.cellsOf 9)) := h3
    rw [show Try.prog.cellsOf 9 = 1 by kernel_rfl] at h3
    replace h3 : Kd.string.K w x3 [c3] := h3
    exact ⟨⟨x0, x1, x2, x3⟩, ⟨[c0], [c1, c2, c3], rfl, h0, ⟨[c1], [c2, c3], rfl, h1, ⟨[c2], [c3], rfl, h2, h3⟩⟩⟩, ⟨o0, o1, o2, o3⟩⟩
set_option maxRecDepth 100000 in
set_option maxHeartbeats 2000000 in
theorem lifted (os : Os) (started : os.Started) (H : Type) (enc : TypeId × Value → H) :
    ReturnsInHanded {} Try.checked os 5 .any (Rows.watchThrottleSpec.pre6 enc Try.prog Try.f5 Rows.watchThrottleRow.domain false) (Rows.watchThrottleSpec.post enc Try.prog Try.f5 false true false false) := by
  refine returnsInHanded_of_change_sized (C := Try.checked) own started (by kernel_rfl) Try.func5
    (ChangeSpec.witness6 (enc := enc) (C := Try.checked) false ⟨#[], #[.agg #[.int .u32 0, .int .u32 0, .bool false, .string ByteArray.empty, .int .i64 0, .int .i64 0], .slice none 0 0, .slice none 0 0], []⟩ 8 (by kernel_rfl) (by kernel_rfl) (by kernel_rfl) (by kernel_rfl)) ?_
  intro W base args ds gs before hval0 hW hcnd hsz0 _
  have hsz : (DataW.weightsEach Try.prog (Try.f5.params.toList ++ Rows.watchThrottleSpec.plain.varTypes Try.prog) (ds ++ gs)).all (· ≤ reachBytes) = true := hsz0
  have hval : ∀ (j : Nat) t v, Try.f5.params[j]? = some t → args[j]? = some v → Value.okWide Try.prog W .any base t v := hval0
  have hW' := hW
  obtain ⟨p, q, hA0, hV, rfl, hfz, hnd⟩ := hW
  have hA : DataW.TrodAll enc Try.prog W 0 (fun _ => true) true Try.f5.params.toList args.toList ds p := hA0
  rw [Try.params5] at hA hval hsz
  obtain ⟨v0, vs0, d0, ds0, p0, q0, hargs, rfl, rfl, h0, r0⟩ := trodAll_cons hA
  obtain ⟨v1, vs1, d1, ds1, p1, q1, rfl, rfl, rfl, h1, r1⟩ := trodAll_cons r0
  obtain ⟨v2, vs2, d2, ds2, p2, q2, rfl, rfl, rfl, h2, r2⟩ := trodAll_cons r1
  obtain ⟨rfl, rfl, rfl⟩ := trodAll_nil r2
  obtain rfl : args = #[v0, v1, v2] := by cases args; simp_all
  obtain ⟨rfl, rfl⟩ := trodVars_none hV
  have k0 := h0
  have lt0 : ∀ x ∈ p0, x.block < W.heap.size := by obtain ⟨m, hm⟩ := k0; exact DataW.trod_lt m _ _ _ hm
  obtain ⟨cs0, rfl, _⟩ := okWide_struct Try.underlying31 (hval 0 31 v0 rfl rfl)
  obtain ⟨x0, K0, ok0_⟩ := arg_of opens31 hsz (j := 0) rfl rfl k0
  obtain ⟨_, _, he0, ⟨_, _, rfl, rfl, ⟨_, _, rfl, rfl, rfl⟩⟩, ⟨_, _, rfl, rfl, ⟨_, _, rfl, rfl, rfl⟩⟩⟩ := K0
  obtain rfl : cs0 = #[.int .u32 x0.f0.f0, .int .u32 x0.f0.f1, .bool x0.f0.f2, .string x0.f1, .int .i64 x0.f2, .int .i64 x0.f3] := Array.ext' he0
  have k1 := h1
  have lt1 : ∀ x ∈ p1, x.block < W.heap.size := by obtain ⟨m, hm⟩ := k1; exact DataW.trod_lt m _ _ _ hm
  obtain ⟨aa1, len1, cap1, rfl⟩ := okWide_slice Try.underlying44 (hval 1 44 v1 rfl rfl)
  obtain ⟨l1, K1, ok1_⟩ := arg_of (opens_slice (B := 40) Try.underlying44 (by kernel_rfl) (by kernel_rfl) opens33) hsz (j := 1) rfl rfl k1
  obtain ⟨A1, c1, he1, hc1, hr1⟩ := K1
  obtain ⟨rfl, rfl, rfl⟩ : aa1 = A1 ∧ len1 = l1.length ∧ cap1 = c1 := by simpa [Value.cells] using he1
  have k2 := h2
  have lt2 : ∀ x ∈ p2, x.block < W.heap.size := by obtain ⟨m, hm⟩ := k2; exact DataW.trod_lt m _ _ _ hm
  obtain ⟨aa2, len2, cap2, rfl⟩ := okWide_slice Try.underlying42 (hval 2 42 v2 rfl rfl)
  obtain ⟨l2, K2, ok2_⟩ := arg_of (opens_slice (B := 8) Try.underlying42 (by kernel_rfl) (by kernel_rfl) (opens_int Try.underlying3)) hsz (j := 2) rfl rfl k2
  obtain ⟨A2, c2, he2, hc2, hr2⟩ := K2
  obtain ⟨rfl, rfl, rfl⟩ : aa2 = A2 ∧ len2 = l2.length ∧ cap2 = c2 := by simpa [Value.cells] using he2
  clear hA0 hval0 hsz0 hsz
  have hp := Pure.WatchThrottle x0.f0.f0 x0.f0.f1 x0.f0.f2 x0.f1 x0.f2 x0.f3 l1 l2 ok0_.1.1 ok0_.1.2.1 ok0_.2.1 ok0_.2.2.1 ok0_.2.2.2 ok1_.1 ok1_.2.1 ok1_.2.2 ok2_.1 ok2_.2.1 ok2_.2.2
  refine (signalboxlaw23_WatchThrottle.calls x0.f0.f0 x0.f0.f1 x0.f0.f2 x0.f1 x0.f2 x0.f3 aa1 cap1 l1 aa2 cap2 l2 true W hr1 hc1 hr2 hc2 hp).mono fun e W' ⟨he, bel0⟩ => ?_
  have bel : Below W.heap.size W W' := bel0
  subst he
  exact ⟨_, rfl, _, _, _, [], _, [], hW', trodAll_mk1 (shut_bool Try.underlying4 _), (trodAll_cons_mk (Below.trod laidOut (by kernel_rfl) (of_decide_eq_true (by kernel_rfl)) k0 bel lt0) (trodAll_cons_mk (Below.trod laidOut (by kernel_rfl) (of_decide_eq_true (by kernel_rfl)) k1 bel lt1) (trodAll_cons_mk (Below.trod laidOut (by kernel_rfl) (of_decide_eq_true (by kernel_rfl)) k2 bel lt2) trodAll_mk0))), rfl, bel.frame _, fun h => by cases h⟩
theorem over : Rows.watchThrottleRow.holds Try.pinned (OpenSpec.ofChange Rows.watchThrottleSpec) :=
  OpenClaim.holds_of_wide 5 Try.f5 rfl rfl rfl rfl rfl rfl rfl ⟨rfl, rfl, rfl, rfl, rfl⟩ rfl rfl rfl rfl rfl (by kernel_rfl) Try.func5 (by kernel_rfl)
    (of_decide_eq_true (by kernel_rfl)) (by unfold Func.isWrapper; first | (rw [if_pos (by decide +kernel)]; kernel_rfl) | (rw [if_neg (by decide +kernel)]; exact ⟨rfl, rfl⟩))
    (fun os started H enc _ => lifted os started H enc)
theorem proved : Rows.WatchThrottleSaid := over
#print axioms proved
end Go.Proofs.Ytelplkdbjfkfmaa.watchThrottle
namespace Go.Proofs.Ytelplkdbjfkfmaa
/-- The row, under a short name, for the claim. -/
theorem watchThrottle_holds : Rows.WatchThrottleSaid := watchThrottle.proved
end Go.Proofs.Ytelplkdbjfkfmaa
