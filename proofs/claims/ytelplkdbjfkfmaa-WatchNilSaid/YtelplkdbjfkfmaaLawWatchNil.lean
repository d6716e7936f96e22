-- Laid by a program of the session over the kit's print. Not trusted: Lean checks it.
import Derived.Test.YtelplkdbjfkfmaaRows
import Derived.Test.YtelplkdbjfkfmaaPWatchNilx4
import Derived.Test.YtelplkdbjfkfmaaOpens
import Derived.Test.YtelplkdbjfkfmaaPureWatchNil
import Derived.WalkKit
import Derived.ProofKit
import Derived.OpenShut
import Derived.ShutString
import Derived.ChangeOld
import Derived.Below
import Derived.SizedLaws
namespace Go.Proofs.Ytelplkdbjfkfmaa.watchNil
open Go.ChangeShapes Go.WideShapes Go.ChangeAt Go.RowKit Go.Proofs.YtelplkdbjfkfmaaW.PrintWords Go.Proofs.Ytelplkdbjfkfmaa.Opens Go.Proofs.Ytelplkdbjfkfmaa.PWatchNil
open Go.ChangeMaps (open_string shut_string)
set_option linter.unusedVariables false
theorem own : ownKnob Try.prog.godebug = none := by kernel_rfl
theorem laidOut : laidOutB Try.prog = true := by kernel_rfl
instance : Inhabited S33 := ⟨z33⟩
theorem opens33 : Opens k33 Try.prog 33 ok33 := by
  intro H enc w fuel cs x h hz
  obtain ⟨hl, hf⟩ := struct_fields Try.underlying33 h hz
  rw [show Try.prog.cellsOf 33 = 4 by kernel_rfl] at hl
  match cs, hl with
  | [c0, c1, c2, c3], _ =>
    obtain ⟨x0, h0, o0⟩ := hf 0 _ rfl (opens_int Try.underlying3)
    replace h0 : (Kd.int .i64).K w x0 ((List.drop 0 [c0, c1, c2, c3]).take (Try.prog.cellsOf 3)) := h0
    rw [show Try.prog.cellsOf 3 = 1 by kernel_rfl] at h0
    replace h0 : (Kd.int .i64).K w x0 [c0] := h0
    obtain ⟨x1, h1, o1⟩ := hf 1 _ rfl (opens_int Try.underlying3)
    replace h1 : (Kd.int .i64).K w x1 ((List.drop 1 [c0, c1, c2, c3]).take (Try.prog.cellsOf 3)) := h1
    rw [show Try.prog.cellsOf 3 = 1 by kernel_rfl] at h1
    replace h1 : (Kd.int .i64).K w x1 [c1] := h1
    obtain ⟨x2, h2, o2⟩ := hf 2 _ rfl (opens_int Try.underlying3)
    replace h2 : (Kd.int .i64).K w x2 ((List.drop 2 [c0, c1, c2, c3]).take (Try.prog.cellsOf 3)) := h2
    rw [show Try.prog.cellsOf 3 = 1 by kernel_rfl] at h2
    replace h2 : (Kd.int .i64).K w x2 [c2] := h2
    obtain ⟨x3, h3, o3⟩ := hf 3 _ rfl (opens_string Try.underlying9)
    replace h3 : Kd.string.K w x3 ((List.drop 3 [c0, c1, c2, c3]).take (Try.prog.cellsOf 9)) := h3
    rw [show Try.prog.cellsOf 9 = 1 by kernel_rfl] at h3
    replace h3 : Kd.string.K w x3 [c3] := h3
    exact ⟨⟨x0, x1, x2, x3⟩, ⟨[c0], [c1, c2, c3], rfl, h0, ⟨[c1], [c2, c3], rfl, h1, ⟨[c2], [c3], rfl, h2, h3⟩⟩⟩, ⟨o0, o1, o2, o3⟩⟩
set_option maxRecDepth 100000 in
set_option maxHeartbeats 2000000 in
theorem lifted (os : Os) (started : os.Started) (H : Type) (enc : TypeId × Value → H) :
    ReturnsInHanded {} Try.checked os 7 .any (Rows.watchNilSpec.pre6 enc Try.prog Try.f7 Rows.watchNilRow.domain false) (Rows.watchNilSpec.post enc Try.prog Try.f7 false true false false) := by
  refine returnsInHanded_of_change_sized (C := Try.checked) own started (by kernel_rfl) Try.func7
    (ChangeSpec.witness6 (enc := enc) (C := Try.checked) false ⟨#[], #[.int .i64 0, .agg #[.int .i64 0, .int .i64 0, .int .i64 0, .string ByteArray.empty]], []⟩ 8 (by kernel_rfl) (by kernel_rfl) (by kernel_rfl) (by kernel_rfl)) ?_
  intro W base args ds gs before hval0 hW hcnd hsz0 _
  have hsz : (DataW.weightsEach Try.prog (Try.f7.params.toList ++ Rows.watchNilSpec.plain.varTypes Try.prog) (ds ++ gs)).all (· ≤ reachBytes) = true := hsz0
  have hval : ∀ (j : Nat) t v, Try.f7.params[j]? = some t → args[j]? = some v → Value.okWide Try.prog W .any base t v := hval0
  have hW' := hW
  obtain ⟨p, q, hA0, hV, rfl, hfz, hnd⟩ := hW
  have hA : DataW.TrodAll enc Try.prog W 0 (fun _ => true) true Try.f7.params.toList args.toList ds p := hA0
  rw [Try.params7] at hA hval hsz
  obtain ⟨v0, vs0, d0, ds0, p0, q0, hargs, rfl, rfl, h0, r0⟩ := trodAll_cons hA
  obtain ⟨v1, vs1, d1, ds1, p1, q1, rfl, rfl, rfl, h1, r1⟩ := trodAll_cons r0
  obtain ⟨rfl, rfl, rfl⟩ := trodAll_nil r1
  obtain rfl : args = #[v0, v1] := by cases args; simp_all
  obtain ⟨rfl, rfl⟩ := trodVars_none hV
  have k0 := h0
  have lt0 : ∀ x ∈ p0, x.block < W.heap.size := by obtain ⟨m, hm⟩ := k0; exact DataW.trod_lt m _ _ _ hm
  obtain ⟨a0, rfl, rfl, rfl, w0⟩ := open_int Try.underlying3 (hval 0 3 v0 rfl rfl) h0
  have k1 := h1
  have lt1 : ∀ x ∈ p1, x.block < W.heap.size := by obtain ⟨m, hm⟩ := k1; exact DataW.trod_lt m _ _ _ hm
  obtain ⟨cs1, rfl, _⟩ := okWide_struct Try.underlying33 (hval 1 33 v1 rfl rfl)
  obtain ⟨x1, K1, ok1_⟩ := arg_of opens33 hsz (j := 1) rfl rfl k1
  obtain ⟨_, _, he1, rfl, ⟨_, _, rfl, rfl, ⟨_, _, rfl, rfl, rfl⟩⟩⟩ := K1
  obtain rfl : cs1 = #[.int .i64 x1.f0, .int .i64 x1.f1, .int .i64 x1.f2, .string x1.f3] := Array.ext' he1
  clear hA0 hval0 hsz0 hsz
  have hp := Pure.WatchNil a0 x1.f0 x1.f1 x1.f2 x1.f3 w0 ok1_.1 ok1_.2.1 ok1_.2.2.1 ok1_.2.2.2
  refine (signalboxlaw23_WatchNil.calls a0 x1.f0 x1.f1 x1.f2 x1.f3 true W  hp).mono fun e W' ⟨he, bel0⟩ => ?_
  have bel : Below W.heap.size W W' := bel0
  subst he
  exact ⟨_, rfl, _, _, _, [], _, [], hW', trodAll_mk1 (shut_bool Try.underlying4 _), (trodAll_cons_mk (Below.trod laidOut (by kernel_rfl) (of_decide_eq_true (by kernel_rfl)) k0 bel lt0) (trodAll_cons_mk (Below.trod laidOut (by kernel_rfl) (of_decide_eq_true (by kernel_rfl)) k1 bel lt1) trodAll_mk0)), rfl, bel.frame _, fun h => by cases h⟩
theorem over : Rows.watchNilRow.holds Try.pinned (OpenSpec.ofChange Rows.watchNilSpec) :=
  OpenClaim.holds_of_wide 7 Try.f7 rfl rfl rfl rfl rfl rfl rfl ⟨rfl, rfl, rfl, rfl, rfl⟩ rfl rfl rfl rfl rfl (by kernel_rfl) Try.func7 (by kernel_rfl)
    (of_decide_eq_true (by kernel_rfl)) (by unfold Func.isWrapper; first | (rw [if_pos (by decide +kernel)]; kernel_rfl) | (rw [if_neg (by decide +kernel)]; exact ⟨rfl, rfl⟩))
    (fun os started H enc _ => lifted os started H enc)
theorem proved : Rows.WatchNilSaid := over
#print axioms proved
end Go.Proofs.Ytelplkdbjfkfmaa.watchNil
namespace Go.Proofs.Ytelplkdbjfkfmaa
/-- The row, under a short name, for the claim. -/
theorem watchNil_holds : Rows.WatchNilSaid := watchNil.proved
end Go.Proofs.Ytelplkdbjfkfmaa
