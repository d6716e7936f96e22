-- Laid by a program of the session over the kit's print. Not trusted: Lean checks it.
import Derived.Test.YtiljancboibbmaaRows
import Derived.Test.YtiljancboibbmaaPWirePacksx12
import Derived.Test.YtiljancboibbmaaOpens
import Derived.Test.YtiljancboibbmaaPureWirePacks
import Derived.WalkKit
import Derived.ProofKit
import Derived.OpenShut
import Derived.ShutString
import Derived.ChangeOld
import Derived.Below
import Derived.SizedLaws
namespace Go.Proofs.Ytiljancboibbmaa.wirePacks
open Go.ChangeShapes Go.WideShapes Go.ChangeAt Go.RowKit Go.Proofs.YtiljancboibbmaaW.PrintWords Go.Proofs.Ytiljancboibbmaa.Opens Go.Proofs.Ytiljancboibbmaa.PWirePacks
open Go.ChangeMaps (open_string shut_string)
set_option linter.unusedVariables false
theorem own : ownKnob Try.prog.godebug = none := by kernel_rfl
theorem laidOut : laidOutB Try.prog = true := by kernel_rfl
instance : Inhabited S23 := ⟨z23⟩
theorem opens23 : Opens k23 Try.prog 23 ok23 := by
  intro H enc w fuel cs x h hz
  obtain ⟨hl, hf⟩ := struct_fields Try.underlying23 h hz
  rw [show Try.prog.cellsOf 23 = 4 by kernel_rfl] at hl
  match cs, hl with
  | [c0, c1, c2, c3], _ =>
    obtain ⟨x0, h0, o0⟩ := hf 0 _ rfl (opens_int Try.underlying3)
    replace h0 : (Kd.int .i64).K w x0 ((List.drop 0 [c0, c1, c2, c3]).take (Try.prog.cellsOf 3)) := h0
    rw [show Try.prog.cellsOf 3 = 1 by kernel_rfl] at h0
    replace h0 : (Kd.int .i64).K w x0 [c0] := h0
    obtain ⟨x1, h1, o1⟩ := hf 1 _ rfl (opens_int Try.underlying3)
    replace h1 : (Kd.int .i64).K w x1 ((List.drop 1 [c0, c1, c2, c3]).take (Try.prog.cellsOf 3)) := h1
    rw [show Try.prog.cellsOf 3 = 1 by kernel_rfl] at h1
    replace h1 : (Kd.int .i64).K w x1 [c1] := h1
    obtain ⟨x2, h2, o2⟩ := hf 2 _ rfl (opens_int Try.underlying3)
    replace h2 : (Kd.int .i64).K w x2 ((List.drop 2 [c0, c1, c2, c3]).take (Try.prog.cellsOf 3)) := h2
    rw [show Try.prog.cellsOf 3 = 1 by kernel_rfl] at h2
    replace h2 : (Kd.int .i64).K w x2 [c2] := h2
    obtain ⟨x3, h3, o3⟩ := hf 3 _ rfl (opens_string Try.underlying9)
    replace h3 : Kd.string.K w x3 ((List.drop 3 [c0, c1, c2, c3]).take (Try.prog.cellsOf 9)) := h3
    rw [show Try.prog.cellsOf 9 = 1 by kernel_rfl] at h3
    replace h3 : Kd.string.K w x3 [c3] := h3
    exact ⟨⟨x0, x1, x2, x3⟩, ⟨[c0], [c1, c2, c3], rfl, h0, ⟨[c1], [c2, c3], rfl, h1, ⟨[c2], [c3], rfl, h2, h3⟩⟩⟩, ⟨o0, o1, o2, o3⟩⟩
set_option maxRecDepth 100000 in
set_option maxHeartbeats 2000000 in
theorem lifted (os : Os) (started : os.Started) (H : Type) (enc : TypeId × Value → H) :
    ReturnsInHanded {} Try.checked os 6 .any (Rows.wirePacksSpec.pre6 enc Try.prog Try.f6 Rows.wirePacksRow.domain false) (Rows.wirePacksSpec.post enc Try.prog Try.f6 false true false false) := by
  refine returnsInHanded_of_change_sized (C := Try.checked) own started (by kernel_rfl) Try.func6
    (ChangeSpec.witness6 (enc := enc) (C := Try.checked) false ⟨#[], #[.slice none 0 0], []⟩ 8 (by kernel_rfl) (by kernel_rfl) (by kernel_rfl) (by kernel_rfl)) ?_
  intro W base args ds gs before hval0 hW hcnd hsz0 _
  have hsz : (DataW.weightsEach Try.prog (Try.f6.params.toList ++ Rows.wirePacksSpec.plain.varTypes Try.prog) (ds ++ gs)).all (· ≤ reachBytes) = true := hsz0
  have hval : ∀ (j : Nat) t v, Try.f6.params[j]? = some t → args[j]? = some v → Value.okWide Try.prog W .any base t v := hval0
  have hW' := hW
  obtain ⟨p, q, hA0, hV, rfl, hfz, hnd⟩ := hW
  have hA : DataW.TrodAll enc Try.prog W 0 (fun _ => true) true Try.f6.params.toList args.toList ds p := hA0
  rw [Try.params6] at hA hval hsz
  obtain ⟨v0, vs0, d0, ds0, p0, q0, hargs, rfl, rfl, h0, r0⟩ := trodAll_cons hA
  obtain ⟨rfl, rfl, rfl⟩ := trodAll_nil r0
  obtain rfl : args = #[v0] := by cases args; simp_all
  obtain ⟨rfl, rfl⟩ := trodVars_none hV
  have k0 := h0
  have lt0 : ∀ x ∈ p0, x.block < W.heap.size := by obtain ⟨m, hm⟩ := k0; exact DataW.trod_lt m _ _ _ hm
  obtain ⟨aa0, len0, cap0, rfl⟩ := okWide_slice Try.underlying37 (hval 0 37 v0 rfl rfl)
  obtain ⟨l0, K0, ok0_⟩ := arg_of (opens_slice (B := 40) Try.underlying37 (by kernel_rfl) (by kernel_rfl) opens23) hsz (j := 0) rfl rfl k0
  obtain ⟨A0, c0, he0, hc0, hr0⟩ := K0
  obtain ⟨rfl, rfl, rfl⟩ : aa0 = A0 ∧ len0 = l0.length ∧ cap0 = c0 := by simpa [Value.cells] using he0
  clear hA0 hval0 hsz0 hsz
  obtain ⟨k, hp⟩ := Pure.WirePacks l0 ok0_.1 ok0_.2.1 ok0_.2.2
  refine (signalboxlaw03_WirePacks.calls k aa0 cap0 l0 true W hr0 hc0 hp).mono fun e W' ⟨he, bel0⟩ => ?_
  have bel : Below W.heap.size W W' := bel0
  subst he
  exact ⟨_, rfl, _, _, _, [], _, [], hW', trodAll_mk1 (shut_bool Try.underlying4 _), (trodAll_cons_mk (Below.trod laidOut (by kernel_rfl) (of_decide_eq_true (by kernel_rfl)) k0 bel lt0) trodAll_mk0), rfl, bel.frame _, fun h => by cases h⟩
theorem over : Rows.wirePacksRow.holds Try.pinned (OpenSpec.ofChange Rows.wirePacksSpec) :=
  OpenClaim.holds_of_wide 6 Try.f6 rfl rfl rfl rfl rfl rfl rfl ⟨rfl, rfl, rfl, rfl, rfl⟩ rfl rfl rfl rfl rfl (by kernel_rfl) Try.func6 (by kernel_rfl)
    (of_decide_eq_true (by kernel_rfl)) (by unfold Func.isWrapper; first | (rw [if_pos (by decide +kernel)]; kernel_rfl) | (rw [if_neg (by decide +kernel)]; exact ⟨rfl, rfl⟩))
    (fun os started H enc _ => lifted os started H enc)
theorem proved : Rows.WirePacksSaid := over
#print axioms proved
end Go.Proofs.Ytiljancboibbmaa.wirePacks
namespace Go.Proofs.Ytiljancboibbmaa
/-- The row, under a short name, for the claim. -/
theorem wirePacks_holds : Rows.WirePacksSaid := wirePacks.proved
end Go.Proofs.Ytiljancboibbmaa
