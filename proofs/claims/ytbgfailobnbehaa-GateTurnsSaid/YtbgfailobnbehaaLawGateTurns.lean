-- Laid by a program of the session over the kit's print. Not trusted: Lean checks it.
import Derived.Test.YtbgfailobnbehaaRows
import Derived.Test.YtbgfailobnbehaaPGateTurnsx14
import Derived.Test.YtbgfailobnbehaaOpens
import Derived.Test.YtbgfailobnbehaaPureGateTurns
import Derived.WalkKit
import Derived.ProofKit
import Derived.OpenShut
import Derived.ShutString
import Derived.ChangeOld
import Derived.Below
import Derived.SizedLaws
namespace Go.Proofs.Ytbgfailobnbehaa.gateTurns
open Go.ChangeShapes Go.WideShapes Go.ChangeAt Go.RowKit Go.Proofs.YtbgfailobnbehaaW.PrintWords Go.Proofs.Ytbgfailobnbehaa.Opens Go.Proofs.Ytbgfailobnbehaa.PGateTurns
open Go.ChangeMaps (open_string shut_string)
set_option linter.unusedVariables false
theorem own : ownKnob Try.prog.godebug = none := by kernel_rfl
theorem laidOut : laidOutB Try.prog = true := by kernel_rfl
instance : Inhabited S31 := ⟨z31⟩
theorem opens31 : Opens k31 Try.prog 31 ok31 := by
  intro H enc w fuel cs x h hz
  obtain ⟨hl, hf⟩ := struct_fields Try.underlying31 h hz
  rw [show Try.prog.cellsOf 31 = 3 by kernel_rfl] at hl
  match cs, hl with
  | [c0, c1, c2], _ =>
    obtain ⟨x0, h0, o0⟩ := hf 0 _ rfl (opens_int Try.underlying29)
    replace h0 : (Kd.int .u32).K w x0 ((List.drop 0 [c0, c1, c2]).take (Try.prog.cellsOf 29)) := h0
    rw [show Try.prog.cellsOf 29 = 1 by kernel_rfl] at h0
    replace h0 : (Kd.int .u32).K w x0 [c0] := h0
    obtain ⟨x1, h1, o1⟩ := hf 1 _ rfl (opens_int Try.underlying29)
    replace h1 : (Kd.int .u32).K w x1 ((List.drop 1 [c0, c1, c2]).take (Try.prog.cellsOf 29)) := h1
    rw [show Try.prog.cellsOf 29 = 1 by kernel_rfl] at h1
    replace h1 : (Kd.int .u32).K w x1 [c1] := h1
    obtain ⟨x2, h2, o2⟩ := hf 2 _ rfl (opens_bool Try.underlying4)
    replace h2 : Kd.bool.K w x2 ((List.drop 2 [c0, c1, c2]).take (Try.prog.cellsOf 4)) := h2
    rw [show Try.prog.cellsOf 4 = 1 by kernel_rfl] at h2
    replace h2 : Kd.bool.K w x2 [c2] := h2
    exact ⟨⟨x0, x1, x2⟩, ⟨[c0], [c1, c2], rfl, h0, ⟨[c1], [c2], rfl, h1, h2⟩⟩, ⟨o0, o1, o2⟩⟩
instance : Inhabited S33 := ⟨z33⟩
theorem opens33 : Opens k33 Try.prog 33 ok33 := by
  intro H enc w fuel cs x h hz
  obtain ⟨hl, hf⟩ := struct_fields Try.underlying33 h hz
  rw [show Try.prog.cellsOf 33 = 7 by kernel_rfl] at hl
  match cs, hl with
  | [c0, c1, c2, c3, c4, c5, c6], _ =>
    obtain ⟨x0, h0, o0⟩ := hf 0 _ rfl opens31
    replace h0 : k31.K w x0 ((List.drop 0 [c0, c1, c2, c3, c4, c5, c6]).take (Try.prog.cellsOf 31)) := h0
    rw [show Try.prog.cellsOf 31 = 3 by kernel_rfl] at h0
    replace h0 : k31.K w x0 [c0, c1, c2] := h0
    obtain ⟨x1, h1, o1⟩ := hf 1 _ rfl (opens_int Try.underlying3)
    replace h1 : (Kd.int .i64).K w x1 ((List.drop 3 [c0, c1, c2, c3, c4, c5, c6]).take (Try.prog.cellsOf 3)) := h1
    rw [show Try.prog.cellsOf 3 = 1 by kernel_rfl] at h1
    replace h1 : (Kd.int .i64).K w x1 [c3] := h1
    obtain ⟨x2, h2, o2⟩ := hf 2 _ rfl (opens_string Try.underlying9)
    replace h2 : Kd.string.K w x2 ((List.drop 4 [c0, c1, c2, c3, c4, c5, c6]).take (Try.prog.cellsOf 9)) := h2
    rw [show Try.prog.cellsOf 9 = 1 by kernel_rfl] at h2
    replace h2 : Kd.string.K w x2 [c4] := h2
    obtain ⟨x3, h3, o3⟩ := hf 3 _ rfl (opens_string Try.underlying9)
    replace h3 : Kd.string.K w x3 ((List.drop 5 [c0, c1, c2, c3, c4, c5, c6]).take (Try.prog.cellsOf 9)) := h3
    rw [show Try.prog.cellsOf 9 = 1 by kernel_rfl] at h3
    replace h3 : Kd.string.K w x3 [c5] := h3
    obtain ⟨x4, h4, o4⟩ := hf 4 _ rfl (opens_string Try.underlying9)
    replace h4 : Kd.string.K w x4 ((List.drop 6 [c0, c1, c2, c3, c4, c5, c6]).take (Try.prog.cellsOf 9)) := h4
    rw [show Try.prog.cellsOf 9 = 1 by kernel_rfl] at h4
    replace h4 : Kd.string.K w x4 [c6] := h4
    exact ⟨⟨x0, x1, x2, x3, x4⟩, ⟨[c0, c1, c2], [c3, c4, c5, c6], rfl, h0, ⟨[c3], [c4, c5, c6], rfl, h1, ⟨[c4], [c5, c6], rfl, h2, ⟨[c5], [c6], rfl, h3, h4⟩⟩⟩⟩, ⟨o0, o1, o2, o3, o4⟩⟩
instance : Inhabited S27 := ⟨z27⟩
theorem opens27 : Opens k27 Try.prog 27 ok27 := by
  intro H enc w fuel cs x h hz
  obtain ⟨hl, hf⟩ := struct_fields Try.underlying27 h hz
  rw [show Try.prog.cellsOf 27 = 4 by kernel_rfl] at hl
  match cs, hl with
  | [c0, c1, c2, c3], _ =>
    obtain ⟨x0, h0, o0⟩ := hf 0 _ rfl (opens_int Try.underlying3)
    replace h0 : (Kd.int .i64).K w x0 ((List.drop 0 [c0, c1, c2, c3]).take (Try.prog.cellsOf 3)) := h0
    rw [show Try.prog.cellsOf 3 = 1 by kernel_rfl] at h0
    replace h0 : (Kd.int .i64).K w x0 [c0] := h0
    obtain ⟨x1, h1, o1⟩ := hf 1 _ rfl (opens_int Try.underlying3)
    replace h1 : (Kd.int .i64).K w x1 ((List.drop 1 [c0, c1, c2, c3]).take (Try.prog.cellsOf 3)) := h1
    rw [show Try.prog.cellsOf 3 = 1 by kernel_rfl] at h1
    replace h1 : (Kd.int .i64).K w x1 [c1] := h1
    obtain ⟨x2, h2, o2⟩ := hf 2 _ rfl (opens_int Try.underlying3)
    replace h2 : (Kd.int .i64).K w x2 ((List.drop 2 [c0, c1, c2, c3]).take (Try.prog.cellsOf 3)) := h2
    rw [show Try.prog.cellsOf 3 = 1 by kernel_rfl] at h2
    replace h2 : (Kd.int .i64).K w x2 [c2] := h2
    obtain ⟨x3, h3, o3⟩ := hf 3 _ rfl (opens_string Try.underlying9)
    replace h3 : Kd.string.K w x3 ((List.drop 3 [c0, c1, c2, c3]).take (Try.prog.cellsOf 9)) := h3
    rw [show Try.prog.cellsOf 9 = 1 by kernel_rfl] at h3
    replace h3 : Kd.string.K w x3 [c3] := h3
    exact ⟨⟨x0, x1, x2, x3⟩, ⟨[c0], [c1, c2, c3], rfl, h0, ⟨[c1], [c2, c3], rfl, h1, ⟨[c2], [c3], rfl, h2, h3⟩⟩⟩, ⟨o0, o1, o2, o3⟩⟩
set_option maxRecDepth 100000 in
set_option maxHeartbeats 2000000 in
theorem lifted (os : Os) (started : os.Started) (H : Type) (enc : TypeId × Value → H) :
    ReturnsInHanded {} Try.checked os 4 .any (Rows.gateTurnsSpec.pre6 enc Try.prog Try.f4 Rows.gateTurnsRow.domain false) (Rows.gateTurnsSpec.post enc Try.prog Try.f4 false true false false) := by
  refine returnsInHanded_of_change_sized (C := Try.checked) own started (by kernel_rfl) Try.func4
    (ChangeSpec.witness6 (enc := enc) (C := Try.checked) false ⟨#[], #[.slice none 0 0, .agg #[.int .i64 0, .int .i64 0, .int .i64 0, .string ByteArray.empty], .string ByteArray.empty, .string ByteArray.empty], []⟩ 8 (by kernel_rfl) (by kernel_rfl) (by kernel_rfl) (by kernel_rfl)) ?_
  intro W base args ds gs before hval0 hW hcnd hsz0 _
  have hsz : (DataW.weightsEach Try.prog (Try.f4.params.toList ++ Rows.gateTurnsSpec.plain.varTypes Try.prog) (ds ++ gs)).all (· ≤ reachBytes) = true := hsz0
  have hval : ∀ (j : Nat) t v, Try.f4.params[j]? = some t → args[j]? = some v → Value.okWide Try.prog W .any base t v := hval0
  have hW' := hW
  obtain ⟨p, q, hA0, hV, rfl, hfz, hnd⟩ := hW
  have hA : DataW.TrodAll enc Try.prog W 0 (fun _ => true) true Try.f4.params.toList args.toList ds p := hA0
  rw [Try.params4] at hA hval hsz
  obtain ⟨v0, vs0, d0, ds0, p0, q0, hargs, rfl, rfl, h0, r0⟩ := trodAll_cons hA
  obtain ⟨v1, vs1, d1, ds1, p1, q1, rfl, rfl, rfl, h1, r1⟩ := trodAll_cons r0
  obtain ⟨v2, vs2, d2, ds2, p2, q2, rfl, rfl, rfl, h2, r2⟩ := trodAll_cons r1
  obtain ⟨v3, vs3, d3, ds3, p3, q3, rfl, rfl, rfl, h3, r3⟩ := trodAll_cons r2
  obtain ⟨rfl, rfl, rfl⟩ := trodAll_nil r3
  obtain rfl : args = #[v0, v1, v2, v3] := by cases args; simp_all
  obtain ⟨rfl, rfl⟩ := trodVars_none hV
  have k0 := h0
  have lt0 : ∀ x ∈ p0, x.block < W.heap.size := by obtain ⟨m, hm⟩ := k0; exact DataW.trod_lt m _ _ _ hm
  obtain ⟨aa0, len0, cap0, rfl⟩ := okWide_slice Try.underlying25 (hval 0 25 v0 rfl rfl)
  obtain ⟨l0, K0, ok0_⟩ := arg_of (opens_slice (B := 72) Try.underlying25 (by kernel_rfl) (by kernel_rfl) opens33) hsz (j := 0) rfl rfl k0
  obtain ⟨A0, c0, he0, hc0, hr0⟩ := K0
  obtain ⟨rfl, rfl, rfl⟩ : aa0 = A0 ∧ len0 = l0.length ∧ cap0 = c0 := by simpa [Value.cells] using he0
  have k1 := h1
  have lt1 : ∀ x ∈ p1, x.block < W.heap.size := by obtain ⟨m, hm⟩ := k1; exact DataW.trod_lt m _ _ _ hm
  obtain ⟨cs1, rfl, _⟩ := okWide_struct Try.underlying27 (hval 1 27 v1 rfl rfl)
  obtain ⟨x1, K1, ok1_⟩ := arg_of opens27 hsz (j := 1) rfl rfl k1
  obtain ⟨_, _, he1, rfl, ⟨_, _, rfl, rfl, ⟨_, _, rfl, rfl, rfl⟩⟩⟩ := K1
  obtain rfl : cs1 = #[.int .i64 x1.f0, .int .i64 x1.f1, .int .i64 x1.f2, .string x1.f3] := Array.ext' he1
  have k2 := h2
  have lt2 : ∀ x ∈ p2, x.block < W.heap.size := by obtain ⟨m, hm⟩ := k2; exact DataW.trod_lt m _ _ _ hm
  obtain ⟨a2, rfl, rfl, rfl, y2⟩ := open_string Try.underlying9 (hval 2 9 v2 rfl rfl) h2
  have w2 : a2.size ≤ 140737488351232 := by
    have z := sized_string hsz (j := 2) (t := 9) rfl rfl
    rw [Array.length_toList] at z
    exact z
  have k3 := h3
  have lt3 : ∀ x ∈ p3, x.block < W.heap.size := by obtain ⟨m, hm⟩ := k3; exact DataW.trod_lt m _ _ _ hm
  obtain ⟨a3, rfl, rfl, rfl, y3⟩ := open_string Try.underlying9 (hval 3 9 v3 rfl rfl) h3
  have w3 : a3.size ≤ 140737488351232 := by
    have z := sized_string hsz (j := 3) (t := 9) rfl rfl
    rw [Array.length_toList] at z
    exact z
  clear hA0 hval0 hsz0 hsz
  obtain ⟨k, hp⟩ := Pure.GateTurns l0 x1.f0 x1.f1 x1.f2 x1.f3 a2 a3 ok0_.1 ok0_.2.1 ok0_.2.2 ok1_.1 ok1_.2.1 ok1_.2.2.1 ok1_.2.2.2 w2 w3
  refine (signalboxlaw34_GateTurns.calls k aa0 cap0 l0 x1.f0 x1.f1 x1.f2 x1.f3 a2 a3 true W hr0 hc0 hp).mono fun e W' ⟨he, bel0⟩ => ?_
  have bel : Below W.heap.size W W' := bel0
  subst he
  exact ⟨_, rfl, _, _, _, [], _, [], hW', trodAll_mk1 (shut_bool Try.underlying4 _), (trodAll_cons_mk (Below.trod laidOut (by kernel_rfl) (of_decide_eq_true (by kernel_rfl)) k0 bel lt0) (trodAll_cons_mk (Below.trod laidOut (by kernel_rfl) (of_decide_eq_true (by kernel_rfl)) k1 bel lt1) (trodAll_cons_mk (Below.trod laidOut (by kernel_rfl) (of_decide_eq_true (by kernel_rfl)) k2 bel lt2) (trodAll_cons_mk (Below.trod laidOut (by kernel_rfl) (of_decide_eq_true (by kernel_rfl)) k3 bel lt3) trodAll_mk0)))), rfl, bel.frame _, fun h => by cases h⟩
theorem over : Rows.gateTurnsRow.holds Try.pinned (OpenSpec.ofChange Rows.gateTurnsSpec) :=
  OpenClaim.holds_of_wide 4 Try.f4 rfl rfl rfl rfl rfl rfl rfl ⟨rfl, rfl, rfl, rfl, rfl⟩ rfl rfl rfl rfl rfl (by kernel_rfl) Try.func4 (by kernel_rfl)
    (of_decide_eq_true (by kernel_rfl)) (by unfold Func.isWrapper; first | (rw [if_pos (by decide +kernel)]; kernel_rfl) | (rw [if_neg (by decide +kernel)]; exact ⟨rfl, rfl⟩))
    (fun os started H enc _ => lifted os started H enc)
theorem proved : Rows.GateTurnsSaid := over
#print axioms proved
end Go.Proofs.Ytbgfailobnbehaa.gateTurns
namespace Go.Proofs.Ytbgfailobnbehaa
/-- The row, under a short name, for the claim. -/
theorem gateTurns_holds : Rows.GateTurnsSaid := gateTurns.proved
end Go.Proofs.Ytbgfailobnbehaa
