-- Laid by a program of the session over the kit's print. Not trusted: Lean checks it.
import Derived.Test.YtelplkdbjfkfmaaPWatchSilencex0
import Derived.Test.YtelplkdbjfkfmaaPWatchSilencex1
import Derived.Test.YtelplkdbjfkfmaaPWatchSilencex4
namespace Go.Proofs.Ytelplkdbjfkfmaa.PWatchSilence
open Go.RowKit Go.Proofs.YtelplkdbjfkfmaaW.PrintWords Go.Proofs.YtelplkdbjfkfmaaW.PrintLast Go.Proofs.YtelplkdbjfkfmaaW.PrintMore
attribute [local go_sem] max2_int min2_int max_two min_two max_three min_three max_four min_four   -- for this text's walks alone
set_option linter.unusedVariables false
set_option linter.unusedSimpArgs false

/-! ### signalboxlaw23_WatchSilence: function 4 -/
theorem hwitxS (x : Int) (h0 : 0 ≤ x) (h1 : x ≤ 1000000) : watch_within.f x = some x := by
  have e : (mn (mx x 0) 2305843009213693952) = x := by
    unfold mn mx
    repeat' split
    all_goals omega
  exact congrArg some e
theorem hrgtxS (T : Int) (h0 : 1 ≤ T) (h1 : T ≤ 20) : watch_Right.f 60 0 0 false (⟨#[]⟩ : ByteArray) 0 T = some 0 := by
  obtain ⟨n, rfl⟩ := Int.eq_ofNat_of_zero_le (show 0 ≤ T by omega)
  have hn : n < 21 := by omega
  have key : ∀ m < 21, watch_Right.f 60 0 0 false (⟨#[]⟩ : ByteArray) 0 (Int.ofNat m) = some 0 := by decide +kernel
  exact key n hn
theorem hdif65 : octet_Differ.f (⟨#[65]⟩ : ByteArray) (⟨#[65]⟩ : ByteArray) (⟨#[]⟩ : ByteArray) = some false := by decide +kernel
theorem hdfS (a0 t h x : Int) : difS { (⟨0, 0, false, (⟨#[]⟩ : ByteArray), 0, a0, some (1, 0, 1, (⟨#[65]⟩ : ByteArray)), t, none, h, false⟩ : WS) with heard := x, quiet := false } 1 (⟨#[65]⟩ : ByteArray) = some false := hdif65
theorem WAt.lowerS {W : World} {base b g : Nat} {s : WS} (h : WAt W base g s) (hb : b ≤ base) : WAt W b g s := by
  obtain ⟨h0, pt, ph, h1, h2, h3⟩ := h
  have far : ∀ (v : Value) (o : Option (Int × Int × Int × ByteArray)), FrAt W base v o → FrAt W b v o := by
    intro v o hf
    cases o with
    | none => exact hf
    | some f =>
      obtain ⟨c, q1, q2, q3⟩ := hf
      exact ⟨c, q1, Nat.le_trans hb q2, q3⟩
  exact ⟨Nat.le_trans hb h0, pt, ph, h1, far _ _ h2, far _ _ h3⟩
theorem w64xS (x : Int) (h0 : 0 ≤ x) (h1 : x ≤ 1000000) : wrap64 x = x := by
  unfold wrap64
  omega
theorem hear_beat (base g : Nat) (a0 at0 h0 now : Int) (q0 : Bool) (td : Option (Int × Int × Int × ByteArray)) (w : World) (hb : base ≤ w.heap.size) (hgw : g < w.heap.size) (htd : td = none ∨ td = some (1, 0, 1, (⟨#[65]⟩ : ByteArray))) (hW : WAt w base g (⟨0, 0, false, (⟨#[]⟩ : ByteArray), 0, a0, td, at0, none, h0, q0⟩ : WS)) (hw : watch_within.f now = some now) :
    Calls Try.prog 10 #[.pointer (some ⟨g, 0, none⟩), .int .i64 now, .agg #[.int .i64 1, .int .i64 0, .int .i64 1, .string (⟨#[65]⟩ : ByteArray)]] w fun e w' => (∃ v, e = .returned v) ∧ (∃ at1, WAt w' base g (⟨0, 0, false, (⟨#[]⟩ : ByteArray), 0, a0, some (1, 0, 1, (⟨#[65]⟩ : ByteArray)), at1, none, now, false⟩ : WS)) ∧ Wk base g w w' := by
  rcases htd with rfl | rfl
  · refine (hear_tell 60 base g _ now now 1 0 1 (⟨#[65]⟩ : ByteArray) w hb hgw hW hmat65 hw rfl (fun _ h => by cases h)).mono ?_
    rintro e w1 ⟨rfl, hA, hK⟩
    exact ⟨⟨_, rfl⟩, ⟨_, hA⟩, hK⟩
  · refine (hear_same 60 base g _ now now 1 0 1 (⟨#[65]⟩ : ByteArray) w hb hgw hW hmat65 hw hdif65).mono ?_
    rintro e w1 ⟨rfl, hA, hK⟩
    exact ⟨⟨_, rfl⟩, ⟨_, hA⟩, hK⟩
theorem sil_reads {w' : World} {base : Nat} {ok : Nat → Prop} {v0 : Value} {id nw : Int} (h : Kd.R k35 35 w' base ok v0 [(⟨2, id, (⟨0, 0, 0, ⟨#[]⟩⟩ : S33), nw⟩ : S35)]) : ∃ (ad : Addr) (c : Nat), v0 = .slice (some ad) 1 c ∧ w'.cell? ad = some (.int .i64 2) ∧ w'.cell? ⟨ad.block, ad.off + 6, none⟩ = some (.int .i64 nw) := by
  obtain ⟨A, c, rfl, hc0, hC⟩ := Kd.R_reads h
  obtain ⟨ad, rfl, g0, g1, g2, g3, g4, g5, g6⟩ := at_T35 hC 0 (by omega) (show (0 : Int) < ((1 : Nat) : Int) by decide)
  rw [show ((0 : Int)).toNat = 0 from rfl, show 0 * 7 = 0 from rfl, Addr.add_zero'] at g0 g6
  exact ⟨ad, c, rfl, g0, g6⟩
def signalboxlaw23_WatchSilence.f (a0 : Int) (l1 : List Int) : Option Bool := some true
set_option maxRecDepth 1000000 in
set_option maxHeartbeats 16000000 in
theorem signalboxlaw23_WatchSilence.calls (a0 : Int) (A1 : Option Addr) (c1 : Nat) (l1 : List Int) (r : Bool) (w : World) (hr1 : Kd.C (Kd.int .i64) w A1 l1.length l1) (hc1 : l1.length ≤ c1) (h : signalboxlaw23_WatchSilence.f a0 l1 = some r) :
    Calls Try.prog 4 #[.int .i64 a0, .slice A1 l1.length c1] w fun e w' => e = .returned (.bool r) ∧ Below w.heap.size w w' := by
  obtain rfl : true = r := Option.some.inj h
  clear h
  have HR1 := Aside0.mk hr1
  have HC1 := Aside0.mk hc1
  clear hr1 hc1
  have hu := Try.underlying33
  have hu2 := Try.underlying72
  have hu3 := Try.underlying31
  have hu4 := Try.underlying29
  have hu5 := Try.underlying35
  have hu6 := Try.underlying39
  have HB := Aside0.mk (Below.refl w.heap.size w)
  go_enter Try.func4, Try.ntmps4
  go_upto_region 1 with (fail)
  go_cut [22] (fun v22 wc => ∃ (x22 : Bool), v22 = .bool x22 ∧ Aside0 (x22 = false → 1 ≤ a0 ∧ a0 ≤ 20 ∧ l1.length ≤ 30) ∧ Aside0 (Below w.heap.size w wc))
  case first =>
    by_cases c1 : a0 < 1
    · have e1 : decide (a0 < 1) = true := decide_eq_true c1
      clear c1
      go_wp2
      go_meet
      case rel => exact ⟨true, rfl, ⟨fun h => by cases h⟩, ⟨by repeat (first | (with_reducible first | exact HB.out | apply below_alloc | apply pw_below_drewN | apply below_drew1) | exact HB.out)⟩⟩
    · have e1 : decide (a0 < 1) = false := decide_eq_false c1
      by_cases c2 : a0 > 20
      · have e2 : decide (20 < a0) = true := decide_eq_true c2
        clear c1 c2
        go_wp2
        go_meet
        case rel => exact ⟨true, rfl, ⟨fun h => by cases h⟩, ⟨by repeat (first | (with_reducible first | exact HB.out | apply below_alloc | apply pw_below_drewN | apply below_drew1) | exact HB.out)⟩⟩
      · have e2 : decide (20 < a0) = false := decide_eq_false c2
        have hA := Aside0.mk (show decide ((l1.length : Int) > 30) = false → 1 ≤ a0 ∧ a0 ≤ 20 ∧ l1.length ≤ 30 from fun h => ⟨by omega, by omega, by have := of_decide_eq_false h; omega⟩)
        clear c1 c2
        go_wp2
        go_meet
        case rel => exact ⟨_, rfl, hA, ⟨by repeat (first | (with_reducible first | exact HB.out | apply below_alloc | apply pw_below_drewN | apply below_drew1) | exact HB.out)⟩⟩
  clear HB
  obtain ⟨x22, rfl, HI, HB⟩ := hcut
  cases x22 with
  | true =>
    go_wp2_with (first | (go_at_call 8; (with_reducible refine (alive_ok _).mono ?_); rintro e w90 ⟨rfl, hb⟩; have n0_ := Aside0.mk (below_step HB.out hb); clear HB hb; have HB := n0_; clear n0_))
    go_ret
    exact ⟨rfl, HB.out⟩
  | false =>
  have HT := Aside0.mk (HI.out rfl)
  clear HI
  have HR := Aside0.mk (hrgtxS a0 HT.out.1 HT.out.2.1)
  go_wp2_with (first | (go_at_call 9; (with_reducible refine (new_ok 60 0 0 false (⟨#[]⟩ : ByteArray) 0 a0 0 0 _ HR.out hwit0).mono ?_); rintro e w1 ⟨g, rfl, hA, hb2⟩; have HA := Aside0.mk (hA.lowerS (below_size HB.out)); have n0_ := Aside0.mk (below_step HB.out hb2); clear HB; have HB := n0_; clear n0_ hA hb2))
  go_loopg [7, 32] 100 (fun kq v7 v32 w' => ∃ (x7 : Int) (x32 : Int), v7 = .int .i64 x7 ∧ v32 = .int .i64 x32 ∧ Aside0 (0 ≤ x32 ∧ x32 ≤ l1.length ∧ (kq : Int) + x32 = 100 ∧ 0 ≤ x7 ∧ x7 ≤ 50 * x32) ∧ Aside0 (∃ td at0 h0 q0, (td = none ∨ td = some (1, 0, 1, (⟨#[65]⟩ : ByteArray))) ∧ WAt w' w.heap.size g (⟨0, 0, false, (⟨#[]⟩ : ByteArray), 0, a0, td, at0, none, h0, q0⟩ : WS)) ∧ Aside0 (Below w.heap.size w w'))
  case atStart => exact ⟨0, 0, rfl, rfl, ⟨by have := HT.out; omega⟩, ⟨none, _, _, _, Or.inl rfl, HA.out⟩, HB⟩
  case round =>
    clear HA HB
    obtain ⟨x7, x32, rfl, rfl, HK, HA, HB⟩ := hrel
    obtain ⟨ko, hko⟩ : ∃ ko, ko = gk - 1 := ⟨_, rfl⟩
    have HKO := Aside0.mk hko
    clear hko
    by_cases c : x32 < (l1.length : Int)
    · have cb : decide (x32 < (l1.length : Int)) = true := decide_eq_true c
      obtain ⟨ad, ea, hx⟩ := Kd.at_int HR1.out x32 HK.out.1 c
      cases ea
      replace hx := (HB.out.cell (World.block_lt_of_cell? w _ hx)).trans hx
      have HM := Aside0.mk c
      have p1 : (0 ≤ x32) = True := eq_true HK.out.1
      have p2 : (x32 < (l1.length : Int)) = True := eq_true c
      clear c
      generalize rd l1 x32 = n at hx
      go_upto_region 8 with (fail)
      go_cut [41] (fun v41 wc => ∃ (x41 : Bool), v41 = .bool x41 ∧ Aside0 (x41 = false → 0 ≤ n ∧ n ≤ 40) ∧ Aside0 (∃ td at0 h0 q0, (td = none ∨ td = some (1, 0, 1, (⟨#[65]⟩ : ByteArray))) ∧ WAt wc w.heap.size g (⟨0, 0, false, (⟨#[]⟩ : ByteArray), 0, a0, td, at0, none, h0, q0⟩ : WS)) ∧ Aside0 (Below w.heap.size w wc))
      case first =>
        by_cases c3 : n < 0
        · have e3 : decide (n < 0) = true := decide_eq_true c3
          clear c3
          go_wp2
          go_meet
          case rel => exact ⟨true, rfl, ⟨fun h => by cases h⟩, HA, HB⟩
        · have e3 : decide (n < 0) = false := decide_eq_false c3
          have hI := Aside0.mk (show decide (n > 40) = false → 0 ≤ n ∧ n ≤ 40 from fun h => ⟨by omega, by have := of_decide_eq_false h; omega⟩)
          clear c3
          go_wp2
          go_meet
          case rel => exact ⟨_, rfl, hI, HA, HB⟩
      clear HA HB hx
      obtain ⟨x41, rfl, HI, HA0, HB⟩ := hcut
      cases x41 with
      | true =>
        clear HA0
        go_wp2_with (first | (go_at_call 8; (with_reducible refine (alive_ok _).mono ?_); rintro e w90 ⟨rfl, hb⟩; have n0_ := Aside0.mk (below_step HB.out hb); clear HB hb; have HB := n0_; clear n0_))
        go_ret
        exact ⟨rfl, HB.out⟩
      | false =>
      have HN := Aside0.mk (HI.out rfl)
      clear HI
      obtain ⟨td, at0, h0, q0, htd, hA⟩ := HA0.out
      have HTD := Aside0.mk htd
      have HA := Aside0.mk hA
      clear HA0 htd hA
      have HW7 := Aside0.mk (hwitxS x7 (by have := HK.out; omega) (by have := HK.out; have := HT.out; omega))
      go_wp2_with (first | (go_at_call 11; (with_reducible refine (signalboxlaw23_beat.calls (⟨#[65]⟩ : ByteArray) 1 0 1 (⟨#[65]⟩ : ByteArray) _ hbeat65).mono ?_); rintro e w2 ⟨rfl, hb2⟩; have n0_ := Aside0.mk (HA.out.call hb2); have n3_ := Aside0.mk (below_step HB.out hb2); clear HA HB; have HA := n0_; have HB := n3_; clear n0_ n3_; clear hb2) | (go_at_call 10; (refine (hear_beat w.heap.size g a0 at0 h0 x7 q0 td _ (below_size HB.out) HA.out.lt HTD.out HA.out HW7.out).mono ?_); rintro e w3 ⟨⟨v3, rfl⟩, ⟨at1, hA⟩, hK⟩; have n0_ := Aside0.mk hA; have n3_ := Aside0.mk (HB.out.trans hK.below); clear HA HB; have HA := n0_; have HB := n3_; clear n0_ n3_; clear hA hK))
      clear HTD
      go_loopg [7, 10] 100 (fun kq v7 v10 w' => ∃ (y7 : Int) (y10 : Int), v7 = .int .i64 y7 ∧ v10 = .int .i64 y10 ∧ Aside0 (1 ≤ y10 ∧ y10 ≤ n + 1 ∧ (kq : Int) + y10 = 101 ∧ y7 = x7 + y10 - 1) ∧ Aside0 ((y10 ≤ a0 ∧ WAt w' w.heap.size g (⟨0, 0, false, (⟨#[]⟩ : ByteArray), 0, a0, some (1, 0, 1, (⟨#[65]⟩ : ByteArray)), at1, none, x7, false⟩ : WS)) ∨ (a0 < y10 ∧ WAt w' w.heap.size g (⟨0, 0, false, (⟨#[]⟩ : ByteArray), 0, a0, some (1, 0, 1, (⟨#[65]⟩ : ByteArray)), at1, none, x7, true⟩ : WS))) ∧ Aside0 (Below w.heap.size w w'))
      case atStart => exact ⟨x7, 1, rfl, rfl, ⟨by have := HN.out; omega⟩, ⟨Or.inl ⟨HT.out.1, HA.out⟩⟩, HB⟩
      case round =>
        clear HA HB
        obtain ⟨y7, y10, rfl, rfl, HL, HO, HB⟩ := hrel
        by_cases c : y10 ≤ n
        · have cb : decide (y10 ≤ n) = true := decide_eq_true c
          have HM2 := Aside0.mk c
          have e1 : wrap64 (y7 + 1) = y7 + 1 := w64xS _ (by have := HK.out; have := HM.out; have := HT.out; have := HN.out; have := HL.out; omega) (by have := HK.out; have := HM.out; have := HT.out; have := HN.out; have := HL.out; omega)
          have e9 : wrap64 (y10 + 1) = y10 + 1 := w64xS _ (by have := HK.out; have := HM.out; have := HT.out; have := HN.out; have := HL.out; omega) (by have := HK.out; have := HM.out; have := HT.out; have := HN.out; have := HL.out; omega)
          have E1 := Aside0.mk e1
          clear c
          have HWt := Aside0.mk (hwitxS (wrap64 (y7 + 1)) (by rw [e1]; have := HK.out; have := HL.out; omega) (by rw [e1]; have := HK.out; have := HM.out; have := HT.out; have := HN.out; have := HL.out; omega))
          have HD := Aside0.mk (show wrap64 (wrap64 (y7 + 1) - x7) = y10 by rw [e1, w64xS _ (by have := HK.out; have := HM.out; have := HT.out; have := HN.out; have := HL.out; omega) (by have := HK.out; have := HM.out; have := HT.out; have := HN.out; have := HL.out; omega)]; have := HL.out; omega)
          clear e1
          obtain ⟨k1, HA⟩ | ⟨k1, HA⟩ := HO.out
          · rcases Int.lt_or_eq_of_le k1 with k2 | k2
            · have HA := Aside0.mk HA
              have cx : (y10 == a0) = false := beq_eq_false_iff_ne.mpr (by omega)
              have HX := Aside0.mk k2
              have HQ := Aside0.mk (show ¬ wrap64 (wrap64 (y7 + 1) - x7) ≥ a0 by rw [HD.out]; omega)
              clear k1 k2 HO
              go_wp2_with (first | (go_at_call 12; (refine (tick_sil0 w.heap.size g _ _ _ _ (below_size HB.out) HA.out.lt HA.out HWt.out rfl (Int.lt_of_lt_of_le Int.zero_lt_one HT.out.1) (Or.inr ⟨rfl, HQ.out⟩)).mono ?_); rintro e w7 ⟨rfl, hA, hK⟩; have n0_ := Aside0.mk hA; have n3_ := Aside0.mk (HB.out.trans hK.below); clear HA HB; have HA := n0_; have HB := n3_; clear n0_ n3_; clear hA hK))
              go_roundg (gk - 1)
              case measure => (have := HK.out; have := HM2.out; have := HT.out; have := HN.out; have := HL.out; omega)
              case rel => exact ⟨_, _, rfl, (by rw [e9]), ⟨by rw [E1.out]; have := HK.out; have := HL.out; have := HM2.out; have := HN.out; omega⟩, ⟨Or.inl ⟨by have := HX.out; omega, HA.out⟩⟩, HB⟩
            · subst k2
              have HA := Aside0.mk HA
              have cx : (y10 == y10) = true := beq_self_eq_true _
              have HQ := Aside0.mk (show wrap64 (wrap64 (y7 + 1) - x7) ≥ y10 by rw [HD.out]; omega)
              have cq : (wrap64 (y7 + 1) != wrap64 (y7 + 1)) = false := bne_self_eq_false _
              clear k1 HO
              go_wp2_with (first | (go_at_call 12; (refine (tick_sil1 w.heap.size g _ _ _ _ (below_size HB.out) HA.out.lt HA.out HWt.out rfl (Int.lt_of_lt_of_le Int.zero_lt_one HT.out.1) rfl HQ.out).mono ?_); rintro e w7 ⟨v0, rfl, hR, hA, hK⟩; obtain ⟨ad, c, rfl, g0, g6⟩ := sil_reads hR; clear hR; have n0_ := Aside0.mk hA; have n3_ := Aside0.mk (HB.out.trans hK.below); clear HA HB; have HA := n0_; have HB := n3_; clear n0_ n3_; clear hA hK))
              go_roundg (gk - 1)
              case measure => (have := HK.out; have := HM2.out; have := HT.out; have := HN.out; have := HL.out; omega)
              case rel => exact ⟨_, _, rfl, (by rw [e9]), ⟨by rw [E1.out]; have := HK.out; have := HL.out; have := HM2.out; have := HN.out; omega⟩, ⟨Or.inr ⟨by omega, HA.out⟩⟩, HB⟩
          · have HA := Aside0.mk HA
            have cx : (y10 == a0) = false := beq_eq_false_iff_ne.mpr (by omega)
            have HX := Aside0.mk k1
            clear k1 HO
            go_wp2_with (first | (go_at_call 12; (refine (tick_sil0 w.heap.size g _ _ _ _ (below_size HB.out) HA.out.lt HA.out HWt.out rfl (Int.lt_of_lt_of_le Int.zero_lt_one HT.out.1) (Or.inl rfl)).mono ?_); rintro e w7 ⟨rfl, hA, hK⟩; have n0_ := Aside0.mk hA; have n3_ := Aside0.mk (HB.out.trans hK.below); clear HA HB; have HA := n0_; have HB := n3_; clear n0_ n3_; clear hA hK))
            go_roundg (gk - 1)
            case measure => (have := HK.out; have := HM2.out; have := HT.out; have := HN.out; have := HL.out; omega)
            case rel => exact ⟨_, _, rfl, (by rw [e9]), ⟨by rw [E1.out]; have := HK.out; have := HL.out; have := HM2.out; have := HN.out; omega⟩, ⟨Or.inr ⟨by have := HX.out; omega, HA.out⟩⟩, HB⟩
        · have cb : decide (y10 ≤ n) = false := decide_eq_false c
          clear c
          have e9 : wrap64 (x32 + 1) = x32 + 1 := w64xS _ (by have := HK.out; have := HM.out; have := HT.out; have := HN.out; have := HL.out; omega) (by have := HK.out; have := HM.out; have := HT.out; have := HN.out; have := HL.out; omega)
          have HZ := Aside0.mk (show ∃ td at0 h0 q0, (td = none ∨ td = some (1, 0, 1, (⟨#[65]⟩ : ByteArray))) ∧ WAt wr w.heap.size g (⟨0, 0, false, (⟨#[]⟩ : ByteArray), 0, a0, td, at0, none, h0, q0⟩ : WS) from by
            obtain ⟨k1, HA⟩ | ⟨k1, HA⟩ := HO.out
            · exact ⟨_, _, _, _, Or.inr rfl, HA⟩
            · exact ⟨_, _, _, _, Or.inr rfl, HA⟩)
          clear HO
          go_wp2
          go_roundg ko
          case measure => have := HKO.out; have := HK.out; have := HM.out; have := HT.out; omega
          case rel => exact ⟨_, _, rfl, (by rw [e9]), ⟨by have := HKO.out; have := HK.out; have := HM.out; have := HT.out; have := HN.out; have := HL.out; omega⟩, HZ, HB⟩
    · have cb : decide (x32 < (l1.length : Int)) = false := decide_eq_false c
      clear c
      go_wp2_with (first | (go_at_call 8; (with_reducible refine (alive_ok _).mono ?_); rintro e w90 ⟨rfl, hb⟩; have n0_ := Aside0.mk (below_step HB.out hb); clear HB hb; have HB := n0_; clear n0_))
      go_ret
      exact ⟨rfl, HB.out⟩

def signalboxlaw23_WatchSilence.Pure : Prop := ∀ (a0 : Int) (l1 : List Int), (Lit.int .i64 a0).wf = true → l1.length ≤ maxLen → l1.length * 8 ≤ 140737488351232 → ((∀ x ∈ l1, ((Lit.int .i64 x).wf = true))) → signalboxlaw23_WatchSilence.f a0 l1 = some true

end Go.Proofs.Ytelplkdbjfkfmaa.PWatchSilence
