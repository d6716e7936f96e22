-- Laid by a program of the session over the kit's print. Not trusted: Lean checks it.
import Derived.Test.YtelplkdbjfkfmaaPWatchThrottlex0
import Derived.Test.YtelplkdbjfkfmaaPWatchThrottlex1
import Derived.Test.YtelplkdbjfkfmaaPWatchThrottlex3
import Derived.Test.YtelplkdbjfkfmaaPWatchThrottlex4
namespace Go.Proofs.Ytelplkdbjfkfmaa.PWatchThrottle
open Go.RowKit Go.Proofs.YtelplkdbjfkfmaaW.PrintWords Go.Proofs.YtelplkdbjfkfmaaW.PrintLast Go.Proofs.YtelplkdbjfkfmaaW.PrintMore
attribute [local go_sem] max2_int min2_int max_two min_two max_three min_three max_four min_four   -- for this text's walks alone
set_option linter.unusedVariables false
set_option linter.unusedSimpArgs false

/-! ### watch_Watch_Tick: function 12 -/
theorem infoN : (Try.prog.info? 35).map (fun i => (i.zero, i.size, i.bytes)) = some (some (.agg #[.int .i64 0, .int .i64 0, .int .i64 0, .int .i64 0, .int .i64 0, .string ⟨#[]⟩, .int .i64 0]), 7, 64) := by kernel_rfl
theorem Wk.grown {base g : Nat} {W W1 W2 : World} {row : Option Nat} (h : Wk base g W W1) (k : W1.grownBy W2 row) (hr : row = none ∨ ∃ b, row = some b ∧ W.heap.size ≤ b) (hB : Below (min base g) W W2) : Wk base g W W2 := ⟨h.keep.trans (KeepBut.of_grown k g) hr, hB⟩
theorem WAt.grown {W W1 : World} {base g : Nat} {s : WS} (h : WAt W base g s) (k : W.grownBy W1 none) : WAt W1 base g s := by
  obtain ⟨h0, pt, ph, h1, h2, h3⟩ := h
  have far : ∀ (v : Value) (o : Option (Int × Int × Int × ByteArray)), FrAt W base v o → FrAt W1 base v o := by
    intro v o hf
    cases o with
    | none => exact hf
    | some f =>
      obtain ⟨b, q1, q2, q3⟩ := hf
      exact ⟨b, q1, q2, (k.block b (blk_lt q3) (by simp)).trans q3⟩
  exact ⟨h0, pt, ph, (k.block g (blk_lt h1) (by simp)).trans h1, far _ _ h2, far _ _ h3⟩
set_option maxRecDepth 1000000 in
set_option maxHeartbeats 16000000 in
theorem tick_none0 (base g : Nat) (s : WS) (now nw : Int) (w : World) (hb : base ≤ w.heap.size) (hgw : g < w.heap.size) (hW : WAt w base g s) (hw : watch_within.f now = some nw) (hh : s.held = none) (hs : s.sil ≤ 0) :
    Calls Try.prog 12 #[.pointer (some ⟨g, 0, none⟩), .int .i64 now] w fun e w' => e = .returned (.slice none 0 0) ∧ WAt w' base g s ∧ Wk base g w w' := by
  have hu := Try.underlying33
  have hu2 := Try.underlying72
  have hu3 := Try.underlying31
  have hu4 := Try.underlying29
  have hu5 := Try.underlying35
  have hu6 := Try.underlying39
  have HA := Aside0.mk hW
  have HK := Aside0.mk (Wk.refl base g w)
  clear hW
  go_enter Try.func12, Try.ntmps12
  go_upto_region 5 with (first | (go_at_call 28; (with_reducible refine (watch_within.calls now nw _ hw).mono ?_); rintro e w3 ⟨rfl, hb2⟩; have n0_ := Aside0.mk (HA.out.call hb2); have n3_ := Aside0.mk (HK.out.call hb hb2); clear HA HK hb2; have HA := n0_; have HK := n3_; clear n0_ n3_))
  refine cut_world (fun W => WAt W base g s ∧ Wk base g w W) ⟨HA.out, HK.out⟩ ?_
  clear HA HK
  intro W hR
  obtain ⟨⟨hbg, pt, ph, k1, k2, k3⟩, k6⟩ := hR
  have hc7 : W.cell? ⟨g, 7, none⟩ = some (.int .i64 s.at_) := (blk_cell k1 7).trans rfl
  have hc4 : W.cell? ⟨g, 4, none⟩ = some (.int .i64 s.thr) := (blk_cell k1 4).trans rfl
  have hc5 : W.cell? ⟨g, 5, none⟩ = some (.int .i64 s.sil) := (blk_cell k1 5).trans rfl
  have k3' : FrAt W base ph none := hh ▸ k3
  obtain rfl : ph = .pointer none := k3'
  have hc8 : W.cell? ⟨g, 8, none⟩ = some (.pointer none) := (blk_cell k1 8).trans rfl
  have hsb : decide (s.sil > 0) = false := decide_eq_false (by omega)
  have HA := Aside0.mk (show WAt W base g s from ⟨hbg, pt, .pointer none, k1, k2, k3⟩)
  have HK := Aside0.mk k6
  clear k1 k2 k3 k6
  go_quiet (fail)
  go_wp2
  repeat (go_quiet (fail); try go_wp2)
  go_ret
  exact ⟨rfl, HA.out, HK.out.drewN _⟩
set_option maxRecDepth 1000000 in
set_option maxHeartbeats 16000000 in
theorem tick_none1 (base g : Nat) (s : WS) (now nw : Int) (w : World) (hb : base ≤ w.heap.size) (hgw : g < w.heap.size) (hW : WAt w base g s) (hw : watch_within.f now = some nw) (f : Int × Int × Int × ByteArray) (hh : s.held = some f) (hd : ¬ wrap64 (nw - s.at_) ≥ s.thr) (hs : s.sil ≤ 0) :
    Calls Try.prog 12 #[.pointer (some ⟨g, 0, none⟩), .int .i64 now] w fun e w' => e = .returned (.slice none 0 0) ∧ WAt w' base g s ∧ Wk base g w w' := by
  have hu := Try.underlying33
  have hu2 := Try.underlying72
  have hu3 := Try.underlying31
  have hu4 := Try.underlying29
  have hu5 := Try.underlying35
  have hu6 := Try.underlying39
  have HA := Aside0.mk hW
  have HK := Aside0.mk (Wk.refl base g w)
  clear hW
  go_enter Try.func12, Try.ntmps12
  go_upto_region 5 with (first | (go_at_call 28; (with_reducible refine (watch_within.calls now nw _ hw).mono ?_); rintro e w3 ⟨rfl, hb2⟩; have n0_ := Aside0.mk (HA.out.call hb2); have n3_ := Aside0.mk (HK.out.call hb hb2); clear HA HK hb2; have HA := n0_; have HK := n3_; clear n0_ n3_))
  refine cut_world (fun W => WAt W base g s ∧ Wk base g w W) ⟨HA.out, HK.out⟩ ?_
  clear HA HK
  intro W hR
  obtain ⟨⟨hbg, pt, ph, k1, k2, k3⟩, k6⟩ := hR
  have hc7 : W.cell? ⟨g, 7, none⟩ = some (.int .i64 s.at_) := (blk_cell k1 7).trans rfl
  have hc4 : W.cell? ⟨g, 4, none⟩ = some (.int .i64 s.thr) := (blk_cell k1 4).trans rfl
  have hc5 : W.cell? ⟨g, 5, none⟩ = some (.int .i64 s.sil) := (blk_cell k1 5).trans rfl
  have k3' : FrAt W base ph (some f) := hh ▸ k3
  obtain ⟨b, rfl, q2, q3⟩ := k3'
  have hc8 : W.cell? ⟨g, 8, none⟩ = some (.pointer (some ⟨b, 0, none⟩)) := (blk_cell k1 8).trans rfl
  have hsb : decide (s.sil > 0) = false := decide_eq_false (by omega)
  have hdb : decide (wrap64 (nw - s.at_) ≥ s.thr) = false := decide_eq_false (by omega)
  have HA := Aside0.mk (show WAt W base g s from ⟨hbg, pt, _, k1, k2, k3⟩)
  have HK := Aside0.mk k6
  clear k1 k2 k3 k6 q3
  go_quiet (fail)
  go_wp2
  repeat (go_quiet (fail); try go_wp2)
  go_ret
  exact ⟨rfl, HA.out, HK.out.drewN _⟩
set_option maxRecDepth 1000000 in
set_option maxHeartbeats 16000000 in
theorem tick_due (base g : Nat) (s : WS) (now nw : Int) (w : World) (hb : base ≤ w.heap.size) (hgw : g < w.heap.size) (hW : WAt w base g s) (hw : watch_within.f now = some nw) (f : Int × Int × Int × ByteArray) (hh : s.held = some f) (hd : wrap64 (nw - s.at_) ≥ s.thr) (hs : s.sil ≤ 0) :
    Calls Try.prog 12 #[.pointer (some ⟨g, 0, none⟩), .int .i64 now] w fun e w' => ∃ v0 : Value, e = .returned v0 ∧ Kd.R k35 35 w' (min base g) (fun k_ => w.heap.size ≤ k_) v0 [(⟨1, wrap64 s.id, (⟨f.1, f.2.1, f.2.2.1, f.2.2.2⟩ : S33), nw⟩ : S35)] ∧ WAt w' base g { s with told := some f, at_ := nw, held := none } ∧ Wk base g w w' := by
  have hu := Try.underlying33
  have hu2 := Try.underlying72
  have hu3 := Try.underlying31
  have hu4 := Try.underlying29
  have hu5 := Try.underlying35
  have hu6 := Try.underlying39
  have HA := Aside0.mk hW
  have HK := Aside0.mk (Wk.refl base g w)
  clear hW
  go_enter Try.func12, Try.ntmps12
  go_upto_region 5 with (first | (go_at_call 28; (with_reducible refine (watch_within.calls now nw _ hw).mono ?_); rintro e w3 ⟨rfl, hb2⟩; have n0_ := Aside0.mk (HA.out.call hb2); have n3_ := Aside0.mk (HK.out.call hb hb2); clear HA HK hb2; have HA := n0_; have HK := n3_; clear n0_ n3_))
  refine cut_world (fun W => WAt W base g s ∧ Wk base g w W) ⟨HA.out, HK.out⟩ ?_
  clear HA HK
  intro W hR
  obtain ⟨⟨hbg, pt, ph, k1, k2, k3⟩, k6⟩ := hR
  have hc7 : W.cell? ⟨g, 7, none⟩ = some (.int .i64 s.at_) := (blk_cell k1 7).trans rfl
  have hc4 : W.cell? ⟨g, 4, none⟩ = some (.int .i64 s.thr) := (blk_cell k1 4).trans rfl
  have hc5 : W.cell? ⟨g, 5, none⟩ = some (.int .i64 s.sil) := (blk_cell k1 5).trans rfl
  have k3' : FrAt W base ph (some f) := hh ▸ k3
  obtain ⟨b, rfl, q2, q3⟩ := k3'
  have hc8 : W.cell? ⟨g, 8, none⟩ = some (.pointer (some ⟨b, 0, none⟩)) := (blk_cell k1 8).trans rfl
  have hq0 : W.cell? ⟨b, 0, none⟩ = some (.int .i64 f.1) := (blk_cell q3 0).trans rfl
  have hq1 : W.cell? ⟨b, 1, none⟩ = some (.int .i64 f.2.1) := (blk_cell q3 1).trans rfl
  have hq2 : W.cell? ⟨b, 2, none⟩ = some (.int .i64 f.2.2.1) := (blk_cell q3 2).trans rfl
  have hq3 : W.cell? ⟨b, 3, none⟩ = some (.string f.2.2.2) := (blk_cell q3 3).trans rfl
  have hsb : decide (s.sil > 0) = false := decide_eq_false (by omega)
  have hdb : decide (wrap64 (nw - s.at_) ≥ s.thr) = true := decide_eq_true hd
  have HA := Aside0.mk (show WAt W base g s from ⟨hbg, pt, _, k1, k2, k3⟩)
  have HK := Aside0.mk k6
  clear k1 k2 k3 k6 q3 hc5
  go_quiet (fail)
  have HA6 := Aside0.mk (show WAt (W.drewN nq) base g s from HA.out)
  have hsz6 : base ≤ (W.drewN nq).heap.size := Nat.le_trans hb HK.out.keep.1
  clear HA
  go_wp2_with (first | (go_at_call 30; (with_reducible refine (tell_ok base g _ nw f.1 f.2.1 f.2.2.1 f.2.2.2 _ hsz6 HA6.out).mono ?_); rintro e w6 ⟨rfl, hA, hK⟩; have HA := Aside0.mk hA; have n2_ := Aside0.mk ((Wk.drewN HK.out _).trans hK); clear HK hA hK; have HK := n2_; clear n2_) | ((with_reducible refine gate_builtin (b := .append) (xs := #[.tmp 31, .tmp 41]) rfl ?_); at_builtin; refine Kd.R_append k35 (w0 := w) (min base g) rfl (.tmp 31) (.tmp 41) 39 35 (.agg #[.int .i64 0, .int .i64 0, .int .i64 0, .int .i64 0, .int .i64 0, .string ⟨#[]⟩, .int .i64 0]) 64 rfl Try.underlying39 infoN rfl (by decide) (by omega) (.slice none 0 0) ([] : List S35) (⟨1, wrap64 s.id, (⟨f.1, f.2.1, f.2.2.1, f.2.2.2⟩ : S33), nw⟩ : S35) [.int .i64 1, .int .i64 (wrap64 s.id), .int .i64 f.1, .int .i64 f.2.1, .int .i64 f.2.2.1, .string f.2.2.2, .int .i64 nw] (fun k_ => w.heap.size ≤ k_) (fun _ => False) rfl (by first | (go_simp; done) | (go_simp; rfl)) ?aP (fun _ hk => hk.elim) ?aF ?aO ?aB ?aS ?aL ?_; (case aP => exact k35_mkM _ _ _ (⟨1, wrap64 s.id, (⟨f.1, f.2.1, f.2.2.1, f.2.2.2⟩ : S33), nw⟩ : S35)); (case aF => exact fun k_ hk => Nat.le_trans HK.out.keep.1 hk); (case aO => exact Kd.R_nil _ _ _ _ _); (case aB => exact HK.out.below); (case aS => exact Nat.le_trans (Nat.le_trans (Nat.min_le_left base g) hb) HK.out.keep.1); (case aL => decide); intro v7 w7 ho hbo hg hat; have n0_ := Aside0.mk (HA.out.grown hg); have n1_ := Aside0.mk (HK.out.grown hg (Or.inl rfl) hbo); have HO := Aside0.mk ho; clear HA HK ho hbo hg hat; have HA := n0_; have HK := n1_; clear n0_ n1_; obtain ⟨hbg7, pt7, ph7, j1, j2, j3⟩ := HA.out; have hc5 : w7.cell? ⟨g, 5, none⟩ = some (.int .i64 s.sil) := (blk_cell j1 5).trans rfl; clear j1 j2 j3))
  repeat (go_quiet (fail); try go_wp2)
  go_ret
  exact ⟨_, rfl, HO.out, HA.out, HK.out⟩
set_option maxRecDepth 1000000 in
set_option maxHeartbeats 16000000 in
theorem tick_sil0 (base g : Nat) (s : WS) (now nw : Int) (w : World) (hb : base ≤ w.heap.size) (hgw : g < w.heap.size) (hW : WAt w base g s) (hw : watch_within.f now = some nw) (hh : s.held = none) (hs : s.sil > 0) (hq : s.quiet = true ∨ (s.quiet = false ∧ ¬ wrap64 (nw - s.heard) ≥ s.sil)) :
    Calls Try.prog 12 #[.pointer (some ⟨g, 0, none⟩), .int .i64 now] w fun e w' => e = .returned (.slice none 0 0) ∧ WAt w' base g s ∧ Wk base g w w' := by
  have hu := Try.underlying33
  have hu2 := Try.underlying72
  have hu3 := Try.underlying31
  have hu4 := Try.underlying29
  have hu5 := Try.underlying35
  have hu6 := Try.underlying39
  have HA := Aside0.mk hW
  have HK := Aside0.mk (Wk.refl base g w)
  clear hW
  go_enter Try.func12, Try.ntmps12
  go_upto_region 5 with (first | (go_at_call 28; (with_reducible refine (watch_within.calls now nw _ hw).mono ?_); rintro e w3 ⟨rfl, hb2⟩; have n0_ := Aside0.mk (HA.out.call hb2); have n3_ := Aside0.mk (HK.out.call hb hb2); clear HA HK hb2; have HA := n0_; have HK := n3_; clear n0_ n3_))
  refine cut_world (fun W => WAt W base g s ∧ Wk base g w W) ⟨HA.out, HK.out⟩ ?_
  clear HA HK
  intro W hR
  obtain ⟨⟨hbg, pt, ph, k1, k2, k3⟩, k6⟩ := hR
  have hc7 : W.cell? ⟨g, 7, none⟩ = some (.int .i64 s.at_) := (blk_cell k1 7).trans rfl
  have hc4 : W.cell? ⟨g, 4, none⟩ = some (.int .i64 s.thr) := (blk_cell k1 4).trans rfl
  have hc5 : W.cell? ⟨g, 5, none⟩ = some (.int .i64 s.sil) := (blk_cell k1 5).trans rfl
  have k3' : FrAt W base ph none := hh ▸ k3
  obtain rfl : ph = .pointer none := k3'
  have hc8 : W.cell? ⟨g, 8, none⟩ = some (.pointer none) := (blk_cell k1 8).trans rfl
  have hc9 : W.cell? ⟨g, 9, none⟩ = some (.int .i64 s.heard) := (blk_cell k1 9).trans rfl
  have hsb : decide (s.sil > 0) = true := decide_eq_true hs
  have HA := Aside0.mk (show WAt W base g s from ⟨hbg, pt, .pointer none, k1, k2, k3⟩)
  have HK := Aside0.mk k6
  rcases hq with hq | ⟨hq, hn⟩
  · have hc10 : W.cell? ⟨g, 10, none⟩ = some (.bool true) := (blk_cell k1 10).trans (congrArg (fun x => some (Value.bool x)) hq)
    clear k1 k2 k3 k6 hq
    go_quiet (fail)
    go_wp2
    repeat (go_quiet (fail); try go_wp2)
    go_ret
    exact ⟨rfl, HA.out, HK.out.drewN _⟩
  · have hc10 : W.cell? ⟨g, 10, none⟩ = some (.bool false) := (blk_cell k1 10).trans (congrArg (fun x => some (Value.bool x)) hq)
    have hnb : decide (wrap64 (nw - s.heard) ≥ s.sil) = false := decide_eq_false (by omega)
    clear k1 k2 k3 k6 hq hn
    go_quiet (fail)
    go_wp2
    repeat (go_quiet (fail); try go_wp2)
    go_ret
    exact ⟨rfl, HA.out, HK.out.drewN _⟩
set_option maxRecDepth 1000000 in
set_option maxHeartbeats 16000000 in
theorem tick_sil1 (base g : Nat) (s : WS) (now nw : Int) (w : World) (hb : base ≤ w.heap.size) (hgw : g < w.heap.size) (hW : WAt w base g s) (hw : watch_within.f now = some nw) (hh : s.held = none) (hs : s.sil > 0) (hq : s.quiet = false) (hn : wrap64 (nw - s.heard) ≥ s.sil) :
    Calls Try.prog 12 #[.pointer (some ⟨g, 0, none⟩), .int .i64 now] w fun e w' => ∃ v0 : Value, e = .returned v0 ∧ Kd.R k35 35 w' (min base g) (fun k_ => w.heap.size ≤ k_) v0 [(⟨2, wrap64 s.id, (⟨0, 0, 0, ⟨#[]⟩⟩ : S33), nw⟩ : S35)] ∧ WAt w' base g { s with quiet := true } ∧ Wk base g w w' := by
  have hu := Try.underlying33
  have hu2 := Try.underlying72
  have hu3 := Try.underlying31
  have hu4 := Try.underlying29
  have hu5 := Try.underlying35
  have hu6 := Try.underlying39
  have HA := Aside0.mk hW
  have HK := Aside0.mk (Wk.refl base g w)
  clear hW
  go_enter Try.func12, Try.ntmps12
  go_upto_region 5 with (first | (go_at_call 28; (with_reducible refine (watch_within.calls now nw _ hw).mono ?_); rintro e w3 ⟨rfl, hb2⟩; have n0_ := Aside0.mk (HA.out.call hb2); have n3_ := Aside0.mk (HK.out.call hb hb2); clear HA HK hb2; have HA := n0_; have HK := n3_; clear n0_ n3_))
  refine cut_world (fun W => WAt W base g s ∧ Wk base g w W) ⟨HA.out, HK.out⟩ ?_
  clear HA HK
  intro W hR
  obtain ⟨⟨hbg, pt, ph, k1, k2, k3⟩, k6⟩ := hR
  have hc7 : W.cell? ⟨g, 7, none⟩ = some (.int .i64 s.at_) := (blk_cell k1 7).trans rfl
  have hc4 : W.cell? ⟨g, 4, none⟩ = some (.int .i64 s.thr) := (blk_cell k1 4).trans rfl
  have hc5 : W.cell? ⟨g, 5, none⟩ = some (.int .i64 s.sil) := (blk_cell k1 5).trans rfl
  have k3' : FrAt W base ph none := hh ▸ k3
  obtain rfl : ph = .pointer none := k3'
  have hc8 : W.cell? ⟨g, 8, none⟩ = some (.pointer none) := (blk_cell k1 8).trans rfl
  have hc9 : W.cell? ⟨g, 9, none⟩ = some (.int .i64 s.heard) := (blk_cell k1 9).trans rfl
  have hsb : decide (s.sil > 0) = true := decide_eq_true hs
  have hc10 : W.cell? ⟨g, 10, none⟩ = some (.bool false) := (blk_cell k1 10).trans (congrArg (fun x => some (Value.bool x)) hq)
  have hnb : decide (wrap64 (nw - s.heard) ≥ s.sil) = true := decide_eq_true hn
  have hz10 : W.frozen? ⟨g, 10, none⟩ = false := blk_frozen k1 10
  go_quiet (fail)
  go_upto_region 10 with (fail)
  have HA := Aside0.mk (show WAt ((W.drewN nq).setCell ⟨g, 10, none⟩ (.bool true)) base g { s with quiet := true } from ⟨hbg, pt, .pointer none, blk_put (blk_drewN k1 nq) 10 _ rfl, k2.keep k1 (keep_drewN ((KeepBut.refl _ _ _)) nq |>.set_ 10 _), (k3.keep k1 (keep_drewN ((KeepBut.refl _ _ _)) nq |>.set_ 10 _))⟩)
  have HK := Aside0.mk ((k6.drewN nq).set hbg 10 (.bool true))
  clear k1 k2 k3 k6 hc10 hz10 hc9 hc8 hc7 hc4 hc5
  generalize ((W.drewN nq).setCell ⟨g, 10, none⟩ (.bool true)) = W8 at HA HK ⊢
  go_wp2_with (first | (go_at_call 31; (with_reducible refine (note_ok base g _ 2 nw 0 0 0 (⟨#[]⟩ : ByteArray) _ HA.out).mono ?_); rintro e w6 ⟨rfl, hb6⟩; have n0_ := Aside0.mk (HA.out.call hb6); have n1_ := Aside0.mk (HK.out.call hb hb6); clear HA HK hb6; have HA := n0_; have HK := n1_; clear n0_ n1_) | ((with_reducible refine gate_builtin (b := .append) (xs := #[.tmp 70, .tmp 75]) rfl ?_); at_builtin; refine Kd.R_append k35 (w0 := w) (min base g) rfl (.tmp 70) (.tmp 75) 39 35 (.agg #[.int .i64 0, .int .i64 0, .int .i64 0, .int .i64 0, .int .i64 0, .string ⟨#[]⟩, .int .i64 0]) 64 rfl Try.underlying39 infoN rfl (by decide) (by omega) (.slice none 0 0) ([] : List S35) (⟨2, wrap64 s.id, (⟨0, 0, 0, ⟨#[]⟩⟩ : S33), nw⟩ : S35) [.int .i64 2, .int .i64 (wrap64 s.id), .int .i64 0, .int .i64 0, .int .i64 0, .string ⟨#[]⟩, .int .i64 nw] (fun k_ => w.heap.size ≤ k_) (fun _ => False) rfl (by first | (go_simp; done) | (go_simp; rfl)) ?aP (fun _ hk => hk.elim) ?aF ?aO ?aB ?aS ?aL ?_; (case aP => exact k35_mkM _ _ _ (⟨2, wrap64 s.id, (⟨0, 0, 0, ⟨#[]⟩⟩ : S33), nw⟩ : S35)); (case aF => exact fun k_ hk => Nat.le_trans HK.out.keep.1 hk); (case aO => exact Kd.R_nil _ _ _ _ _); (case aB => exact HK.out.below); (case aS => exact Nat.le_trans (Nat.le_trans (Nat.min_le_left base g) hb) HK.out.keep.1); (case aL => decide); intro v7 w7 ho hbo hg hat; have n0_ := Aside0.mk (HA.out.grown hg); have n1_ := Aside0.mk (HK.out.grown hg (Or.inl rfl) hbo); have HO := Aside0.mk ho; clear HA HK ho hbo hg hat; have HA := n0_; have HK := n1_; clear n0_ n1_))
  go_ret
  exact ⟨_, rfl, HO.out, HA.out, HK.out⟩
def silB (s : WS) (nw : Int) : Bool := decide (s.sil > 0) && !s.quiet && decide (wrap64 (nw - s.heard) ≥ s.sil)
def dueL (s : WS) (nw : Int) : Option (Int × Int × Int × ByteArray) → List S35
  | none => []
  | some f => [(⟨1, wrap64 s.id, (⟨f.1, f.2.1, f.2.2.1, f.2.2.2⟩ : S33), nw⟩ : S35)]
def dueS (s : WS) (nw : Int) : Option (Int × Int × Int × ByteArray) → WS
  | none => s
  | some f => { s with told := some f, at_ := nw, held := none }
def TkP (base g : Nat) (s : WS) (nw : Int) (due : Option (Int × Int × Int × ByteArray)) (w w' : World) (v0 : Value) : Prop :=
  Kd.R k35 35 w' (min base g) (fun k_ => w.heap.size ≤ k_) v0 (dueL s nw due ++ if silB s nw = true then [(⟨2, wrap64 s.id, (⟨0, 0, 0, ⟨#[]⟩⟩ : S33), nw⟩ : S35)] else []) ∧ WAt w' base g (if silB s nw = true then { dueS s nw due with quiet := true } else dueS s nw due) ∧ Wk base g w w'
theorem TkP.no {base g : Nat} {s : WS} {nw : Int} {due : Option (Int × Int × Int × ByteArray)} {w w' : World} {v0 : Value} (es : silB s nw = false) (hO : Kd.R k35 35 w' (min base g) (fun k_ => w.heap.size ≤ k_) v0 (dueL s nw due)) (hA : WAt w' base g (dueS s nw due)) (hK : Wk base g w w') : TkP base g s nw due w w' v0 := by
  unfold TkP
  rw [es]
  exact ⟨(List.append_nil (dueL s nw due)).symm ▸ hO, hA, hK⟩
theorem TkP.yes {base g : Nat} {s : WS} {nw : Int} {due : Option (Int × Int × Int × ByteArray)} {w w' : World} {v0 : Value} (es : silB s nw = true) (hO : Kd.R k35 35 w' (min base g) (fun k_ => w.heap.size ≤ k_) v0 (dueL s nw due ++ [(⟨2, wrap64 s.id, (⟨0, 0, 0, ⟨#[]⟩⟩ : S33), nw⟩ : S35)])) (hA : WAt w' base g { dueS s nw due with quiet := true }) (hK : Wk base g w w') : TkP base g s nw due w w' v0 := by
  unfold TkP
  rw [es]
  exact ⟨hO, hA, hK⟩
theorem row_new {n : Nat} {W : World} {base : Nat} {v : Value} {xs : List S35} (h : Kd.R k35 35 W base (fun k_ => n ≤ k_) v xs) : v.ownBlock = none ∨ ∃ b, v.ownBlock = some b ∧ n ≤ b := by
  cases e : v.ownBlock with
  | none => exact Or.inl rfl
  | some b => exact Or.inr ⟨b, rfl, h.1 b e⟩
theorem WAt.grownV {W W1 : World} {base b' g : Nat} {ok : Nat → Prop} {s : WS} {v : Value} {xs : List S35} (h : WAt W base g s) (hR : Kd.R k35 35 W b' ok v xs) (k : W.grownBy W1 v.ownBlock) : WAt W1 base g s := by
  obtain ⟨h0, pt, ph, h1, h2, h3⟩ := h
  have far : ∀ (v : Value) (o : Option (Int × Int × Int × ByteArray)), FrAt W base v o → FrAt W1 base v o := by
    intro v o hf
    cases o with
    | none => exact hf
    | some f =>
      obtain ⟨b, q1, q2, q3⟩ := hf
      exact ⟨b, q1, q2, (k.block b (blk_lt q3) (Kd.R_ne hR q3 (by decide))).trans q3⟩
  exact ⟨h0, pt, ph, (k.block g (blk_lt h1) (Kd.R_ne hR h1 (by decide))).trans h1, far _ _ h2, far _ _ h3⟩
set_option maxRecDepth 1000000 in
set_option maxHeartbeats 16000000 in
theorem tick_n0 (base g : Nat) (s : WS) (now nw : Int) (w : World) (hb : base ≤ w.heap.size) (hgw : g < w.heap.size) (hW : WAt w base g s) (hw : watch_within.f now = some nw) (hh : s.held = none) :
    Calls Try.prog 12 #[.pointer (some ⟨g, 0, none⟩), .int .i64 now] w fun e w' => ∃ v0 : Value, e = .returned v0 ∧ TkP base g s nw none w w' v0 := by
  have hu := Try.underlying33
  have hu2 := Try.underlying72
  have hu3 := Try.underlying31
  have hu4 := Try.underlying29
  have hu5 := Try.underlying35
  have hu6 := Try.underlying39
  have HA := Aside0.mk hW
  have HK := Aside0.mk (Wk.refl base g w)
  clear hW
  go_enter Try.func12, Try.ntmps12
  go_upto_region 5 with (first | (go_at_call 28; (with_reducible refine (watch_within.calls now nw _ hw).mono ?_); rintro e w3 ⟨rfl, hb2⟩; have n0_ := Aside0.mk (HA.out.call hb2); have n3_ := Aside0.mk (HK.out.call hb hb2); clear HA HK hb2; have HA := n0_; have HK := n3_; clear n0_ n3_))
  refine cut_world (fun W => WAt W base g s ∧ Wk base g w W) ⟨HA.out, HK.out⟩ ?_
  clear HA HK
  intro W hR
  obtain ⟨⟨hbg, pt, ph, k1, k2, k3⟩, k6⟩ := hR
  have hc7 : W.cell? ⟨g, 7, none⟩ = some (.int .i64 s.at_) := (blk_cell k1 7).trans rfl
  have hc4 : W.cell? ⟨g, 4, none⟩ = some (.int .i64 s.thr) := (blk_cell k1 4).trans rfl
  have hc5 : W.cell? ⟨g, 5, none⟩ = some (.int .i64 s.sil) := (blk_cell k1 5).trans rfl
  have k3' : FrAt W base ph none := hh ▸ k3
  obtain rfl : ph = .pointer none := k3'
  have hc8 : W.cell? ⟨g, 8, none⟩ = some (.pointer none) := (blk_cell k1 8).trans rfl
  have HA := Aside0.mk (show WAt W base g s from ⟨hbg, pt, .pointer none, k1, k2, k3⟩)
  have HK := Aside0.mk k6
  clear k1 k2 k3 k6
  go_quiet (fail)
  go_upto_region 7 with (fail)
  have n0_ := Aside0.mk (show WAt (W.drewN nq) base g s from HA.out)
  have n1_ := Aside0.mk (HK.out.drewN nq)
  clear HA HK hc5 hc7 hc4 hc8
  generalize (W.drewN nq) = W7 at n0_ n1_ ⊢
  have HA := n0_
  have HK := n1_
  clear n0_ n1_
  have HO := Aside0.mk (Kd.R_nil k35 35 W7 (min base g) (fun k_ => w.heap.size ≤ k_))
  obtain ⟨hbg_, pt_, ph_, j1, j2, j3⟩ := HA.out
  have hc5 : W7.cell? ⟨g, 5, none⟩ = some (.int .i64 s.sil) := (blk_cell j1 5).trans rfl
  have hc9 : W7.cell? ⟨g, 9, none⟩ = some (.int .i64 s.heard) := (blk_cell j1 9).trans rfl
  have hc10 : W7.cell? ⟨g, 10, none⟩ = some (.bool s.quiet) := (blk_cell j1 10).trans rfl
  have hz10 : W7.frozen? ⟨g, 10, none⟩ = false := blk_frozen j1 10
  by_cases h1 : s.sil > 0
  · have h1b : decide (s.sil > 0) = true := decide_eq_true h1
    cases hq : s.quiet with
    | true =>
      have ES := Aside0.mk (show silB s nw = false by unfold silB; rw [h1b, hq]; rfl)
      rw [hq] at hc10
      clear j1 j2 j3 h1
      go_wp2
      go_ret
      exact ⟨_, rfl, TkP.no ES.out HO.out HA.out HK.out⟩
    | false =>
      rw [hq] at hc10
      by_cases h3 : wrap64 (nw - s.heard) ≥ s.sil
      · have h3b : decide (wrap64 (nw - s.heard) ≥ s.sil) = true := decide_eq_true h3
        have ES := Aside0.mk (show silB s nw = true by unfold silB; rw [h1b, hq, h3b]; rfl)
        go_upto_region 10 with (fail)
        have n0_ := Aside0.mk (show WAt (W7.setCell ⟨g, 10, none⟩ (.bool true)) base g { s with quiet := true } from ⟨hbg_, pt_, ph_, blk_put j1 10 _ rfl, j2.keep j1 (KeepBut.refl _ _ _ |>.set_ 10 _), j3.keep j1 (KeepBut.refl _ _ _ |>.set_ 10 _)⟩)
        have n1_ := Aside0.mk (HK.out.set hbg_ 10 (.bool true))
        have n2_ := Aside0.mk (Kd.R_set HO.out j1 (by decide) 10 (.bool true))
        clear HA HK HO j1 j2 j3 hc10 hz10 hc9 hc5
        generalize (W7.setCell ⟨g, 10, none⟩ (.bool true)) = W8 at n0_ n1_ n2_ ⊢
        have HA := n0_
        have HK := n1_
        have HO := n2_
        clear n0_ n1_ n2_
        go_wp2_with (first | (go_at_call 31; (with_reducible refine (note_ok base g _ 2 nw 0 0 0 (⟨#[]⟩ : ByteArray) _ HA.out).mono ?_); rintro e w6 ⟨rfl, hb6⟩; have n0_ := Aside0.mk (HA.out.call hb6); have n1_ := Aside0.mk (HK.out.call hb hb6); have n2_ := Aside0.mk (Kd.R_below HO.out hb6); clear HA HK HO hb6; have HA := n0_; have HK := n1_; have HO := n2_; clear n0_ n1_ n2_) | ((with_reducible refine gate_builtin (b := .append) (xs := #[.tmp 70, .tmp 75]) rfl ?_); at_builtin; refine Kd.R_append k35 (w0 := w) (min base g) rfl (.tmp 70) (.tmp 75) 39 35 (.agg #[.int .i64 0, .int .i64 0, .int .i64 0, .int .i64 0, .int .i64 0, .string ⟨#[]⟩, .int .i64 0]) 64 rfl Try.underlying39 infoN rfl (by decide) (by omega) (.slice none 0 0) ([] : List S35) (⟨2, wrap64 s.id, (⟨0, 0, 0, ⟨#[]⟩⟩ : S33), nw⟩ : S35) [.int .i64 2, .int .i64 (wrap64 s.id), .int .i64 0, .int .i64 0, .int .i64 0, .string ⟨#[]⟩, .int .i64 nw] (fun k_ => w.heap.size ≤ k_) (fun _ => False) rfl (by first | (go_simp; done) | (go_simp; rfl)) ?aP (fun _ hk => hk.elim) ?aF ?aO ?aB ?aS ?aL ?_; (case aP => exact k35_mkM _ _ _ (⟨2, wrap64 s.id, (⟨0, 0, 0, ⟨#[]⟩⟩ : S33), nw⟩ : S35)); (case aF => exact fun k_ hk => Nat.le_trans HK.out.keep.1 hk); (case aO => exact HO.out); (case aB => exact HK.out.below); (case aS => exact Nat.le_trans (Nat.le_trans (Nat.min_le_left base g) hb) HK.out.keep.1); (case aL => exact (by simp only [List.length_nil, List.length_cons]; omega)); intro v8 w8 ho hbo hg hat; have n0_ := Aside0.mk (HA.out.grownV HO.out hg); have n1_ := Aside0.mk (HK.out.grown hg (row_new HO.out) hbo); have HO2 := Aside0.mk ho; clear HA HK ho hbo hg hat; have HA := n0_; have HK := n1_; clear n0_ n1_))
        go_ret
        exact ⟨_, rfl, TkP.yes ES.out HO2.out HA.out HK.out⟩
      · have h3b : decide (wrap64 (nw - s.heard) ≥ s.sil) = false := decide_eq_false h3
        have ES := Aside0.mk (show silB s nw = false by unfold silB; rw [h3b]; exact Bool.and_false _)
        clear j1 j2 j3 h1 h3
        go_wp2
        go_ret
        exact ⟨_, rfl, TkP.no ES.out HO.out HA.out HK.out⟩
  · have h1b : decide (s.sil > 0) = false := decide_eq_false h1
    have ES := Aside0.mk (show silB s nw = false by unfold silB; rw [h1b]; rfl)
    clear j1 j2 j3 h1
    go_wp2
    go_ret
    exact ⟨_, rfl, TkP.no ES.out HO.out HA.out HK.out⟩
set_option maxRecDepth 1000000 in
set_option maxHeartbeats 16000000 in
theorem tick_n1 (base g : Nat) (s : WS) (now nw : Int) (w : World) (hb : base ≤ w.heap.size) (hgw : g < w.heap.size) (hW : WAt w base g s) (hw : watch_within.f now = some nw) (f : Int × Int × Int × ByteArray) (hh : s.held = some f) (hd : ¬ wrap64 (nw - s.at_) ≥ s.thr) :
    Calls Try.prog 12 #[.pointer (some ⟨g, 0, none⟩), .int .i64 now] w fun e w' => ∃ v0 : Value, e = .returned v0 ∧ TkP base g s nw none w w' v0 := by
  have hu := Try.underlying33
  have hu2 := Try.underlying72
  have hu3 := Try.underlying31
  have hu4 := Try.underlying29
  have hu5 := Try.underlying35
  have hu6 := Try.underlying39
  have HA := Aside0.mk hW
  have HK := Aside0.mk (Wk.refl base g w)
  clear hW
  go_enter Try.func12, Try.ntmps12
  go_upto_region 5 with (first | (go_at_call 28; (with_reducible refine (watch_within.calls now nw _ hw).mono ?_); rintro e w3 ⟨rfl, hb2⟩; have n0_ := Aside0.mk (HA.out.call hb2); have n3_ := Aside0.mk (HK.out.call hb hb2); clear HA HK hb2; have HA := n0_; have HK := n3_; clear n0_ n3_))
  refine cut_world (fun W => WAt W base g s ∧ Wk base g w W) ⟨HA.out, HK.out⟩ ?_
  clear HA HK
  intro W hR
  obtain ⟨⟨hbg, pt, ph, k1, k2, k3⟩, k6⟩ := hR
  have hc7 : W.cell? ⟨g, 7, none⟩ = some (.int .i64 s.at_) := (blk_cell k1 7).trans rfl
  have hc4 : W.cell? ⟨g, 4, none⟩ = some (.int .i64 s.thr) := (blk_cell k1 4).trans rfl
  have hc5 : W.cell? ⟨g, 5, none⟩ = some (.int .i64 s.sil) := (blk_cell k1 5).trans rfl
  have k3' : FrAt W base ph (some f) := hh ▸ k3
  obtain ⟨b, rfl, q2, q3⟩ := k3'
  have hc8 : W.cell? ⟨g, 8, none⟩ = some (.pointer (some ⟨b, 0, none⟩)) := (blk_cell k1 8).trans rfl
  have hdb : decide (wrap64 (nw - s.at_) ≥ s.thr) = false := decide_eq_false (by omega)
  have HA := Aside0.mk (show WAt W base g s from ⟨hbg, pt, _, k1, k2, k3⟩)
  have HK := Aside0.mk k6
  clear k1 k2 k3 k6 q3
  go_quiet (fail)
  go_upto_region 7 with (fail)
  have n0_ := Aside0.mk (show WAt (W.drewN nq) base g s from HA.out)
  have n1_ := Aside0.mk (HK.out.drewN nq)
  clear HA HK hc5 hc7 hc4 hc8
  generalize (W.drewN nq) = W7 at n0_ n1_ ⊢
  have HA := n0_
  have HK := n1_
  clear n0_ n1_
  have HO := Aside0.mk (Kd.R_nil k35 35 W7 (min base g) (fun k_ => w.heap.size ≤ k_))
  obtain ⟨hbg_, pt_, ph_, j1, j2, j3⟩ := HA.out
  have hc5 : W7.cell? ⟨g, 5, none⟩ = some (.int .i64 s.sil) := (blk_cell j1 5).trans rfl
  have hc9 : W7.cell? ⟨g, 9, none⟩ = some (.int .i64 s.heard) := (blk_cell j1 9).trans rfl
  have hc10 : W7.cell? ⟨g, 10, none⟩ = some (.bool s.quiet) := (blk_cell j1 10).trans rfl
  have hz10 : W7.frozen? ⟨g, 10, none⟩ = false := blk_frozen j1 10
  by_cases h1 : s.sil > 0
  · have h1b : decide (s.sil > 0) = true := decide_eq_true h1
    cases hq : s.quiet with
    | true =>
      have ES := Aside0.mk (show silB s nw = false by unfold silB; rw [h1b, hq]; rfl)
      rw [hq] at hc10
      clear j1 j2 j3 h1
      go_wp2
      go_ret
      exact ⟨_, rfl, TkP.no ES.out HO.out HA.out HK.out⟩
    | false =>
      rw [hq] at hc10
      by_cases h3 : wrap64 (nw - s.heard) ≥ s.sil
      · have h3b : decide (wrap64 (nw - s.heard) ≥ s.sil) = true := decide_eq_true h3
        have ES := Aside0.mk (show silB s nw = true by unfold silB; rw [h1b, hq, h3b]; rfl)
        go_upto_region 10 with (fail)
        have n0_ := Aside0.mk (show WAt (W7.setCell ⟨g, 10, none⟩ (.bool true)) base g { s with quiet := true } from ⟨hbg_, pt_, ph_, blk_put j1 10 _ rfl, j2.keep j1 (KeepBut.refl _ _ _ |>.set_ 10 _), j3.keep j1 (KeepBut.refl _ _ _ |>.set_ 10 _)⟩)
        have n1_ := Aside0.mk (HK.out.set hbg_ 10 (.bool true))
        have n2_ := Aside0.mk (Kd.R_set HO.out j1 (by decide) 10 (.bool true))
        clear HA HK HO j1 j2 j3 hc10 hz10 hc9 hc5
        generalize (W7.setCell ⟨g, 10, none⟩ (.bool true)) = W8 at n0_ n1_ n2_ ⊢
        have HA := n0_
        have HK := n1_
        have HO := n2_
        clear n0_ n1_ n2_
        go_wp2_with (first | (go_at_call 31; (with_reducible refine (note_ok base g _ 2 nw 0 0 0 (⟨#[]⟩ : ByteArray) _ HA.out).mono ?_); rintro e w6 ⟨rfl, hb6⟩; have n0_ := Aside0.mk (HA.out.call hb6); have n1_ := Aside0.mk (HK.out.call hb hb6); have n2_ := Aside0.mk (Kd.R_below HO.out hb6); clear HA HK HO hb6; have HA := n0_; have HK := n1_; have HO := n2_; clear n0_ n1_ n2_) | ((with_reducible refine gate_builtin (b := .append) (xs := #[.tmp 70, .tmp 75]) rfl ?_); at_builtin; refine Kd.R_append k35 (w0 := w) (min base g) rfl (.tmp 70) (.tmp 75) 39 35 (.agg #[.int .i64 0, .int .i64 0, .int .i64 0, .int .i64 0, .int .i64 0, .string ⟨#[]⟩, .int .i64 0]) 64 rfl Try.underlying39 infoN rfl (by decide) (by omega) (.slice none 0 0) ([] : List S35) (⟨2, wrap64 s.id, (⟨0, 0, 0, ⟨#[]⟩⟩ : S33), nw⟩ : S35) [.int .i64 2, .int .i64 (wrap64 s.id), .int .i64 0, .int .i64 0, .int .i64 0, .string ⟨#[]⟩, .int .i64 nw] (fun k_ => w.heap.size ≤ k_) (fun _ => False) rfl (by first | (go_simp; done) | (go_simp; rfl)) ?aP (fun _ hk => hk.elim) ?aF ?aO ?aB ?aS ?aL ?_; (case aP => exact k35_mkM _ _ _ (⟨2, wrap64 s.id, (⟨0, 0, 0, ⟨#[]⟩⟩ : S33), nw⟩ : S35)); (case aF => exact fun k_ hk => Nat.le_trans HK.out.keep.1 hk); (case aO => exact HO.out); (case aB => exact HK.out.below); (case aS => exact Nat.le_trans (Nat.le_trans (Nat.min_le_left base g) hb) HK.out.keep.1); (case aL => exact (by simp only [List.length_nil, List.length_cons]; omega)); intro v8 w8 ho hbo hg hat; have n0_ := Aside0.mk (HA.out.grownV HO.out hg); have n1_ := Aside0.mk (HK.out.grown hg (row_new HO.out) hbo); have HO2 := Aside0.mk ho; clear HA HK ho hbo hg hat; have HA := n0_; have HK := n1_; clear n0_ n1_))
        go_ret
        exact ⟨_, rfl, TkP.yes ES.out HO2.out HA.out HK.out⟩
      · have h3b : decide (wrap64 (nw - s.heard) ≥ s.sil) = false := decide_eq_false h3
        have ES := Aside0.mk (show silB s nw = false by unfold silB; rw [h3b]; exact Bool.and_false _)
        clear j1 j2 j3 h1 h3
        go_wp2
        go_ret
        exact ⟨_, rfl, TkP.no ES.out HO.out HA.out HK.out⟩
  · have h1b : decide (s.sil > 0) = false := decide_eq_false h1
    have ES := Aside0.mk (show silB s nw = false by unfold silB; rw [h1b]; rfl)
    clear j1 j2 j3 h1
    go_wp2
    go_ret
    exact ⟨_, rfl, TkP.no ES.out HO.out HA.out HK.out⟩
set_option maxRecDepth 1000000 in
set_option maxHeartbeats 16000000 in
theorem tick_n2 (base g : Nat) (s : WS) (now nw : Int) (w : World) (hb : base ≤ w.heap.size) (hgw : g < w.heap.size) (hW : WAt w base g s) (hw : watch_within.f now = some nw) (f : Int × Int × Int × ByteArray) (hh : s.held = some f) (hd : wrap64 (nw - s.at_) ≥ s.thr) :
    Calls Try.prog 12 #[.pointer (some ⟨g, 0, none⟩), .int .i64 now] w fun e w' => ∃ v0 : Value, e = .returned v0 ∧ TkP base g s nw (some f) w w' v0 := by
  have hu := Try.underlying33
  have hu2 := Try.underlying72
  have hu3 := Try.underlying31
  have hu4 := Try.underlying29
  have hu5 := Try.underlying35
  have hu6 := Try.underlying39
  have HA := Aside0.mk hW
  have HK := Aside0.mk (Wk.refl base g w)
  clear hW
  go_enter Try.func12, Try.ntmps12
  go_upto_region 5 with (first | (go_at_call 28; (with_reducible refine (watch_within.calls now nw _ hw).mono ?_); rintro e w3 ⟨rfl, hb2⟩; have n0_ := Aside0.mk (HA.out.call hb2); have n3_ := Aside0.mk (HK.out.call hb hb2); clear HA HK hb2; have HA := n0_; have HK := n3_; clear n0_ n3_))
  refine cut_world (fun W => WAt W base g s ∧ Wk base g w W) ⟨HA.out, HK.out⟩ ?_
  clear HA HK
  intro W hR
  obtain ⟨⟨hbg, pt, ph, k1, k2, k3⟩, k6⟩ := hR
  have hc7 : W.cell? ⟨g, 7, none⟩ = some (.int .i64 s.at_) := (blk_cell k1 7).trans rfl
  have hc4 : W.cell? ⟨g, 4, none⟩ = some (.int .i64 s.thr) := (blk_cell k1 4).trans rfl
  have hc5 : W.cell? ⟨g, 5, none⟩ = some (.int .i64 s.sil) := (blk_cell k1 5).trans rfl
  have k3' : FrAt W base ph (some f) := hh ▸ k3
  obtain ⟨b, rfl, q2, q3⟩ := k3'
  have hc8 : W.cell? ⟨g, 8, none⟩ = some (.pointer (some ⟨b, 0, none⟩)) := (blk_cell k1 8).trans rfl
  have hq0 : W.cell? ⟨b, 0, none⟩ = some (.int .i64 f.1) := (blk_cell q3 0).trans rfl
  have hq1 : W.cell? ⟨b, 1, none⟩ = some (.int .i64 f.2.1) := (blk_cell q3 1).trans rfl
  have hq2 : W.cell? ⟨b, 2, none⟩ = some (.int .i64 f.2.2.1) := (blk_cell q3 2).trans rfl
  have hq3 : W.cell? ⟨b, 3, none⟩ = some (.string f.2.2.2) := (blk_cell q3 3).trans rfl
  have hdb : decide (wrap64 (nw - s.at_) ≥ s.thr) = true := decide_eq_true hd
  have HA := Aside0.mk (show WAt W base g s from ⟨hbg, pt, _, k1, k2, k3⟩)
  have HK := Aside0.mk k6
  clear k1 k2 k3 k6 q3 hc5
  go_quiet (fail)
  have HA6 := Aside0.mk (show WAt (W.drewN nq) base g s from HA.out)
  have hsz6 : base ≤ (W.drewN nq).heap.size := Nat.le_trans hb HK.out.keep.1
  clear HA
  go_upto_region 7 with (first | (go_at_call 30; (with_reducible refine (tell_ok base g _ nw f.1 f.2.1 f.2.2.1 f.2.2.2 _ hsz6 HA6.out).mono ?_); rintro e w6 ⟨rfl, hA, hK⟩; have HA := Aside0.mk hA; have n2_ := Aside0.mk ((Wk.drewN HK.out _).trans hK); clear HK hA hK; have HK := n2_; clear n2_) | ((with_reducible refine gate_builtin (b := .append) (xs := #[.tmp 31, .tmp 41]) rfl ?_); at_builtin; refine Kd.R_append k35 (w0 := w) (min base g) rfl (.tmp 31) (.tmp 41) 39 35 (.agg #[.int .i64 0, .int .i64 0, .int .i64 0, .int .i64 0, .int .i64 0, .string ⟨#[]⟩, .int .i64 0]) 64 rfl Try.underlying39 infoN rfl (by decide) (by omega) (.slice none 0 0) ([] : List S35) (⟨1, wrap64 s.id, (⟨f.1, f.2.1, f.2.2.1, f.2.2.2⟩ : S33), nw⟩ : S35) [.int .i64 1, .int .i64 (wrap64 s.id), .int .i64 f.1, .int .i64 f.2.1, .int .i64 f.2.2.1, .string f.2.2.2, .int .i64 nw] (fun k_ => w.heap.size ≤ k_) (fun _ => False) rfl (by first | (go_simp; done) | (go_simp; rfl)) ?aP (fun _ hk => hk.elim) ?aF ?aO ?aB ?aS ?aL ?_; (case aP => exact k35_mkM _ _ _ (⟨1, wrap64 s.id, (⟨f.1, f.2.1, f.2.2.1, f.2.2.2⟩ : S33), nw⟩ : S35)); (case aF => exact fun k_ hk => Nat.le_trans HK.out.keep.1 hk); (case aO => exact Kd.R_nil _ _ _ _ _); (case aB => exact HK.out.below); (case aS => exact Nat.le_trans (Nat.le_trans (Nat.min_le_left base g) hb) HK.out.keep.1); (case aL => decide); intro v7 w7 ho hbo hg hat; have n0_ := Aside0.mk (HA.out.grown hg); have n1_ := Aside0.mk (HK.out.grown hg (Or.inl rfl) hbo); have HO := Aside0.mk ho; clear HA HK ho hbo hg hat; have HA := n0_; have HK := n1_; clear n0_ n1_))
  obtain ⟨hbg_, pt_, ph_, j1, j2, j3⟩ := HA.out
  have hc5 : w7.cell? ⟨g, 5, none⟩ = some (.int .i64 s.sil) := (blk_cell j1 5).trans rfl
  have hc9 : w7.cell? ⟨g, 9, none⟩ = some (.int .i64 s.heard) := (blk_cell j1 9).trans rfl
  have hc10 : w7.cell? ⟨g, 10, none⟩ = some (.bool s.quiet) := (blk_cell j1 10).trans rfl
  have hz10 : w7.frozen? ⟨g, 10, none⟩ = false := blk_frozen j1 10
  by_cases h1 : s.sil > 0
  · have h1b : decide (s.sil > 0) = true := decide_eq_true h1
    cases hq : s.quiet with
    | true =>
      have ES := Aside0.mk (show silB s nw = false by unfold silB; rw [h1b, hq]; rfl)
      rw [hq] at hc10
      clear j1 j2 j3 h1
      go_wp2
      go_ret
      exact ⟨_, rfl, TkP.no ES.out HO.out HA.out HK.out⟩
    | false =>
      rw [hq] at hc10
      by_cases h3 : wrap64 (nw - s.heard) ≥ s.sil
      · have h3b : decide (wrap64 (nw - s.heard) ≥ s.sil) = true := decide_eq_true h3
        have ES := Aside0.mk (show silB s nw = true by unfold silB; rw [h1b, hq, h3b]; rfl)
        go_upto_region 10 with (fail)
        have n0_ := Aside0.mk (show WAt (w7.setCell ⟨g, 10, none⟩ (.bool true)) base g { { s with told := some f, at_ := nw, held := none } with quiet := true } from ⟨hbg_, pt_, ph_, blk_put j1 10 _ rfl, j2.keep j1 (KeepBut.refl _ _ _ |>.set_ 10 _), j3.keep j1 (KeepBut.refl _ _ _ |>.set_ 10 _)⟩)
        have n1_ := Aside0.mk (HK.out.set hbg_ 10 (.bool true))
        have n2_ := Aside0.mk (Kd.R_set HO.out j1 (by decide) 10 (.bool true))
        clear HA HK HO j1 j2 j3 hc10 hz10 hc9 hc5
        generalize (w7.setCell ⟨g, 10, none⟩ (.bool true)) = W8 at n0_ n1_ n2_ ⊢
        have HA := n0_
        have HK := n1_
        have HO := n2_
        clear n0_ n1_ n2_
        go_wp2_with (first | (go_at_call 31; (with_reducible refine (note_ok base g _ 2 nw 0 0 0 (⟨#[]⟩ : ByteArray) _ HA.out).mono ?_); rintro e w6 ⟨rfl, hb6⟩; have n0_ := Aside0.mk (HA.out.call hb6); have n1_ := Aside0.mk (HK.out.call hb hb6); have n2_ := Aside0.mk (Kd.R_below HO.out hb6); clear HA HK HO hb6; have HA := n0_; have HK := n1_; have HO := n2_; clear n0_ n1_ n2_) | ((with_reducible refine gate_builtin (b := .append) (xs := #[.tmp 70, .tmp 75]) rfl ?_); at_builtin; refine Kd.R_append k35 (w0 := w) (min base g) rfl (.tmp 70) (.tmp 75) 39 35 (.agg #[.int .i64 0, .int .i64 0, .int .i64 0, .int .i64 0, .int .i64 0, .string ⟨#[]⟩, .int .i64 0]) 64 rfl Try.underlying39 infoN rfl (by decide) (by omega) (v7) ([(⟨1, wrap64 s.id, (⟨f.1, f.2.1, f.2.2.1, f.2.2.2⟩ : S33), nw⟩ : S35)] : List S35) (⟨2, wrap64 s.id, (⟨0, 0, 0, ⟨#[]⟩⟩ : S33), nw⟩ : S35) [.int .i64 2, .int .i64 (wrap64 s.id), .int .i64 0, .int .i64 0, .int .i64 0, .string ⟨#[]⟩, .int .i64 nw] (fun k_ => w.heap.size ≤ k_) (fun _ => False) rfl (by first | (go_simp; done) | (go_simp; rfl)) ?aP (fun _ hk => hk.elim) ?aF ?aO ?aB ?aS ?aL ?_; (case aP => exact k35_mkM _ _ _ (⟨2, wrap64 s.id, (⟨0, 0, 0, ⟨#[]⟩⟩ : S33), nw⟩ : S35)); (case aF => exact fun k_ hk => Nat.le_trans HK.out.keep.1 hk); (case aO => exact HO.out); (case aB => exact HK.out.below); (case aS => exact Nat.le_trans (Nat.le_trans (Nat.min_le_left base g) hb) HK.out.keep.1); (case aL => exact (by simp only [List.length_nil, List.length_cons]; omega)); intro v8 w8 ho hbo hg hat; have n0_ := Aside0.mk (HA.out.grownV HO.out hg); have n1_ := Aside0.mk (HK.out.grown hg (row_new HO.out) hbo); have HO2 := Aside0.mk ho; clear HA HK ho hbo hg hat; have HA := n0_; have HK := n1_; clear n0_ n1_))
        go_ret
        exact ⟨_, rfl, TkP.yes ES.out HO2.out HA.out HK.out⟩
      · have h3b : decide (wrap64 (nw - s.heard) ≥ s.sil) = false := decide_eq_false h3
        have ES := Aside0.mk (show silB s nw = false by unfold silB; rw [h3b]; exact Bool.and_false _)
        clear j1 j2 j3 h1 h3
        go_wp2
        go_ret
        exact ⟨_, rfl, TkP.no ES.out HO.out HA.out HK.out⟩
  · have h1b : decide (s.sil > 0) = false := decide_eq_false h1
    have ES := Aside0.mk (show silB s nw = false by unfold silB; rw [h1b]; rfl)
    clear j1 j2 j3 h1
    go_wp2
    go_ret
    exact ⟨_, rfl, TkP.no ES.out HO.out HA.out HK.out⟩
def due (s : WS) (nw : Int) : Option (Int × Int × Int × ByteArray) := match s.held with
  | none => none
  | some f => if wrap64 (nw - s.at_) ≥ s.thr then some f else none
theorem tick_ok (base g : Nat) (s : WS) (now nw : Int) (w : World) (hb : base ≤ w.heap.size) (hgw : g < w.heap.size) (hW : WAt w base g s) (hw : watch_within.f now = some nw) :
    Calls Try.prog 12 #[.pointer (some ⟨g, 0, none⟩), .int .i64 now] w fun e w' => ∃ v0 : Value, e = .returned v0 ∧ TkP base g s nw (due s nw) w w' v0 := by
  cases hh : s.held with
  | none =>
    have e : due s nw = none := by unfold due; rw [hh]
    rw [e]
    exact tick_n0 base g s now nw w hb hgw hW hw hh
  | some f =>
    by_cases hd : wrap64 (nw - s.at_) ≥ s.thr
    · have e : due s nw = some f := by unfold due; rw [hh]; exact if_pos hd
      rw [e]
      exact tick_n2 base g s now nw w hb hgw hW hw f hh hd
    · have e : due s nw = none := by unfold due; rw [hh]; exact if_neg hd
      rw [e]
      exact tick_n1 base g s now nw w hb hgw hW hw f hh hd
def hearS (s : WS) (nw : Int) (f : Int × Int × Int × ByteArray) (m d : Bool) : Bool × WS :=
  if m = false then (false, s) else if d = false then (false, { s with heard := nw, quiet := false, held := none })
  else match s.told with
    | none => (true, { s with heard := nw, quiet := false, told := some f, at_ := nw, held := none })
    | some _ => if wrap64 (nw - s.at_) < s.thr then (false, { s with heard := nw, quiet := false, held := some f }) else (true, { s with heard := nw, quiet := false, told := some f, at_ := nw, held := none })
theorem hear_ok (k base g : Nat) (s : WS) (now nw i fl l : Int) (d : ByteArray) (m df : Bool) (w : World) (hb : base ≤ w.heap.size) (hgw : g < w.heap.size) (hW : WAt w base g s) (hm : match_Match.f k s.id s.km s.inv i fl l d = some m) (hw : watch_within.f now = some nw) (hd : difS { s with heard := nw, quiet := false } l d = some df) :
    Calls Try.prog 10 #[.pointer (some ⟨g, 0, none⟩), .int .i64 now, .agg #[.int .i64 i, .int .i64 fl, .int .i64 l, .string d]] w fun e w' => e = .returned (if (hearS s nw (i, fl, l, d) m df).1 = true then .tuple #[.agg #[.int .i64 1, .int .i64 (wrap64 s.id), .int .i64 i, .int .i64 fl, .int .i64 l, .string d, .int .i64 nw], .bool true] else .tuple #[.agg #[.int .i64 0, .int .i64 0, .int .i64 0, .int .i64 0, .int .i64 0, .string (⟨#[]⟩ : ByteArray), .int .i64 0], .bool false]) ∧ WAt w' base g (hearS s nw (i, fl, l, d) m df).2 ∧ Wk base g w w' := by
  cases m with
  | false =>
    refine (hear_no k base g s now i fl l d w hb hgw hW hm).mono ?_
    rintro e w1 ⟨rfl, hA, hK⟩
    exact ⟨rfl, hA, hK⟩
  | true =>
    cases df with
    | false =>
      refine (hear_same k base g s now nw i fl l d w hb hgw hW hm hw hd).mono ?_
      rintro e w1 ⟨rfl, hA, hK⟩
      exact ⟨rfl, hA, hK⟩
    | true =>
      cases ht : s.told with
      | none =>
        have e : hearS s nw (i, fl, l, d) true true = (true, { s with heard := nw, quiet := false, told := some (i, fl, l, d), at_ := nw, held := none }) := by
          unfold hearS
          rw [ht]
          rfl
        rw [e]
        refine (hear_tell k base g s now nw i fl l d w hb hgw hW hm hw hd (fun f0 h => by rw [ht] at h; cases h)).mono ?_
        rintro e w1 ⟨rfl, hA, hK⟩
        exact ⟨rfl, hA, hK⟩
      | some f0 =>
        by_cases hl : wrap64 (nw - s.at_) < s.thr
        · have e : hearS s nw (i, fl, l, d) true true = (false, { s with heard := nw, quiet := false, held := some (i, fl, l, d) }) := by
            unfold hearS
            rw [ht]
            exact if_pos hl
          rw [e]
          refine (hear_hold k base g s now nw i fl l d w hb hgw hW hm hw hd f0 ht hl).mono ?_
          rintro e w1 ⟨rfl, hA, hK⟩
          exact ⟨rfl, hA, hK⟩
        · have e : hearS s nw (i, fl, l, d) true true = (true, { s with heard := nw, quiet := false, told := some (i, fl, l, d), at_ := nw, held := none }) := by
            unfold hearS
            rw [ht]
            exact if_neg hl
          rw [e]
          refine (hear_tell k base g s now nw i fl l d w hb hgw hW hm hw hd (fun f1 _ => hl)).mono ?_
          rintro e w1 ⟨rfl, hA, hK⟩
          exact ⟨rfl, hA, hK⟩
set_option maxRecDepth 1000000 in
set_option maxHeartbeats 16000000 in
theorem tick_nil (now : Int) (w : World) : Calls Try.prog 12 #[.pointer none, .int .i64 now] w fun e w' => e = .returned (.slice none 0 0) ∧ Below w.heap.size w w' := by
  have hu := Try.underlying33
  have hu2 := Try.underlying72
  have hu3 := Try.underlying31
  have hu4 := Try.underlying29
  have hu5 := Try.underlying35
  have hu6 := Try.underlying39
  go_enter Try.func12, Try.ntmps12
  go_wp2
  go_ret
  exact ⟨rfl, Below.refl _ _⟩
set_option maxRecDepth 1000000 in
set_option maxHeartbeats 16000000 in
theorem hear_nil (now i fl l : Int) (d : ByteArray) (w : World) : Calls Try.prog 10 #[.pointer none, .int .i64 now, .agg #[.int .i64 i, .int .i64 fl, .int .i64 l, .string d]] w fun e w' => e = .returned (.tuple #[.agg #[.int .i64 0, .int .i64 0, .int .i64 0, .int .i64 0, .int .i64 0, .string (⟨#[]⟩ : ByteArray), .int .i64 0], .bool false]) ∧ Below w.heap.size w w' := by
  have hu := Try.underlying33
  have hu2 := Try.underlying72
  have hu3 := Try.underlying31
  have hu4 := Try.underlying29
  have hu5 := Try.underlying35
  have hu6 := Try.underlying39
  have HN := Aside0.mk (blk2n_ w (Obj.cells #[.int .i64 i, .int .i64 fl, .int .i64 l, .string d] 33 (0, 0)) (Obj.cells #[.int .i64 0, .int .i64 0, .int .i64 0, .int .i64 0, .int .i64 0, .string (⟨#[]⟩ : ByteArray), .int .i64 0] 35 (0, 0)))
  have HF := Aside0.mk (blk_alloc (blk_new w (Obj.cells #[.int .i64 i, .int .i64 fl, .int .i64 l, .string d] 33 (0, 0))) (Obj.cells #[.int .i64 0, .int .i64 0, .int .i64 0, .int .i64 0, .int .i64 0, .string (⟨#[]⟩ : ByteArray), .int .i64 0] 35 (0, 0)))
  have HB := Aside0.mk (below_alloc (below_alloc (Below.refl w.heap.size w) (Obj.cells #[.int .i64 i, .int .i64 fl, .int .i64 l, .string d] 33 (0, 0))) (Obj.cells #[.int .i64 0, .int .i64 0, .int .i64 0, .int .i64 0, .int .i64 0, .string (⟨#[]⟩ : ByteArray), .int .i64 0] 35 (0, 0)))
  go_enter Try.func10, Try.ntmps10
  go_upto_region 1 with (fail)
  generalize ((w.alloc (Obj.cells #[.int .i64 i, .int .i64 fl, .int .i64 l, .string d] 33 (0, 0))).alloc (Obj.cells #[.int .i64 0, .int .i64 0, .int .i64 0, .int .i64 0, .int .i64 0, .string (⟨#[]⟩ : ByteArray), .int .i64 0] 35 (0, 0))) = W at HN HF HB ⊢
  have hf0 : W.cell? ⟨w.heap.size, 0, none⟩ = some (.int .i64 i) := (blk_cell HF.out 0).trans rfl; have hf1 : W.cell? ⟨w.heap.size, 1, none⟩ = some (.int .i64 fl) := (blk_cell HF.out 1).trans rfl; have hf2 : W.cell? ⟨w.heap.size, 2, none⟩ = some (.int .i64 l) := (blk_cell HF.out 2).trans rfl; have hf3 : W.cell? ⟨w.heap.size, 3, none⟩ = some (.string d) := (blk_cell HF.out 3).trans rfl
  go_wp2_with (first | (go_at_call 15; (with_reducible refine (hears_nil i fl l d _).mono ?_); rintro e w2 ⟨rfl, hb⟩; have n0_ := Aside0.mk (blk_below HN.out hb); have n1_ := Aside0.mk (below_step HB.out hb); clear HN HF HB hb; have HN := n0_; have HB := n1_; clear n0_ n1_; have hn0 : w2.cell? ⟨w.heap.size + 1, 0, none⟩ = some (.int .i64 0) := (blk_cell HN.out 0).trans rfl; have hz0 : w2.frozen? ⟨w.heap.size + 1, 0, none⟩ = false := blk_frozen HN.out 0; have hn1 : w2.cell? ⟨w.heap.size + 1, 1, none⟩ = some (.int .i64 0) := (blk_cell HN.out 1).trans rfl; have hz1 : w2.frozen? ⟨w.heap.size + 1, 1, none⟩ = false := blk_frozen HN.out 1; have hn2 : w2.cell? ⟨w.heap.size + 1, 2, none⟩ = some (.int .i64 0) := (blk_cell HN.out 2).trans rfl; have hz2 : w2.frozen? ⟨w.heap.size + 1, 2, none⟩ = false := blk_frozen HN.out 2; have hn3 : w2.cell? ⟨w.heap.size + 1, 3, none⟩ = some (.int .i64 0) := (blk_cell HN.out 3).trans rfl; have hz3 : w2.frozen? ⟨w.heap.size + 1, 3, none⟩ = false := blk_frozen HN.out 3; have hn4 : w2.cell? ⟨w.heap.size + 1, 4, none⟩ = some (.int .i64 0) := (blk_cell HN.out 4).trans rfl; have hz4 : w2.frozen? ⟨w.heap.size + 1, 4, none⟩ = false := blk_frozen HN.out 4; have hn5 : w2.cell? ⟨w.heap.size + 1, 5, none⟩ = some (.string (⟨#[]⟩ : ByteArray)) := (blk_cell HN.out 5).trans rfl; have hz5 : w2.frozen? ⟨w.heap.size + 1, 5, none⟩ = false := blk_frozen HN.out 5; have hn6 : w2.cell? ⟨w.heap.size + 1, 6, none⟩ = some (.int .i64 0) := (blk_cell HN.out 6).trans rfl; have hz6 : w2.frozen? ⟨w.heap.size + 1, 6, none⟩ = false := blk_frozen HN.out 6))
  refine bodyPost_ret (results_ct rfl _ _ (w.heap.size + 1) 35 #[.int .i64 0, .int .i64 0, .int .i64 0, .int .i64 0, .int .i64 0, .string (⟨#[]⟩ : ByteArray), .int .i64 0] (0, 0) _ rfl (blk_put (blk_put (blk_put (blk_put (blk_put (blk_put (blk_put HN.out 0 _ rfl) 1 _ rfl) 2 _ rfl) 3 _ rfl) 4 _ rfl) 5 _ rfl) 6 _ rfl) hu5 rfl (by kernel_rfl)) rfl ?_
  exact ⟨rfl, below_set (below_set (below_set (below_set (below_set (below_set (below_set HB.out (Nat.le_succ _)) (Nat.le_succ _)) (Nat.le_succ _)) (Nat.le_succ _)) (Nat.le_succ _)) (Nat.le_succ _)) (Nat.le_succ _)⟩

/-! ### signalboxlaw23_alive: function 8 -/
theorem WAt.lt {W : World} {base g : Nat} {s : WS} (h : WAt W base g s) : g < W.heap.size := by
  obtain ⟨h0, pt, ph, h1, h2, h3⟩ := h
  exact blk_lt h1
theorem WAt.ne_note {W : World} {base g n : Nat} {s : WS} {cs : Array Value} (h : WAt W base g s) (hn : W.heap[n]? = some (.cells cs 35 (0, 0))) : n ≠ g := by
  obtain ⟨h0, pt, ph, h1, h2, h3⟩ := h
  intro e
  rw [e, h1] at hn
  injection hn with hn
  injection hn with _ hn
  exact absurd hn (by decide)
theorem hbeat65 : signalboxlaw23_beat.f (⟨#[65]⟩ : ByteArray) = some (1, 0, 1, (⟨#[65]⟩ : ByteArray)) := by decide +kernel
theorem hmat65 : match_Match.f 60 0 0 false 1 0 1 (⟨#[65]⟩ : ByteArray) = some true := by decide +kernel
theorem hbeat66 : signalboxlaw23_beat.f (⟨#[66]⟩ : ByteArray) = some (1, 0, 1, (⟨#[66]⟩ : ByteArray)) := by decide +kernel
theorem hmat66 : match_Match.f 60 0 0 false 1 0 1 (⟨#[66]⟩ : ByteArray) = some true := by decide +kernel
theorem hbeat67 : signalboxlaw23_beat.f (⟨#[67]⟩ : ByteArray) = some (1, 0, 1, (⟨#[67]⟩ : ByteArray)) := by decide +kernel
theorem hmat67 : match_Match.f 60 0 0 false 1 0 1 (⟨#[67]⟩ : ByteArray) = some true := by decide +kernel
theorem hwit0 : watch_within.f 0 = some 0 := by decide +kernel
theorem hwit2 : watch_within.f 2 = some 2 := by decide +kernel
theorem hwit3 : watch_within.f 3 = some 3 := by decide +kernel
theorem hwit5 : watch_within.f 5 = some 5 := by decide +kernel
theorem hrgt0 : watch_Right.f 60 0 0 false (⟨#[255]⟩ : ByteArray) 5 0 = some 0 := by decide +kernel
theorem hdif66 : octet_Differ.f (⟨#[65]⟩ : ByteArray) (⟨#[66]⟩ : ByteArray) (⟨#[255]⟩ : ByteArray) = some true := by decide +kernel
theorem hdif67 : octet_Differ.f (⟨#[65]⟩ : ByteArray) (⟨#[67]⟩ : ByteArray) (⟨#[255]⟩ : ByteArray) = some true := by decide +kernel
theorem hdf66 : difS { (⟨0, 0, false, (⟨#[255]⟩ : ByteArray), 5, 0, some (1, 0, 1, (⟨#[65]⟩ : ByteArray)), 0, none, 0, false⟩ : WS) with heard := 2, quiet := false } 1 (⟨#[66]⟩ : ByteArray) = some true := hdif66
theorem hdf67 : difS { (⟨0, 0, false, (⟨#[255]⟩ : ByteArray), 5, 0, some (1, 0, 1, (⟨#[65]⟩ : ByteArray)), 0, some (1, 0, 1, (⟨#[66]⟩ : ByteArray)), 2, false⟩ : WS) with heard := 3, quiet := false } 1 (⟨#[67]⟩ : ByteArray) = some true := hdif67
set_option maxRecDepth 1000000 in
set_option maxHeartbeats 16000000 in
theorem alive_ok (w : World) : Calls Try.prog 8 #[] w fun e w' => e = .returned (.bool true) ∧ Below w.heap.size w w' := by
  have hu := Try.underlying33
  have hu2 := Try.underlying72
  have hu3 := Try.underlying31
  have hu4 := Try.underlying29
  have hu5 := Try.underlying35
  have hu6 := Try.underlying39
  go_enter Try.func8, Try.ntmps8
  go_upto_region 2 with (first | (go_at_call 9; (with_reducible refine (new_ok 60 0 0 false (⟨#[255]⟩ : ByteArray) 5 0 0 0 _ hrgt0 hwit0).mono ?_); rintro e w1 ⟨g, rfl, hA, hle, hb2⟩; have HLE := Aside0.mk hle; clear hle; have HA := Aside0.mk hA; have HB := Aside0.mk hb2; clear hA hb2))
  go_upto_region 3 with (first | (go_at_call 11; (with_reducible refine (signalboxlaw23_beat.calls (⟨#[65]⟩ : ByteArray) 1 0 1 (⟨#[65]⟩ : ByteArray) _ hbeat65).mono ?_); rintro e w2 ⟨rfl, hb2⟩; have n0_ := Aside0.mk (HA.out.call hb2); have n3_ := Aside0.mk (below_step HB.out hb2); clear HA HB; have HA := n0_; have HB := n3_; clear n0_ n3_; clear hb2) | (go_at_call 10; (refine (hear_tell 60 w.heap.size g (⟨0, 0, false, (⟨#[255]⟩ : ByteArray), 5, 0, none, 0, none, 0, false⟩ : WS) 0 0 1 0 1 (⟨#[65]⟩ : ByteArray) _ (below_size HB.out) HA.out.lt HA.out hmat65 hwit0 rfl (fun _ h => by cases h)).mono ?_); rintro e w3 ⟨rfl, hA, hK⟩; have n0_ := Aside0.mk hA; have n3_ := Aside0.mk (HB.out.trans (hK.low HLE.out)); clear HA HB; have HA := n0_; have HB := n3_; clear n0_ n3_; clear hA hK))
  have HN := Aside0.mk (blk_new w3 (Obj.cells #[.int .i64 1, .int .i64 (wrap64 0), .int .i64 1, .int .i64 0, .int .i64 1, .string (⟨#[65]⟩ : ByteArray), .int .i64 0] 35 (0, 0)))
  have n0_ := Aside0.mk (HA.out.call (below_alloc (Below.refl _ _) (Obj.cells #[.int .i64 1, .int .i64 (wrap64 0), .int .i64 1, .int .i64 0, .int .i64 1, .string (⟨#[65]⟩ : ByteArray), .int .i64 0] 35 (0, 0))))
  have n1_ := Aside0.mk (below_alloc HB.out (Obj.cells #[.int .i64 1, .int .i64 (wrap64 0), .int .i64 1, .int .i64 0, .int .i64 1, .string (⟨#[65]⟩ : ByteArray), .int .i64 0] 35 (0, 0)))
  clear HA HB
  generalize (w3.alloc (Obj.cells #[.int .i64 1, .int .i64 (wrap64 0), .int .i64 1, .int .i64 0, .int .i64 1, .string (⟨#[65]⟩ : ByteArray), .int .i64 0] 35 (0, 0))) = V3 at n0_ n1_ HN ⊢
  generalize w3.heap.size = na at HN ⊢
  have HA := n0_
  have HB := n1_
  have HX := Aside0.mk (HA.out.ne_note HN.out)
  clear n0_ n1_
  go_upto_region 4 with (first | (go_at_call 11; (with_reducible refine (signalboxlaw23_beat.calls (⟨#[66]⟩ : ByteArray) 1 0 1 (⟨#[66]⟩ : ByteArray) _ hbeat66).mono ?_); rintro e w4 ⟨rfl, hb2⟩; have n0_ := Aside0.mk (HA.out.call hb2); have n3_ := Aside0.mk (below_step HB.out hb2); clear HA HB; have HA := n0_; have HB := n3_; clear n0_ n3_; have n5_ := Aside0.mk (blk_below HN.out hb2); clear HN; have HN := n5_; clear n5_; clear hb2) | (go_at_call 10; (refine (hear_hold 60 w.heap.size g _ 2 2 1 0 1 (⟨#[66]⟩ : ByteArray) _ (below_size HB.out) HA.out.lt HA.out hmat66 hwit2 hdf66 _ rfl (by unfold wrap64; decide)).mono ?_); rintro e w5 ⟨rfl, hA, hK⟩; have n0_ := Aside0.mk hA; have n3_ := Aside0.mk (HB.out.trans (hK.low HLE.out)); clear HA HB; have HA := n0_; have HB := n3_; clear n0_ n3_; have n5_ := Aside0.mk (hK.keep.blk HN.out (HX.out) (fun e => by cases e)); clear HN; have HN := n5_; clear n5_; clear hA hK))
  have n0_ := Aside0.mk (HA.out.call (below_alloc (Below.refl _ _) (Obj.cells #[.int .i64 0, .int .i64 0, .int .i64 0, .int .i64 0, .int .i64 0, .string (⟨#[]⟩ : ByteArray), .int .i64 0] 35 (0, 0))))
  have n1_ := Aside0.mk (below_alloc HB.out (Obj.cells #[.int .i64 0, .int .i64 0, .int .i64 0, .int .i64 0, .int .i64 0, .string (⟨#[]⟩ : ByteArray), .int .i64 0] 35 (0, 0)))
  have n2_ := Aside0.mk (blk_alloc HN.out (Obj.cells #[.int .i64 0, .int .i64 0, .int .i64 0, .int .i64 0, .int .i64 0, .string (⟨#[]⟩ : ByteArray), .int .i64 0] 35 (0, 0)))
  clear HA HB HN
  generalize (w5.alloc (Obj.cells #[.int .i64 0, .int .i64 0, .int .i64 0, .int .i64 0, .int .i64 0, .string (⟨#[]⟩ : ByteArray), .int .i64 0] 35 (0, 0))) = V5 at n0_ n1_ n2_ ⊢
  have HA := n0_
  have HB := n1_
  have HN := n2_
  clear n0_ n1_ n2_
  go_upto_region 5 with (first | (go_at_call 11; (with_reducible refine (signalboxlaw23_beat.calls (⟨#[67]⟩ : ByteArray) 1 0 1 (⟨#[67]⟩ : ByteArray) _ hbeat67).mono ?_); rintro e w6 ⟨rfl, hb2⟩; have n0_ := Aside0.mk (HA.out.call hb2); have n3_ := Aside0.mk (below_step HB.out hb2); clear HA HB; have HA := n0_; have HB := n3_; clear n0_ n3_; have n5_ := Aside0.mk (blk_below HN.out hb2); clear HN; have HN := n5_; clear n5_; clear hb2) | (go_at_call 10; (refine (hear_hold 60 w.heap.size g _ 3 3 1 0 1 (⟨#[67]⟩ : ByteArray) _ (below_size HB.out) HA.out.lt HA.out hmat67 hwit3 hdf67 _ rfl (by unfold wrap64; decide)).mono ?_); rintro e w7 ⟨rfl, hA, hK⟩; have n0_ := Aside0.mk hA; have n3_ := Aside0.mk (HB.out.trans (hK.low HLE.out)); clear HA HB; have HA := n0_; have HB := n3_; clear n0_ n3_; have n5_ := Aside0.mk (hK.keep.blk HN.out (HX.out) (fun e => by cases e)); clear HN; have HN := n5_; clear n5_; clear hA hK))
  have n0_ := Aside0.mk (HA.out.call (below_alloc (Below.refl _ _) (Obj.cells #[.int .i64 0, .int .i64 0, .int .i64 0, .int .i64 0, .int .i64 0, .string (⟨#[]⟩ : ByteArray), .int .i64 0] 35 (0, 0))))
  have n1_ := Aside0.mk (below_alloc HB.out (Obj.cells #[.int .i64 0, .int .i64 0, .int .i64 0, .int .i64 0, .int .i64 0, .string (⟨#[]⟩ : ByteArray), .int .i64 0] 35 (0, 0)))
  have n2_ := Aside0.mk (blk_alloc HN.out (Obj.cells #[.int .i64 0, .int .i64 0, .int .i64 0, .int .i64 0, .int .i64 0, .string (⟨#[]⟩ : ByteArray), .int .i64 0] 35 (0, 0)))
  clear HA HB HN
  generalize (w7.alloc (Obj.cells #[.int .i64 0, .int .i64 0, .int .i64 0, .int .i64 0, .int .i64 0, .string (⟨#[]⟩ : ByteArray), .int .i64 0] 35 (0, 0))) = V7 at n0_ n1_ n2_ ⊢
  have HA := n0_
  have HB := n1_
  have HN := n2_
  clear n0_ n1_ n2_
  go_upto_region 6 with (first | (go_at_call 12; (refine (tick_due w.heap.size g _ 5 5 _ (below_size HB.out) HA.out.lt HA.out hwit5 _ rfl (by unfold wrap64; decide) (by decide)).mono ?_); rintro e w8 ⟨v0, rfl, hR, hA, hK⟩; have HR := Aside0.mk hR; have n3_ := Aside0.mk (HB.out.trans (hK.low HLE.out)); have n5_ := Aside0.mk (hK.keep.blk HN.out HX.out (fun e => by cases e)); clear HB HN hA hK hR; have HB := n3_; have HN := n5_; clear n3_ n5_))
  obtain ⟨A, c, rfl, hc0, hC⟩ := Kd.R_reads HR.out
  obtain ⟨ad, rfl, g0, g1, g2, g3, g4, g5, g6⟩ := at_T35 hC 0 (by decide) (by decide)
  have hn5 : w8.cell? ⟨na, 5, none⟩ = some (.string (⟨#[65]⟩ : ByteArray)) := (blk_cell HN.out 5).trans rfl
  have g5' : w8.cell? ⟨ad.block, ad.off + 2 + 3, none⟩ = some (.string (⟨#[67]⟩ : ByteArray)) := g5
  have g6' : w8.cell? ⟨ad.block, ad.off + 6, none⟩ = some (.int .i64 5) := g6
  clear g0 g1 g2 g3 g4 g5 g6
  simp only [List.length_cons, List.length_nil]
  go_wp2
  go_ret
  exact ⟨rfl, HB.out⟩

/-! ### signalboxlaw23_small: function 13 -/
def signalboxlaw23_small.l0 : Nat → List (S33) → Int → Int → Option (Bool)
  | 0, _, _, _ => none
  | k + 1, x0, x3, x4 => if x4 < (x0.length : Int) then (if x4 ≤ 100 then (if 0 ≤ x4 then (signalboxlaw23_small.l0 k x0 (wrap64 (x3 + (mn (((rd_T33 x0 x4).f3).size : Int) 5000))) (wrap64 (x4 + 1))) else (none)) else (if (x0.length : Int) ≤ 100 then (some (decide (x3 ≤ 4000))) else (some false))) else (if (x0.length : Int) ≤ 100 then (some (decide (x3 ≤ 4000))) else (some false))
def signalboxlaw23_small.f (k : Nat) (l0 : List (S33)) : Option (Bool) := signalboxlaw23_small.l0 k l0 0 0
theorem signalboxlaw23_small.mono_l : ∀ k, (∀ y0 y1 y2, LeO (signalboxlaw23_small.l0 k y0 y1 y2) (signalboxlaw23_small.l0 (k + 1) y0 y1 y2))
  | 0 => fun _ _ _ r h => by simp [signalboxlaw23_small.l0] at h
  | k + 1 => by
    have ih0 := signalboxlaw23_small.mono_l k
    · intro y0 y1 y2
      unfold signalboxlaw23_small.l0
      repeat' first
      | (with_reducible exact ih0 _ _ _)
      | (with_reducible exact LeO.refl _)
      | (with_reducible exact LeO.none _)
      | (with_reducible refine LeO.ite ?_ ?_)
      | (with_reducible refine LeO.bind ?_ (fun _ => ?_))
      | exact ih0 _ _ _
      | exact LeO.none _
      | refine LeO.ite ?_ ?_
      | refine LeO.bind ?_ (fun _ => ?_)
theorem signalboxlaw23_small.mono : ∀ a0 k, LeO (signalboxlaw23_small.f k a0) (signalboxlaw23_small.f (k + 1) a0) := by
  intro a0 k
  have ih0 := signalboxlaw23_small.mono_l k
  unfold signalboxlaw23_small.f
  repeat' first
      | (with_reducible exact ih0 _ _ _)
      | (with_reducible exact LeO.refl _)
      | (with_reducible exact LeO.none _)
      | (with_reducible refine LeO.ite ?_ ?_)
      | (with_reducible refine LeO.bind ?_ (fun _ => ?_))
      | exact ih0 _ _ _
      | exact LeO.none _
      | refine LeO.ite ?_ ?_
      | refine LeO.bind ?_ (fun _ => ?_)
set_option maxHeartbeats 8000000 in
set_option maxRecDepth 100000 in
theorem signalboxlaw23_small.calls (k : Nat) (A0 : Option Addr) (c0 : Nat) (l0 : List (S33)) (r : Bool) (w : World) (hr0 : Kd.C k33 w A0 l0.length l0) (hc0 : l0.length ≤ c0) (h : signalboxlaw23_small.f k l0 = some r) :
    Calls Try.prog 13 #[.slice A0 l0.length c0] w fun e w' => e = .returned (.bool r) ∧ Below w.heap.size w w' := by
  have HR0 := Aside0.mk hr0
  have HC0 := Aside0.mk hc0
  clear hr0 hc0
  have HB := Aside0.mk (Below.refl w.heap.size w)
  have H : (signalboxlaw23_small.l0 k l0 0 0) = some r := h
  clear h
  have H' := Aside0.mk H
  clear H
  go_enter Try.func13, Try.ntmps13
  go_wp2
  go_loopg [3, 4] k (fun kq v3 v4 w' => ∃ (x3_1 : Int) (x4_1 : Int), v3 = .int .i64 x3_1 ∧ v4 = .int .i64 x4_1 ∧ Aside0 (signalboxlaw23_small.l0 kq l0 x3_1 x4_1 = some r) ∧ Aside0 (kq ≤ k) ∧ Aside0 (Below w.heap.size w w'))
  case atStart => exact ⟨(0), (0), (by first | rfl | (simp; done) | (simp [*]; done)), (by first | rfl | (simp; done) | (simp [*]; done)), H', ⟨Nat.le_refl _⟩, ⟨by repeat (first | (with_reducible first | exact HB.out | apply below_alloc | apply pw_below_drewN | apply below_drew1) | exact HB.out)⟩⟩
  case round =>
    clear H'
    try clear c1
    obtain ⟨x3_1, x4_1, rfl, rfl, HA, HK1, HB⟩ := hrel
    cases gk with
    | zero => exact absurd HA.out (by simp [signalboxlaw23_small.l0])
    | succ k1 =>
      have H := HA.out
      clear HA
      simp only [signalboxlaw23_small.l0] at H
      by_cases c2 : x4_1 < (l0.length : Int)
      · rw [if_pos c2] at H
        have c2b0 : decide (x4_1 < (l0.length : Int)) = true := decide_eq_true c2
        clear c2
        by_cases c3 : x4_1 ≤ 100
        · rw [if_pos c3] at H
          have c3b0 : decide (x4_1 ≤ 100) = true := decide_eq_true c3
          clear c3
          by_cases c4 : 0 ≤ x4_1
          · rw [if_pos c4] at H
            have c4b0 : decide (0 ≤ x4_1) = true := decide_eq_true c4
            clear c4
            obtain ⟨ji5, hji5⟩ : ∃ j_ : Int, (mn (((rd_T33 l0 x4_1).f3).size : Int) 5000) = j_ := ⟨_, rfl⟩
            replace H : (signalboxlaw23_small.l0 k1 l0 (wrap64 (x3_1 + (ji5))) (wrap64 (x4_1 + 1))) = some r := by first | (rw [hji5] at H; exact H) | (simp only [hji5] at H ⊢; exact H)
            have hji5_ : (if 5000 < (((rd_T33 l0 x4_1).f3).size : Int) then 5000 else (((rd_T33 l0 x4_1).f3).size : Int)) = ji5 := hji5
            have H' := Aside0.mk H
            clear H
            have p137 : 0 ≤ (x4_1 : Int) := of_decide_eq_true (by first | (with_reducible assumption) | assumption)
            have q137 : x4_1 < (l0.length : Int) := of_decide_eq_true (by first | (with_reducible assumption) | assumption)
            obtain ⟨ad137, e137, hx137_0, hx137_1, hx137_2, hx137_3⟩ := at_T33 HR0.out x4_1 p137 q137
            cases e137
            replace hx137_0 := (HB.out.cell (World.block_lt_of_cell? w _ hx137_0)).trans hx137_0
            replace hx137_1 := (HB.out.cell (World.block_lt_of_cell? w _ hx137_1)).trans hx137_1
            replace hx137_2 := (HB.out.cell (World.block_lt_of_cell? w _ hx137_2)).trans hx137_2
            replace hx137_3 := (HB.out.cell (World.block_lt_of_cell? w _ hx137_3)).trans hx137_3
            replace p137 := eq_true p137
            replace q137 := eq_true q137
            go_wp2
            go_roundg k1
            case measure => have := HK1.out; omega
            case rel => exact ⟨(wrap64 (x3_1 + (ji5))), (wrap64 (x4_1 + 1)), (by first | rfl | (simp; done) | (simp only [← hji5] <;> (first | rfl | simp)) | (simp [*]; done)), (by first | rfl | (simp; done) | (simp [*]; done)), H', ⟨by have := HK1.out; omega⟩, ⟨by repeat (first | (with_reducible first | exact HB.out | apply below_alloc | apply pw_below_drewN | apply below_drew1) | exact HB.out)⟩⟩
          · rw [if_neg c4] at H
            exact absurd H (by simp)
        · rw [if_neg c3] at H
          have c3b0 : decide (x4_1 ≤ 100) = false := decide_eq_false c3
          clear c3
          by_cases c6 : (l0.length : Int) ≤ 100
          · rw [if_pos c6] at H
            have c6b0 : decide ((l0.length : Int) ≤ 100) = true := decide_eq_true c6
            have c6b1 : decide (l0.length ≤ 100) = true := decide_eq_true (by omega)
            clear c6
            obtain rfl := Option.some.inj H
            go_wp2
            go_ret
            exact ⟨by first | rfl | (simp [errW_none, errW_some] <;> rfl) | (simp [*, errW_none, errW_some] <;> rfl), by repeat (first | (with_reducible first | exact HB.out | apply below_alloc | apply pw_below_drewN | apply below_drew1) | exact HB.out)⟩
          · rw [if_neg c6] at H
            have c6b0 : decide ((l0.length : Int) ≤ 100) = false := decide_eq_false c6
            have c6b1 : decide (l0.length ≤ 100) = false := decide_eq_false (by omega)
            clear c6
            obtain rfl := Option.some.inj H
            go_wp2
            go_ret
            exact ⟨by first | rfl | (simp [errW_none, errW_some] <;> rfl) | (simp [*, errW_none, errW_some] <;> rfl), by repeat (first | (with_reducible first | exact HB.out | apply below_alloc | apply pw_below_drewN | apply below_drew1) | exact HB.out)⟩
      · rw [if_neg c2] at H
        have c2b0 : decide (x4_1 < (l0.length : Int)) = false := decide_eq_false c2
        clear c2
        by_cases c7 : (l0.length : Int) ≤ 100
        · rw [if_pos c7] at H
          have c7b0 : decide ((l0.length : Int) ≤ 100) = true := decide_eq_true c7
          have c7b1 : decide (l0.length ≤ 100) = true := decide_eq_true (by omega)
          clear c7
          obtain rfl := Option.some.inj H
          go_wp2
          go_ret
          exact ⟨by first | rfl | (simp [errW_none, errW_some] <;> rfl) | (simp [*, errW_none, errW_some] <;> rfl), by repeat (first | (with_reducible first | exact HB.out | apply below_alloc | apply pw_below_drewN | apply below_drew1) | exact HB.out)⟩
        · rw [if_neg c7] at H
          have c7b0 : decide ((l0.length : Int) ≤ 100) = false := decide_eq_false c7
          have c7b1 : decide (l0.length ≤ 100) = false := decide_eq_false (by omega)
          clear c7
          obtain rfl := Option.some.inj H
          go_wp2
          go_ret
          exact ⟨by first | rfl | (simp [errW_none, errW_some] <;> rfl) | (simp [*, errW_none, errW_some] <;> rfl), by repeat (first | (with_reducible first | exact HB.out | apply below_alloc | apply pw_below_drewN | apply below_drew1) | exact HB.out)⟩

end Go.Proofs.Ytelplkdbjfkfmaa.PWatchThrottle
