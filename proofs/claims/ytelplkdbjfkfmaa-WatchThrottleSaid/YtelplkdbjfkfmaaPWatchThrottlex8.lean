-- Laid by a program of the session over the kit's print. Not trusted: Lean checks it.
import Derived.Test.YtelplkdbjfkfmaaPWatchThrottlex0
import Derived.Test.YtelplkdbjfkfmaaPWatchThrottlex1
import Derived.Test.YtelplkdbjfkfmaaPWatchThrottlex3
import Derived.Test.YtelplkdbjfkfmaaPWatchThrottlex5
import Derived.Test.YtelplkdbjfkfmaaPWatchThrottlex6
import Derived.Test.YtelplkdbjfkfmaaPWatchThrottlex7
namespace Go.Proofs.Ytelplkdbjfkfmaa.PWatchThrottle
open Go.RowKit Go.Proofs.YtelplkdbjfkfmaaW.PrintWords Go.Proofs.YtelplkdbjfkfmaaW.PrintLast Go.Proofs.YtelplkdbjfkfmaaW.PrintMore
attribute [local go_sem] max2_int min2_int max_two min_two max_three min_three max_four min_four   -- for this text's walks alone
set_option linter.unusedVariables false
set_option linter.unusedSimpArgs false

/-! ### signalboxlaw23_WatchThrottle: function 5 -/
theorem PlP.open_ {rr id km : Int} {inv : Bool} {mk : ByteArray} {thr sil : Int} {l : List S33} {mt : S33 → Bool} {df : S33 → S33 → Bool} {e : Ending} {w w' : World} (h : PlP rr id km inv mk thr sil l mt df e w w') : ∃ (v gp : Value) (cm : S33) (now : Int), e = .returned (.tuple #[v, gp, .agg #[.int .i64 cm.f0, .int .i64 cm.f1, .int .i64 cm.f2, .string cm.f3], .int .i64 now]) ∧ Below w.heap.size w w' ∧ (gp = .pointer none ∨ ∃ g base s ns b, gp = .pointer (some ⟨g, 0, none⟩) ∧ rr = 0 ∧ WAt w' base g s ∧ NR w' v ns ∧ (s.id = id ∧ s.km = km ∧ s.inv = inv ∧ s.wmk = mk ∧ s.thr = thr ∧ s.sil = sil) ∧ TI l mt df thr s ns cm now b ∧ ns.length ≤ 5000) := by
  obtain ⟨hB, h | ⟨v, g, base, s, ns, cm, now, b, h1, h2⟩⟩ := h
  · exact ⟨_, _, ⟨0, 0, 0, ⟨#[]⟩⟩, 0, h, hB, Or.inl rfl⟩
  · exact ⟨_, _, cm, now, h1, hB, Or.inr ⟨g, base, s, ns, b, rfl, h2⟩⟩
/-- The note that stands in the cell. -/
def lv (a : Option S35) : S35 := a.getD ⟨0, 0, ⟨0, 0, 0, ⟨#[]⟩⟩, 0⟩
def ncells (y : S35) : Array Value := #[.int .i64 y.f0, .int .i64 y.f1, .int .i64 y.f2.f0, .int .i64 y.f2.f1, .int .i64 y.f2.f2, .string y.f2.f3, .int .i64 y.f3]
theorem drop35 (l : List S35) (j : Int) (h0 : 0 ≤ j) (h1 : j < l.length) : l.drop j.toNat = rd_T35 l j :: l.drop (j + 1).toNat := by
  have e : (j + 1).toNat = j.toNat + 1 := by omega
  rw [e, List.drop_eq_getElem_cons (by omega : j.toNat < l.length)]
  unfold rd_T35
  rw [List.getD_eq_getElem?_getD, List.getElem?_eq_getElem (by omega : j.toNat < l.length)]
  rfl
theorem idx33 {l : List S33} {x : S33} (h : x ∈ l) : ∃ j : Int, 0 ≤ j ∧ j < l.length ∧ rd_T33 l j = x := by
  obtain ⟨i, hi, rfl⟩ := List.getElem_of_mem h
  refine ⟨i, Int.natCast_nonneg _, by omega, ?_⟩
  unfold rd_T33
  rw [Int.toNat_natCast, List.getD_eq_getElem?_getD, List.getElem?_eq_getElem hi]
  rfl
theorem frT_q {o : Option (Int × Int × Int × ByteArray)} {f : S33} (h : o = some (frS f)) : frT o = .tuple #[.agg #[.int .i64 f.f0, .int .i64 f.f1, .int .i64 f.f2, .string f.f3], .bool true] := by
  rw [h]
  rfl
theorem told_s (base g : Nat) (s : WS) (w : World) (hW : WAt w base g s) {f : S33} (h : s.told = some (frS f)) : Calls Try.prog 17 #[.pointer (some ⟨g, 0, none⟩)] w fun e w' => e = .returned (.tuple #[.agg #[.int .i64 f.f0, .int .i64 f.f1, .int .i64 f.f2, .string f.f3], .bool true]) ∧ Below w.heap.size w w' := frT_q h ▸ told_ok base g s w hW
theorem held_s (base g : Nat) (s : WS) (w : World) (hW : WAt w base g s) {f : S33} (h : s.held = some (frS f)) : Calls Try.prog 18 #[.pointer (some ⟨g, 0, none⟩)] w fun e w' => e = .returned (.tuple #[.agg #[.int .i64 f.f0, .int .i64 f.f1, .int .i64 f.f2, .string f.f3], .bool true]) ∧ Below w.heap.size w w' := frT_q h ▸ held_ok base g s w hW
theorem frT_n {o : Option (Int × Int × Int × ByteArray)} (h : o = none) : frT o = .tuple #[.agg #[.int .i64 0, .int .i64 0, .int .i64 0, .string (⟨#[]⟩ : ByteArray)], .bool false] := by
  rw [h]
  rfl
theorem told_n (base g : Nat) (s : WS) (w : World) (hW : WAt w base g s) (h : s.told = none) : Calls Try.prog 17 #[.pointer (some ⟨g, 0, none⟩)] w fun e w' => e = .returned (.tuple #[.agg #[.int .i64 0, .int .i64 0, .int .i64 0, .string (⟨#[]⟩ : ByteArray)], .bool false]) ∧ Below w.heap.size w w' := frT_n h ▸ told_ok base g s w hW
theorem held_n (base g : Nat) (s : WS) (w : World) (hW : WAt w base g s) (h : s.held = none) : Calls Try.prog 18 #[.pointer (some ⟨g, 0, none⟩)] w fun e w' => e = .returned (.tuple #[.agg #[.int .i64 0, .int .i64 0, .int .i64 0, .string (⟨#[]⟩ : ByteArray)], .bool false]) ∧ Below w.heap.size w w' := frT_n h ▸ held_ok base g s w hW
set_option maxHeartbeats 4000000 in
theorem last_set {W0 W : World} {lb : Nat} {a : Option S35} (hB : Below W0.heap.size W0 W) (hL : W.heap[lb]? = some (.cells (ncells (lv a)) 35 (0, 0))) (hle : W0.heap.size ≤ lb) (x : S35) :
    Below W0.heap.size W0 (((((((W.setCell ⟨lb, 0, none⟩ (.int .i64 x.f0)).setCell ⟨lb, 1, none⟩ (.int .i64 x.f1)).setCell ⟨lb, 2, none⟩ (.int .i64 x.f2.f0)).setCell ⟨lb, 3, none⟩ (.int .i64 x.f2.f1)).setCell ⟨lb, 4, none⟩ (.int .i64 x.f2.f2)).setCell ⟨lb, 5, none⟩ (.string x.f2.f3)).setCell ⟨lb, 6, none⟩ (.int .i64 x.f3)) ∧
    (((((((W.setCell ⟨lb, 0, none⟩ (.int .i64 x.f0)).setCell ⟨lb, 1, none⟩ (.int .i64 x.f1)).setCell ⟨lb, 2, none⟩ (.int .i64 x.f2.f0)).setCell ⟨lb, 3, none⟩ (.int .i64 x.f2.f1)).setCell ⟨lb, 4, none⟩ (.int .i64 x.f2.f2)).setCell ⟨lb, 5, none⟩ (.string x.f2.f3)).setCell ⟨lb, 6, none⟩ (.int .i64 x.f3)).heap[lb]? = some (.cells (ncells (lv (some x))) 35 (0, 0)) := by
  generalize lv a = y at hL
  have hL' : W.heap[lb]? = some (.cells #[.int .i64 y.f0, .int .i64 y.f1, .int .i64 y.f2.f0, .int .i64 y.f2.f1, .int .i64 y.f2.f2, .string y.f2.f3, .int .i64 y.f3] 35 (0, 0)) := hL
  have h7 := blk_put (cs' := #[.int .i64 x.f0, .int .i64 x.f1, .int .i64 x.f2.f0, .int .i64 x.f2.f1, .int .i64 x.f2.f2, .string x.f2.f3, .int .i64 x.f3]) (blk_put (blk_put (blk_put (blk_put (blk_put (blk_put hL' 0 (.int .i64 x.f0) rfl) 1 (.int .i64 x.f1) rfl) 2 (.int .i64 x.f2.f0) rfl) 3 (.int .i64 x.f2.f1) rfl) 4 (.int .i64 x.f2.f2) rfl) 5 (.string x.f2.f3) rfl) 6 (.int .i64 x.f3) rfl
  exact ⟨below_set (below_set (below_set (below_set (below_set (below_set (below_set hB hle) hle) hle) hle) hle) hle) hle, h7⟩
def TPF (id km : Int) (inv : Bool) (mk : ByteArray) (thr sil : Int) (l : List S33) : Prop := ∃ k b rr, signalboxlaw23_small.f k l = some b ∧ watch_Right.f 5 id km inv mk thr sil = some rr ∧ (rr = 0 ∨ rr = 2) ∧ (b = true → l.length ≤ 100) ∧
  (b = true → rr = 0 → ∃ (mt : S33 → Bool) (df : S33 → S33 → Bool), PFT id km inv mk l mt df ∧ ∀ x ∈ l, ∀ y ∈ l, ∃ K, signalboxref23_Differ.f K id km inv mk thr sil x.f0 x.f1 x.f2 x.f3 y.f0 y.f1 y.f2 y.f3 = some (df x y))
open Classical in
noncomputable def signalboxlaw23_WatchThrottle.f (a0_0 : Int) (a0_1 : Int) (a0_2 : Bool) (a0_3 : ByteArray) (a0_4 : Int) (a0_5 : Int) (l1 : List S33) (l2 : List Int) : Option Bool := if TPF a0_0 a0_1 a0_2 a0_3 a0_4 a0_5 l1 then some true else none
set_option maxRecDepth 1000000 in
set_option maxHeartbeats 16000000 in
theorem signalboxlaw23_WatchThrottle.calls (id : Int) (km : Int) (inv : Bool) (mk : ByteArray) (thr : Int) (sil : Int) (A1 : Option Addr) (c1 : Nat) (l1 : List S33) (A2 : Option Addr) (c2 : Nat) (l2 : List Int) (r : Bool) (w : World) (hr1 : Kd.C k33 w A1 l1.length l1) (hc1 : l1.length ≤ c1) (hr2 : Kd.C (Kd.int .i64) w A2 l2.length l2) (hc2 : l2.length ≤ c2) (h : signalboxlaw23_WatchThrottle.f id km inv mk thr sil l1 l2 = some r) :
    Calls Try.prog 5 #[.agg #[.int .u32 id, .int .u32 km, .bool inv, .string mk, .int .i64 thr, .int .i64 sil], .slice A1 l1.length c1, .slice A2 l2.length c2] w fun e w' => e = .returned (.bool r) ∧ Below w.heap.size w w' := by
  have HF : TPF id km inv mk thr sil l1 ∧ r = true := by
    unfold signalboxlaw23_WatchThrottle.f at h
    by_cases c : TPF id km inv mk thr sil l1
    · rw [if_pos c] at h
      exact ⟨c, (Option.some.inj h).symm⟩
    · rw [if_neg c] at h
      cases h
  obtain ⟨⟨kf, b, rr, hfew, hright, hrr, hlen, hfd⟩, rfl⟩ := HF
  clear h
  have HR1 := Aside0.mk hr1
  have HC1 := Aside0.mk hc1
  have HR2 := Aside0.mk hr2
  have HC2 := Aside0.mk hc2
  have HFW := Aside0.mk hfew
  have HRT := Aside0.mk hright
  have HLN := Aside0.mk hlen
  have HFD := Aside0.mk hfd
  have HRR := Aside0.mk hrr
  clear hr1 hc1 hr2 hc2 hfew hright hlen hfd hrr
  have hu := Try.underlying33
  have hu2 := Try.underlying72
  have hu3 := Try.underlying31
  have hu4 := Try.underlying29
  have hu5 := Try.underlying35
  have hu6 := Try.underlying39
  have hu44 := Try.underlying44
  have hu42 := Try.underlying42
  have HJ := Aside0.mk (blk_new w (Obj.cells #[.int .u32 id, .int .u32 km, .bool inv, .string mk, .int .i64 thr, .int .i64 sil] 31 (0, 0)))
  have HB := Aside0.mk (below_alloc (Below.refl w.heap.size w) (Obj.cells #[.int .u32 id, .int .u32 km, .bool inv, .string mk, .int .i64 thr, .int .i64 sil] 31 (0, 0)))
  go_enter Try.func5, Try.ntmps5
  go_upto_region 1 with (fail)
  generalize (w.alloc (Obj.cells #[.int .u32 id, .int .u32 km, .bool inv, .string mk, .int .i64 thr, .int .i64 sil] 31 (0, 0))) = W0 at HJ HB ⊢
  cases b with
  | false =>
    go_wp2_with (first | (go_at_call 13; (with_reducible refine (signalboxlaw23_small.calls kf A1 c1 l1 _ _ (Kd.C_below HR1.out HB.out) HC1.out HFW.out).mono ?_); rintro e w1 ⟨rfl, hb⟩; have n0_ := Aside0.mk (below_step HB.out hb); clear HB hb; have HB := n0_; clear n0_) | (go_at_call 8; (with_reducible refine (alive_ok _).mono ?_); rintro e w90 ⟨rfl, hb⟩; have n0_ := Aside0.mk (below_step HB.out hb); clear HB hb; have HB := n0_; clear n0_))
    go_ret
    exact ⟨rfl, HB.out⟩
  | true =>
    have HL := Aside0.mk (HLN.out rfl)
    have HLE := Aside0.mk (HLN.out rfl)
    have hfd2 := HFD.out rfl
    have hrr := HRR.out
    clear HLN HFD HRR
    obtain ⟨mt, df, hpf⟩ : ∃ (mt : S33 → Bool) (df : S33 → S33 → Bool), rr = 0 → PFT id km inv mk l1 mt df ∧ ∀ x ∈ l1, ∀ y ∈ l1, ∃ K, signalboxref23_Differ.f K id km inv mk thr sil x.f0 x.f1 x.f2 x.f3 y.f0 y.f1 y.f2 y.f3 = some (df x y) := by
      by_cases c : rr = 0
      · obtain ⟨mt, df, h⟩ := hfd2 c
        exact ⟨mt, df, fun _ => h⟩
      · exact ⟨fun _ => false, fun _ _ => false, fun h => absurd h c⟩
    have HPL := Aside0.mk (fun (W : World) (hB : Below w.heap.size w W) => played_ok id km inv mk thr sil mt df A1 c1 l1 A2 c2 l2 rr W (Kd.C_below HR1.out hB) HC1.out (Kd.C_below HR2.out hB) HC2.out HL.out HRT.out hrr (fun h => (hpf h).1))
    clear hfd2 hrr
    go_upto_region 3 with (go_at_call 13; (with_reducible refine (signalboxlaw23_small.calls kf A1 c1 l1 _ _ (Kd.C_below HR1.out HB.out) HC1.out HFW.out).mono ?_); rintro e w1 ⟨rfl, hb⟩; have n0_ := Aside0.mk (below_step HB.out hb); have n1_ := Aside0.mk (blk_below HJ.out hb); clear HB HJ hb; have HB := n0_; have HJ := n1_; clear n0_ n1_)
    have hj0 : w1.cell? ⟨w.heap.size, 0, none⟩ = some (.int .u32 id) := (blk_cell HJ.out 0).trans rfl; have hj1 : w1.cell? ⟨w.heap.size, 1, none⟩ = some (.int .u32 km) := (blk_cell HJ.out 1).trans rfl; have hj2 : w1.cell? ⟨w.heap.size, 2, none⟩ = some (.bool inv) := (blk_cell HJ.out 2).trans rfl; have hj3 : w1.cell? ⟨w.heap.size, 3, none⟩ = some (.string mk) := (blk_cell HJ.out 3).trans rfl; have hj4 : w1.cell? ⟨w.heap.size, 4, none⟩ = some (.int .i64 thr) := (blk_cell HJ.out 4).trans rfl; have hj5 : w1.cell? ⟨w.heap.size, 5, none⟩ = some (.int .i64 sil) := (blk_cell HJ.out 5).trans rfl
    go_upto_region 4 with (go_at_call 14; (with_reducible refine (HPL.out _ HB.out).mono ?_); rintro e w3 hP; obtain ⟨v, gp, cm, now, rfl, hb, hg⟩ := hP.open_; have HGP := Aside0.mk hg; have n0_ := Aside0.mk (below_step HB.out hb); have n1_ := Aside0.mk (blk_below HJ.out hb); clear HB HJ HPL hb hP hg hj0 hj1 hj2 hj3 hj4 hj5; have HB := n0_; have HJ := n1_; clear n0_ n1_)
    rcases HGP.out with hgp | ⟨g, base, s, ns, bl, hgp, hr0, hA, hN, hC, hT, hns⟩
    · subst hgp
      have n0_ := Aside0.mk (below_alloc HB.out (Obj.cells #[.int .i64 cm.f0, .int .i64 cm.f1, .int .i64 cm.f2, .string cm.f3] 33 (0, 0)))
      clear HB HJ HGP
      have HB := n0_
      clear n0_
      generalize (w3.alloc (Obj.cells #[.int .i64 cm.f0, .int .i64 cm.f1, .int .i64 cm.f2, .string cm.f3] 33 (0, 0))) = W4 at HB ⊢
      go_wp2_with (first | (go_at_call 8; (with_reducible refine (alive_ok _).mono ?_); rintro e w90 ⟨rfl, hb⟩; have n0_ := Aside0.mk (below_step HB.out hb); clear HB hb; have HB := n0_; clear n0_))
      go_ret
      exact ⟨rfl, HB.out⟩
    · subst hgp
      clear HGP
      have HA := Aside0.mk (hA.call (below_alloc (Below.refl _ _) (Obj.cells #[.int .i64 cm.f0, .int .i64 cm.f1, .int .i64 cm.f2, .string cm.f3] 33 (0, 0))))
      have HN := Aside0.mk (hN.call (below_alloc (Below.refl _ _) (Obj.cells #[.int .i64 cm.f0, .int .i64 cm.f1, .int .i64 cm.f2, .string cm.f3] 33 (0, 0))))
      have HC := Aside0.mk hC
      have HT := Aside0.mk hT
      have HNS := Aside0.mk hns
      have n0_ := Aside0.mk (below_alloc HB.out (Obj.cells #[.int .i64 cm.f0, .int .i64 cm.f1, .int .i64 cm.f2, .string cm.f3] 33 (0, 0)))
      have n1_ := Aside0.mk (blk_below HJ.out (below_alloc (Below.refl _ _) (Obj.cells #[.int .i64 cm.f0, .int .i64 cm.f1, .int .i64 cm.f2, .string cm.f3] 33 (0, 0))))
      have HK := Aside0.mk (blk_new w3 (Obj.cells #[.int .i64 cm.f0, .int .i64 cm.f1, .int .i64 cm.f2, .string cm.f3] 33 (0, 0)))
      clear HB HJ hA hN hC hT hns
      have HB := n0_
      have HJ := n1_
      clear n0_ n1_
      generalize (w3.alloc (Obj.cells #[.int .i64 cm.f0, .int .i64 cm.f1, .int .i64 cm.f2, .string cm.f3] 33 (0, 0))) = W4 at HB HJ HA HN HK ⊢
      generalize w3.heap.size = kb at HK ⊢
      obtain ⟨hpt, hdf⟩ := hpf hr0
      have HPM := Aside0.mk hpt.1
      have HPS := Aside0.mk hpt.2.2
      have HDF := Aside0.mk hdf
      clear hpt hdf hpf hr0
      obtain ⟨An, cn, rfl, hcn, hCn⟩ := HN.out
      have HCN := Aside0.mk hCn
      clear HN hCn
      go_upto_region 7 with (fail)
      have HBL := Aside0.mk (below_alloc (Below.refl W4.heap.size W4) (Obj.cells #[.int .i64 0, .int .i64 0, .int .i64 0, .int .i64 0, .int .i64 0, .string (⟨#[]⟩ : ByteArray), .int .i64 0] 35 (0, 0)))
      have HL := Aside0.mk (show (W4.alloc (Obj.cells #[.int .i64 0, .int .i64 0, .int .i64 0, .int .i64 0, .int .i64 0, .string (⟨#[]⟩ : ByteArray), .int .i64 0] 35 (0, 0))).heap[W4.heap.size]? = some (.cells (ncells (lv none)) 35 (0, 0)) from blk_new W4 (Obj.cells #[.int .i64 0, .int .i64 0, .int .i64 0, .int .i64 0, .int .i64 0, .string (⟨#[]⟩ : ByteArray), .int .i64 0] 35 (0, 0)))
      generalize (W4.alloc (Obj.cells #[.int .i64 0, .int .i64 0, .int .i64 0, .int .i64 0, .int .i64 0, .string (⟨#[]⟩ : ByteArray), .int .i64 0] 35 (0, 0))) = W5 at HBL HL ⊢
      obtain ⟨lb, hlb⟩ : ∃ n, n = W4.heap.size := ⟨_, rfl⟩
      rw [← hlb] at HL ⊢
      have HLB := Aside0.mk (Nat.le_of_eq hlb.symm)
      clear hlb
      go_wp2
      go_loopg [39] 6000 (fun kq v39 w' => ∃ (i : Int) (a : Option S35), v39 = .int .i64 i ∧ Aside0 (0 ≤ i ∧ i ≤ ns.length ∧ (kq : Int) + i = 6000) ∧ Aside0 (Ck l1 mt df thr (ns.drop i.toNat) a bl ∧ ∀ y, a = some y → y.f0 = 1 ∧ y.f2 ∈ l1 ∧ 0 ≤ y.f3 ∧ y.f3 ≤ 1000000) ∧ Aside0 (Below W4.heap.size W4 w') ∧ Aside0 (w'.heap[lb]? = some (.cells (ncells (lv a)) 35 (0, 0))))
      case atStart => exact ⟨0, none, rfl, ⟨Int.le_refl _, Int.natCast_nonneg _, rfl⟩, ⟨HT.out.ck, fun y h => (by cases h)⟩, HBL, HL⟩
      case round =>
        clear HBL HL
        obtain ⟨i, a, rfl, HI, HCK, HBL, HL⟩ := hrel
        by_cases ci : i < (ns.length : Int)
        · have ci1 : decide (i < (ns.length : Int)) = true := decide_eq_true ci
          obtain ⟨x, hx⟩ : ∃ x, x = rd_T35 ns i := ⟨_, rfl⟩
          obtain ⟨ad, ea, y0, y1, y2, y3, y4, y5, y6⟩ := at_T35 HCN.out i HI.out.1 ci
          cases ea
          rw [← hx] at y0 y1 y2 y3 y4 y5 y6
          replace y0 := (HBL.out.cell (World.block_lt_of_cell? W4 _ y0)).trans y0
          replace y1 := (HBL.out.cell (World.block_lt_of_cell? W4 _ y1)).trans y1
          replace y2 := (HBL.out.cell (World.block_lt_of_cell? W4 _ y2)).trans y2
          replace y3 := (HBL.out.cell (World.block_lt_of_cell? W4 _ y3)).trans y3
          replace y4 := (HBL.out.cell (World.block_lt_of_cell? W4 _ y4)).trans y4
          replace y5 := (HBL.out.cell (World.block_lt_of_cell? W4 _ y5)).trans y5
          replace y6 := (HBL.out.cell (World.block_lt_of_cell? W4 _ y6)).trans y6
          have hck := HCK.out.1
          rw [drop35 ns i HI.out.1 ci, ← hx] at hck
          have HCX := Aside0.mk hck
          have HCI := Aside0.mk ci
          have p1 : (0 ≤ i) = True := eq_true HI.out.1
          have p2 : (i < (ns.length : Int)) = True := eq_true ci
          have ei : wrap64 (i + 1) = i + 1 := by
            have h1 := HI.out
            have h2 := HNS.out
            unfold wrap64
            omega
          clear hx ci hck
          go_upto_region 10 with (fail)
          have HX := Aside0.mk (blk_new wr (Obj.cells #[.int .i64 x.f0, .int .i64 x.f1, .int .i64 x.f2.f0, .int .i64 x.f2.f1, .int .i64 x.f2.f2, .string x.f2.f3, .int .i64 x.f3] 35 (0, 0)))
          have n0_ := Aside0.mk (below_step HBL.out (below_alloc (Below.refl _ _) (Obj.cells #[.int .i64 x.f0, .int .i64 x.f1, .int .i64 x.f2.f0, .int .i64 x.f2.f1, .int .i64 x.f2.f2, .string x.f2.f3, .int .i64 x.f3] 35 (0, 0))))
          have n1_ := Aside0.mk (blk_below HL.out (below_alloc (Below.refl _ _) (Obj.cells #[.int .i64 x.f0, .int .i64 x.f1, .int .i64 x.f2.f0, .int .i64 x.f2.f1, .int .i64 x.f2.f2, .string x.f2.f3, .int .i64 x.f3] 35 (0, 0))))
          clear HBL HL y0 y1 y2 y3 y4 y5 y6
          generalize (wr.alloc (Obj.cells #[.int .i64 x.f0, .int .i64 x.f1, .int .i64 x.f2.f0, .int .i64 x.f2.f1, .int .i64 x.f2.f2, .string x.f2.f3, .int .i64 x.f3] 35 (0, 0))) = W6 at HX n0_ n1_ ⊢
          generalize wr.heap.size = xb at HX ⊢
          have HBL := n0_
          have HL := n1_
          clear n0_ n1_
          by_cases c1 : x.f0 = 1
          · have e1 : (x.f0 != 1) = false := by rw [c1]; rfl
            have hck := HCX.out
            unfold Ck at hck
            rw [if_pos c1] at hck
            have HMX := Aside0.mk (show x.f2 ∈ l1 ∧ mt x.f2 = true ∧ 0 ≤ x.f3 ∧ x.f3 ≤ 1000000 from ⟨hck.1, hck.2.1, hck.2.2.1.1⟩)
            have HMY := Aside0.mk hck.2.2.1.2
            have HCS := Aside0.mk hck.2.2.2
            have HX1 := Aside0.mk c1
            clear hck c1 HCX
            have hx0 : W6.cell? ⟨xb, 0, none⟩ = some (.int .i64 x.f0) := (blk_cell HX.out 0).trans rfl; have hx1 : W6.cell? ⟨xb, 1, none⟩ = some (.int .i64 x.f1) := (blk_cell HX.out 1).trans rfl; have hx2 : W6.cell? ⟨xb, 2, none⟩ = some (.int .i64 x.f2.f0) := (blk_cell HX.out 2).trans rfl; have hx3 : W6.cell? ⟨xb, 3, none⟩ = some (.int .i64 x.f2.f1) := (blk_cell HX.out 3).trans rfl; have hx4 : W6.cell? ⟨xb, 4, none⟩ = some (.int .i64 x.f2.f2) := (blk_cell HX.out 4).trans rfl; have hx5 : W6.cell? ⟨xb, 5, none⟩ = some (.string x.f2.f3) := (blk_cell HX.out 5).trans rfl; have hx6 : W6.cell? ⟨xb, 6, none⟩ = some (.int .i64 x.f3) := (blk_cell HX.out 6).trans rfl
            go_wp2
            clear hx0 hx1 hx2 hx3 hx4 hx5 hx6
            have HBW := Aside0.mk (below_step HB.out HBL.out)
            obtain ⟨gko, hgko⟩ : ∃ k, k = gk := ⟨_, rfl⟩
            have HGO := Aside0.mk hgko
            clear hgko
            go_loopg [14, 48] 200 (fun kq v14 v48 w' => ∃ (t : Bool) (j : Int), v14 = .bool t ∧ v48 = .int .i64 j ∧ Aside0 (0 ≤ j ∧ j ≤ l1.length ∧ (kq : Int) + j = 200) ∧ Aside0 (∀ q : Int, 0 ≤ q → q < j → rd_T33 l1 q = x.f2 → t = true) ∧ Aside0 (Below W6.heap.size W6 w'))
            case atStart => exact ⟨false, 0, rfl, rfl, ⟨Int.le_refl _, Int.natCast_nonneg _, rfl⟩, ⟨fun q h1 h2 => absurd (Int.lt_of_le_of_lt h1 h2) (Int.lt_irrefl _)⟩, ⟨Below.refl _ _⟩⟩
            case round =>
              obtain ⟨t, j, rfl, rfl, HJ2, HIN, HBJ⟩ := hrel
              by_cases cj : j < (l1.length : Int)
              · have cj1 : decide (j < (l1.length : Int)) = true := decide_eq_true cj
                obtain ⟨f, hf⟩ : ∃ f, f = rd_T33 l1 j := ⟨_, rfl⟩
                obtain ⟨ad3, ea, z0, z1, z2, z3⟩ := at_T33 HR1.out j HJ2.out.1 cj
                cases ea
                rw [← hf] at z0 z1 z2 z3
                replace z0 := (HBJ.out.cell (World.block_lt_of_cell? W6 _ ((HBW.out.cell (World.block_lt_of_cell? w _ z0)).trans z0))).trans ((HBW.out.cell (World.block_lt_of_cell? w _ z0)).trans z0)
                replace z1 := (HBJ.out.cell (World.block_lt_of_cell? W6 _ ((HBW.out.cell (World.block_lt_of_cell? w _ z1)).trans z1))).trans ((HBW.out.cell (World.block_lt_of_cell? w _ z1)).trans z1)
                replace z2 := (HBJ.out.cell (World.block_lt_of_cell? W6 _ ((HBW.out.cell (World.block_lt_of_cell? w _ z2)).trans z2))).trans ((HBW.out.cell (World.block_lt_of_cell? w _ z2)).trans z2)
                replace z3 := (HBJ.out.cell (World.block_lt_of_cell? W6 _ ((HBW.out.cell (World.block_lt_of_cell? w _ z3)).trans z3))).trans ((HBW.out.cell (World.block_lt_of_cell? w _ z3)).trans z3)
                have p5 : (0 ≤ j) = True := eq_true HJ2.out.1
                have p6 : (j < (l1.length : Int)) = True := eq_true cj
                have ej : wrap64 (j + 1) = j + 1 := by
                  have h1 := HJ2.out
                  have h2 := HLE.out
                  unfold wrap64
                  omega
                have HFX := Aside0.mk hf
                have HCJ := Aside0.mk cj
                clear hf cj
                go_upto_region 15 with (fail)
                have HFO := Aside0.mk (blk_new wr (Obj.cells #[.int .i64 f.f0, .int .i64 f.f1, .int .i64 f.f2, .string f.f3] 33 (0, 0)))
                have n0_ := Aside0.mk (below_step HBJ.out (below_alloc (Below.refl _ _) (Obj.cells #[.int .i64 f.f0, .int .i64 f.f1, .int .i64 f.f2, .string f.f3] 33 (0, 0))))
                clear HBJ z0 z1 z2 z3
                generalize (wr.alloc (Obj.cells #[.int .i64 f.f0, .int .i64 f.f1, .int .i64 f.f2, .string f.f3] 33 (0, 0))) = W7 at HFO n0_ ⊢
                generalize wr.heap.size = fb at HFO ⊢
                have HBJ := n0_
                clear n0_
                have HX7 := Aside0.mk (blk_below HX.out HBJ.out)
                have hx0 : W7.cell? ⟨xb, 0, none⟩ = some (.int .i64 x.f0) := (blk_cell HX7.out 0).trans rfl; have hx1 : W7.cell? ⟨xb, 1, none⟩ = some (.int .i64 x.f1) := (blk_cell HX7.out 1).trans rfl; have hx2 : W7.cell? ⟨xb, 2, none⟩ = some (.int .i64 x.f2.f0) := (blk_cell HX7.out 2).trans rfl; have hx3 : W7.cell? ⟨xb, 3, none⟩ = some (.int .i64 x.f2.f1) := (blk_cell HX7.out 3).trans rfl; have hx4 : W7.cell? ⟨xb, 4, none⟩ = some (.int .i64 x.f2.f2) := (blk_cell HX7.out 4).trans rfl; have hx5 : W7.cell? ⟨xb, 5, none⟩ = some (.string x.f2.f3) := (blk_cell HX7.out 5).trans rfl; have hx6 : W7.cell? ⟨xb, 6, none⟩ = some (.int .i64 x.f3) := (blk_cell HX7.out 6).trans rfl
                have hf0 : W7.cell? ⟨fb, 0, none⟩ = some (.int .i64 f.f0) := (blk_cell HFO.out 0).trans rfl; have hf1 : W7.cell? ⟨fb, 1, none⟩ = some (.int .i64 f.f1) := (blk_cell HFO.out 1).trans rfl; have hf2 : W7.cell? ⟨fb, 2, none⟩ = some (.int .i64 f.f2) := (blk_cell HFO.out 2).trans rfl; have hf3 : W7.cell? ⟨fb, 3, none⟩ = some (.string f.f3) := (blk_cell HFO.out 3).trans rfl
                cases t with
                | true =>
                  go_wp2
                  go_roundg (gk - 1)
                  case measure =>
                    have h1 := HJ2.out
                    have h2 := HCJ.out
                    have h3 := HLE.out
                    omega
                  case rel => exact ⟨true, j + 1, rfl, (by first | rfl | rw [ej]), ⟨by
                    have h1 := HJ2.out
                    have h2 := HCJ.out
                    have h3 := HLE.out
                    omega⟩, ⟨fun _ _ _ _ => rfl⟩, HBJ⟩
                | false =>
                  by_cases cf : f = x.f2
                  · subst cf
                    go_wp2
                    go_roundg (gk - 1)
                    case measure =>
                      have h1 := HJ2.out
                      have h2 := HCJ.out
                      have h3 := HLE.out
                      omega
                    case rel => exact ⟨true, j + 1, rfl, (by first | rfl | rw [ej]), ⟨by
                      have h1 := HJ2.out
                      have h2 := HCJ.out
                      have h3 := HLE.out
                      omega⟩, ⟨fun _ _ _ _ => rfl⟩, HBJ⟩
                  · have HCF := Aside0.mk cf
                    clear cf
                    go_wp2
                    all_goals
                      go_roundg (gk - 1)
                      case measure =>
                        have h1 := HJ2.out
                        have h2 := HCJ.out
                        have h3 := HLE.out
                        omega
                      case rel => exact ⟨_, j + 1, rfl, (by first | rfl | rw [ej]), ⟨by
                        have h1 := HJ2.out
                        have h2 := HCJ.out
                        have h3 := HLE.out
                        omega⟩, ⟨fun q h1 h2 h3 => by
                        by_cases cq : q = j
                        · subst cq
                          exact absurd (HFX.out.trans h3) HCF.out
                        · exact absurd (HIN.out q h1 (by omega) h3) (by decide)⟩, HBJ⟩
              · have cj1 : decide (j < (l1.length : Int)) = false := decide_eq_false cj
                have htt : t = true := by
                  obtain ⟨q, q1, q2, q3⟩ := idx33 HMX.out.1
                  exact HIN.out q q1 (by omega) q3
                subst htt
                clear cj HIN
                have n0_ := Aside0.mk (below_step HBL.out HBJ.out)
                have HLX := Aside0.mk (blk_below HL.out HBJ.out)
                have n2_ := Aside0.mk (blk_below HX.out HBJ.out)
                have HJX := Aside0.mk (blk_below HJ.out n0_.out)
                clear HBL HX HBJ HL
                have HBL := n0_
                have HX := n2_
                clear n0_ n2_
                obtain ⟨Km, hKm⟩ := HPM.out x.f2 HMX.out.1
                have hcs := HC.out
                have HEH := Aside0.mk (hears_ok Km base g s x.f2.f0 x.f2.f1 x.f2.f2 x.f2.f3 true wr (HA.out.call HBL.out) (by
                  rw [hcs.1, hcs.2.1, hcs.2.2.1, hKm, HMX.out.2.1]))
                clear hKm hcs
                cases a with
                | none =>
                  have hx0 : wr.cell? ⟨xb, 0, none⟩ = some (.int .i64 x.f0) := (blk_cell HX.out 0).trans rfl; have hx1 : wr.cell? ⟨xb, 1, none⟩ = some (.int .i64 x.f1) := (blk_cell HX.out 1).trans rfl; have hx2 : wr.cell? ⟨xb, 2, none⟩ = some (.int .i64 x.f2.f0) := (blk_cell HX.out 2).trans rfl; have hx3 : wr.cell? ⟨xb, 3, none⟩ = some (.int .i64 x.f2.f1) := (blk_cell HX.out 3).trans rfl; have hx4 : wr.cell? ⟨xb, 4, none⟩ = some (.int .i64 x.f2.f2) := (blk_cell HX.out 4).trans rfl; have hx5 : wr.cell? ⟨xb, 5, none⟩ = some (.string x.f2.f3) := (blk_cell HX.out 5).trans rfl; have hx6 : wr.cell? ⟨xb, 6, none⟩ = some (.int .i64 x.f3) := (blk_cell HX.out 6).trans rfl
                  have hl0 : wr.cell? ⟨lb, 0, none⟩ = some (.int .i64 0) := (blk_cell HLX.out 0).trans rfl; have hl1 : wr.cell? ⟨lb, 1, none⟩ = some (.int .i64 0) := (blk_cell HLX.out 1).trans rfl; have hl2 : wr.cell? ⟨lb, 2, none⟩ = some (.int .i64 0) := (blk_cell HLX.out 2).trans rfl; have hl3 : wr.cell? ⟨lb, 3, none⟩ = some (.int .i64 0) := (blk_cell HLX.out 3).trans rfl; have hl4 : wr.cell? ⟨lb, 4, none⟩ = some (.int .i64 0) := (blk_cell HLX.out 4).trans rfl; have hl5 : wr.cell? ⟨lb, 5, none⟩ = some (.string (⟨#[]⟩ : ByteArray)) := (blk_cell HLX.out 5).trans rfl; have hl6 : wr.cell? ⟨lb, 6, none⟩ = some (.int .i64 0) := (blk_cell HLX.out 6).trans rfl
                  have hq0 : wr.frozen? ⟨lb, 0, none⟩ = false := blk_frozen HLX.out 0
                  have hq1 : wr.frozen? ⟨lb, 1, none⟩ = false := blk_frozen HLX.out 1
                  have hq2 : wr.frozen? ⟨lb, 2, none⟩ = false := blk_frozen HLX.out 2
                  have hq3 : wr.frozen? ⟨lb, 3, none⟩ = false := blk_frozen HLX.out 3
                  have hq4 : wr.frozen? ⟨lb, 4, none⟩ = false := blk_frozen HLX.out 4
                  have hq5 : wr.frozen? ⟨lb, 5, none⟩ = false := blk_frozen HLX.out 5
                  have hq6 : wr.frozen? ⟨lb, 6, none⟩ = false := blk_frozen HLX.out 6
                  have hj0 : wr.cell? ⟨w.heap.size, 0, none⟩ = some (.int .u32 id) := (blk_cell HJX.out 0).trans rfl; have hj1 : wr.cell? ⟨w.heap.size, 1, none⟩ = some (.int .u32 km) := (blk_cell HJX.out 1).trans rfl; have hj2 : wr.cell? ⟨w.heap.size, 2, none⟩ = some (.bool inv) := (blk_cell HJX.out 2).trans rfl; have hj3 : wr.cell? ⟨w.heap.size, 3, none⟩ = some (.string mk) := (blk_cell HJX.out 3).trans rfl; have hj4 : wr.cell? ⟨w.heap.size, 4, none⟩ = some (.int .i64 thr) := (blk_cell HJX.out 4).trans rfl; have hj5 : wr.cell? ⟨w.heap.size, 5, none⟩ = some (.int .i64 sil) := (blk_cell HJX.out 5).trans rfl
                  go_upto_region 19 with (go_at_call 15; (with_reducible refine HEH.out.mono ?_); rintro e w8 ⟨rfl, hb⟩; clear hx0 hx1 hx2 hx3 hx4 hx5 hx6 hl0 hl1 hl2 hl3 hl4 hl5 hl6 hq0 hq1 hq2 hq3 hq4 hq5 hq6 hj0 hj1 hj2 hj3 hj4 hj5; have n0_ := Aside0.mk (below_step HBL.out hb); have n1_ := Aside0.mk (blk_below HLX.out hb); have n2_ := Aside0.mk (blk_below HX.out hb); have n3_ := Aside0.mk (blk_below HJX.out hb); clear HBL HLX HX HJX hb; have HBL := n0_; have HLX := n1_; have HX := n2_; have HJX := n3_; clear n0_ n1_ n2_ n3_; have hx0 : w8.cell? ⟨xb, 0, none⟩ = some (.int .i64 x.f0) := (blk_cell HX.out 0).trans rfl; have hx1 : w8.cell? ⟨xb, 1, none⟩ = some (.int .i64 x.f1) := (blk_cell HX.out 1).trans rfl; have hx2 : w8.cell? ⟨xb, 2, none⟩ = some (.int .i64 x.f2.f0) := (blk_cell HX.out 2).trans rfl; have hx3 : w8.cell? ⟨xb, 3, none⟩ = some (.int .i64 x.f2.f1) := (blk_cell HX.out 3).trans rfl; have hx4 : w8.cell? ⟨xb, 4, none⟩ = some (.int .i64 x.f2.f2) := (blk_cell HX.out 4).trans rfl; have hx5 : w8.cell? ⟨xb, 5, none⟩ = some (.string x.f2.f3) := (blk_cell HX.out 5).trans rfl; have hx6 : w8.cell? ⟨xb, 6, none⟩ = some (.int .i64 x.f3) := (blk_cell HX.out 6).trans rfl; have hl0 : w8.cell? ⟨lb, 0, none⟩ = some (.int .i64 0) := (blk_cell HLX.out 0).trans rfl; have hl1 : w8.cell? ⟨lb, 1, none⟩ = some (.int .i64 0) := (blk_cell HLX.out 1).trans rfl; have hl2 : w8.cell? ⟨lb, 2, none⟩ = some (.int .i64 0) := (blk_cell HLX.out 2).trans rfl; have hl3 : w8.cell? ⟨lb, 3, none⟩ = some (.int .i64 0) := (blk_cell HLX.out 3).trans rfl; have hl4 : w8.cell? ⟨lb, 4, none⟩ = some (.int .i64 0) := (blk_cell HLX.out 4).trans rfl; have hl5 : w8.cell? ⟨lb, 5, none⟩ = some (.string (⟨#[]⟩ : ByteArray)) := (blk_cell HLX.out 5).trans rfl; have hl6 : w8.cell? ⟨lb, 6, none⟩ = some (.int .i64 0) := (blk_cell HLX.out 6).trans rfl; have hq0 : w8.frozen? ⟨lb, 0, none⟩ = false := blk_frozen HLX.out 0; have hq1 : w8.frozen? ⟨lb, 1, none⟩ = false := blk_frozen HLX.out 1; have hq2 : w8.frozen? ⟨lb, 2, none⟩ = false := blk_frozen HLX.out 2; have hq3 : w8.frozen? ⟨lb, 3, none⟩ = false := blk_frozen HLX.out 3; have hq4 : w8.frozen? ⟨lb, 4, none⟩ = false := blk_frozen HLX.out 4; have hq5 : w8.frozen? ⟨lb, 5, none⟩ = false := blk_frozen HLX.out 5; have hq6 : w8.frozen? ⟨lb, 6, none⟩ = false := blk_frozen HLX.out 6; have hj0 : w8.cell? ⟨w.heap.size, 0, none⟩ = some (.int .u32 id) := (blk_cell HJX.out 0).trans rfl; have hj1 : w8.cell? ⟨w.heap.size, 1, none⟩ = some (.int .u32 km) := (blk_cell HJX.out 1).trans rfl; have hj2 : w8.cell? ⟨w.heap.size, 2, none⟩ = some (.bool inv) := (blk_cell HJX.out 2).trans rfl; have hj3 : w8.cell? ⟨w.heap.size, 3, none⟩ = some (.string mk) := (blk_cell HJX.out 3).trans rfl; have hj4 : w8.cell? ⟨w.heap.size, 4, none⟩ = some (.int .i64 thr) := (blk_cell HJX.out 4).trans rfl; have hj5 : w8.cell? ⟨w.heap.size, 5, none⟩ = some (.int .i64 sil) := (blk_cell HJX.out 5).trans rfl)
                  have HLS := Aside0.mk (last_set (a := none) HBL.out HLX.out HLB.out x)
                  go_wp2
                  go_roundg (gko - 1)
                  case measure =>
                    have h0 := HGO.out
                    have h1 := HI.out
                    have h2 := HCI.out
                    have h3 := HNS.out
                    omega
                  case rel => exact ⟨i + 1, some x, (by first | rfl | rw [ei]), ⟨by
                    have h0 := HGO.out
                    have h1 := HI.out
                    have h2 := HCI.out
                    have h3 := HNS.out
                    omega⟩, ⟨HCS.out, fun y' hy' => by
                    cases hy'
                    exact ⟨HX1.out, HMX.out.1, HMX.out.2.2⟩⟩, ⟨HLS.out.1⟩, ⟨HLS.out.2⟩⟩
                | some y =>
                  have hy := HMY.out y rfl
                  have hy2 := HCK.out.2 y rfl
                  have hx3 := HMX.out.2.2
                  have e7 : decide (wrap64 (x.f3 - y.f3) < thr) = false := by
                    apply decide_eq_false
                    have : wrap64 (x.f3 - y.f3) = x.f3 - y.f3 := by
                      unfold wrap64
                      omega
                    rw [this]
                    omega
                  obtain ⟨Kd9, hKd⟩ := HDF.out y.f2 hy2.2.1 x.f2 HMX.out.1
                  rw [hy.2] at hKd
                  have HD9 := Aside0.mk hKd
                  have e8 : y.f0 = 1 := hy2.1
                  clear hy hy2 hx3 hKd
                  have hx0 : wr.cell? ⟨xb, 0, none⟩ = some (.int .i64 x.f0) := (blk_cell HX.out 0).trans rfl; have hx1 : wr.cell? ⟨xb, 1, none⟩ = some (.int .i64 x.f1) := (blk_cell HX.out 1).trans rfl; have hx2 : wr.cell? ⟨xb, 2, none⟩ = some (.int .i64 x.f2.f0) := (blk_cell HX.out 2).trans rfl; have hx3 : wr.cell? ⟨xb, 3, none⟩ = some (.int .i64 x.f2.f1) := (blk_cell HX.out 3).trans rfl; have hx4 : wr.cell? ⟨xb, 4, none⟩ = some (.int .i64 x.f2.f2) := (blk_cell HX.out 4).trans rfl; have hx5 : wr.cell? ⟨xb, 5, none⟩ = some (.string x.f2.f3) := (blk_cell HX.out 5).trans rfl; have hx6 : wr.cell? ⟨xb, 6, none⟩ = some (.int .i64 x.f3) := (blk_cell HX.out 6).trans rfl
                  have hl0 : wr.cell? ⟨lb, 0, none⟩ = some (.int .i64 y.f0) := (blk_cell HLX.out 0).trans rfl; have hl1 : wr.cell? ⟨lb, 1, none⟩ = some (.int .i64 y.f1) := (blk_cell HLX.out 1).trans rfl; have hl2 : wr.cell? ⟨lb, 2, none⟩ = some (.int .i64 y.f2.f0) := (blk_cell HLX.out 2).trans rfl; have hl3 : wr.cell? ⟨lb, 3, none⟩ = some (.int .i64 y.f2.f1) := (blk_cell HLX.out 3).trans rfl; have hl4 : wr.cell? ⟨lb, 4, none⟩ = some (.int .i64 y.f2.f2) := (blk_cell HLX.out 4).trans rfl; have hl5 : wr.cell? ⟨lb, 5, none⟩ = some (.string y.f2.f3) := (blk_cell HLX.out 5).trans rfl; have hl6 : wr.cell? ⟨lb, 6, none⟩ = some (.int .i64 y.f3) := (blk_cell HLX.out 6).trans rfl
                  have hq0 : wr.frozen? ⟨lb, 0, none⟩ = false := blk_frozen HLX.out 0
                  have hq1 : wr.frozen? ⟨lb, 1, none⟩ = false := blk_frozen HLX.out 1
                  have hq2 : wr.frozen? ⟨lb, 2, none⟩ = false := blk_frozen HLX.out 2
                  have hq3 : wr.frozen? ⟨lb, 3, none⟩ = false := blk_frozen HLX.out 3
                  have hq4 : wr.frozen? ⟨lb, 4, none⟩ = false := blk_frozen HLX.out 4
                  have hq5 : wr.frozen? ⟨lb, 5, none⟩ = false := blk_frozen HLX.out 5
                  have hq6 : wr.frozen? ⟨lb, 6, none⟩ = false := blk_frozen HLX.out 6
                  have hj0 : wr.cell? ⟨w.heap.size, 0, none⟩ = some (.int .u32 id) := (blk_cell HJX.out 0).trans rfl; have hj1 : wr.cell? ⟨w.heap.size, 1, none⟩ = some (.int .u32 km) := (blk_cell HJX.out 1).trans rfl; have hj2 : wr.cell? ⟨w.heap.size, 2, none⟩ = some (.bool inv) := (blk_cell HJX.out 2).trans rfl; have hj3 : wr.cell? ⟨w.heap.size, 3, none⟩ = some (.string mk) := (blk_cell HJX.out 3).trans rfl; have hj4 : wr.cell? ⟨w.heap.size, 4, none⟩ = some (.int .i64 thr) := (blk_cell HJX.out 4).trans rfl; have hj5 : wr.cell? ⟨w.heap.size, 5, none⟩ = some (.int .i64 sil) := (blk_cell HJX.out 5).trans rfl
                  go_upto_region 19 with (first | (go_at_call 15; (with_reducible refine HEH.out.mono ?_); rintro e w8 ⟨rfl, hb⟩; clear hx0 hx1 hx2 hx3 hx4 hx5 hx6 hl0 hl1 hl2 hl3 hl4 hl5 hl6 hq0 hq1 hq2 hq3 hq4 hq5 hq6 hj0 hj1 hj2 hj3 hj4 hj5; have n0_ := Aside0.mk (below_step HBL.out hb); have n1_ := Aside0.mk (blk_below HLX.out hb); have n2_ := Aside0.mk (blk_below HX.out hb); have n3_ := Aside0.mk (blk_below HJX.out hb); clear HBL HLX HX HJX hb; have HBL := n0_; have HLX := n1_; have HX := n2_; have HJX := n3_; clear n0_ n1_ n2_ n3_; have hx0 : w8.cell? ⟨xb, 0, none⟩ = some (.int .i64 x.f0) := (blk_cell HX.out 0).trans rfl; have hx1 : w8.cell? ⟨xb, 1, none⟩ = some (.int .i64 x.f1) := (blk_cell HX.out 1).trans rfl; have hx2 : w8.cell? ⟨xb, 2, none⟩ = some (.int .i64 x.f2.f0) := (blk_cell HX.out 2).trans rfl; have hx3 : w8.cell? ⟨xb, 3, none⟩ = some (.int .i64 x.f2.f1) := (blk_cell HX.out 3).trans rfl; have hx4 : w8.cell? ⟨xb, 4, none⟩ = some (.int .i64 x.f2.f2) := (blk_cell HX.out 4).trans rfl; have hx5 : w8.cell? ⟨xb, 5, none⟩ = some (.string x.f2.f3) := (blk_cell HX.out 5).trans rfl; have hx6 : w8.cell? ⟨xb, 6, none⟩ = some (.int .i64 x.f3) := (blk_cell HX.out 6).trans rfl; have hl0 : w8.cell? ⟨lb, 0, none⟩ = some (.int .i64 y.f0) := (blk_cell HLX.out 0).trans rfl; have hl1 : w8.cell? ⟨lb, 1, none⟩ = some (.int .i64 y.f1) := (blk_cell HLX.out 1).trans rfl; have hl2 : w8.cell? ⟨lb, 2, none⟩ = some (.int .i64 y.f2.f0) := (blk_cell HLX.out 2).trans rfl; have hl3 : w8.cell? ⟨lb, 3, none⟩ = some (.int .i64 y.f2.f1) := (blk_cell HLX.out 3).trans rfl; have hl4 : w8.cell? ⟨lb, 4, none⟩ = some (.int .i64 y.f2.f2) := (blk_cell HLX.out 4).trans rfl; have hl5 : w8.cell? ⟨lb, 5, none⟩ = some (.string y.f2.f3) := (blk_cell HLX.out 5).trans rfl; have hl6 : w8.cell? ⟨lb, 6, none⟩ = some (.int .i64 y.f3) := (blk_cell HLX.out 6).trans rfl; have hq0 : w8.frozen? ⟨lb, 0, none⟩ = false := blk_frozen HLX.out 0; have hq1 : w8.frozen? ⟨lb, 1, none⟩ = false := blk_frozen HLX.out 1; have hq2 : w8.frozen? ⟨lb, 2, none⟩ = false := blk_frozen HLX.out 2; have hq3 : w8.frozen? ⟨lb, 3, none⟩ = false := blk_frozen HLX.out 3; have hq4 : w8.frozen? ⟨lb, 4, none⟩ = false := blk_frozen HLX.out 4; have hq5 : w8.frozen? ⟨lb, 5, none⟩ = false := blk_frozen HLX.out 5; have hq6 : w8.frozen? ⟨lb, 6, none⟩ = false := blk_frozen HLX.out 6; have hj0 : w8.cell? ⟨w.heap.size, 0, none⟩ = some (.int .u32 id) := (blk_cell HJX.out 0).trans rfl; have hj1 : w8.cell? ⟨w.heap.size, 1, none⟩ = some (.int .u32 km) := (blk_cell HJX.out 1).trans rfl; have hj2 : w8.cell? ⟨w.heap.size, 2, none⟩ = some (.bool inv) := (blk_cell HJX.out 2).trans rfl; have hj3 : w8.cell? ⟨w.heap.size, 3, none⟩ = some (.string mk) := (blk_cell HJX.out 3).trans rfl; have hj4 : w8.cell? ⟨w.heap.size, 4, none⟩ = some (.int .i64 thr) := (blk_cell HJX.out 4).trans rfl; have hj5 : w8.cell? ⟨w.heap.size, 5, none⟩ = some (.int .i64 sil) := (blk_cell HJX.out 5).trans rfl) | (go_at_call 16; (with_reducible refine (signalboxref23_Differ.calls Kd9 id km inv mk thr sil y.f2.f0 y.f2.f1 y.f2.f2 y.f2.f3 x.f2.f0 x.f2.f1 x.f2.f2 x.f2.f3 true _ HD9.out).mono ?_); rintro e w9 ⟨rfl, hb⟩; clear hx0 hx1 hx2 hx3 hx4 hx5 hx6 hl0 hl1 hl2 hl3 hl4 hl5 hl6 hq0 hq1 hq2 hq3 hq4 hq5 hq6 hj0 hj1 hj2 hj3 hj4 hj5; have n0_ := Aside0.mk (below_step HBL.out hb); have n1_ := Aside0.mk (blk_below HLX.out hb); have n2_ := Aside0.mk (blk_below HX.out hb); have n3_ := Aside0.mk (blk_below HJX.out hb); clear HBL HLX HX HJX hb; have HBL := n0_; have HLX := n1_; have HX := n2_; have HJX := n3_; clear n0_ n1_ n2_ n3_; have hx0 : w9.cell? ⟨xb, 0, none⟩ = some (.int .i64 x.f0) := (blk_cell HX.out 0).trans rfl; have hx1 : w9.cell? ⟨xb, 1, none⟩ = some (.int .i64 x.f1) := (blk_cell HX.out 1).trans rfl; have hx2 : w9.cell? ⟨xb, 2, none⟩ = some (.int .i64 x.f2.f0) := (blk_cell HX.out 2).trans rfl; have hx3 : w9.cell? ⟨xb, 3, none⟩ = some (.int .i64 x.f2.f1) := (blk_cell HX.out 3).trans rfl; have hx4 : w9.cell? ⟨xb, 4, none⟩ = some (.int .i64 x.f2.f2) := (blk_cell HX.out 4).trans rfl; have hx5 : w9.cell? ⟨xb, 5, none⟩ = some (.string x.f2.f3) := (blk_cell HX.out 5).trans rfl; have hx6 : w9.cell? ⟨xb, 6, none⟩ = some (.int .i64 x.f3) := (blk_cell HX.out 6).trans rfl; have hl0 : w9.cell? ⟨lb, 0, none⟩ = some (.int .i64 y.f0) := (blk_cell HLX.out 0).trans rfl; have hl1 : w9.cell? ⟨lb, 1, none⟩ = some (.int .i64 y.f1) := (blk_cell HLX.out 1).trans rfl; have hl2 : w9.cell? ⟨lb, 2, none⟩ = some (.int .i64 y.f2.f0) := (blk_cell HLX.out 2).trans rfl; have hl3 : w9.cell? ⟨lb, 3, none⟩ = some (.int .i64 y.f2.f1) := (blk_cell HLX.out 3).trans rfl; have hl4 : w9.cell? ⟨lb, 4, none⟩ = some (.int .i64 y.f2.f2) := (blk_cell HLX.out 4).trans rfl; have hl5 : w9.cell? ⟨lb, 5, none⟩ = some (.string y.f2.f3) := (blk_cell HLX.out 5).trans rfl; have hl6 : w9.cell? ⟨lb, 6, none⟩ = some (.int .i64 y.f3) := (blk_cell HLX.out 6).trans rfl; have hq0 : w9.frozen? ⟨lb, 0, none⟩ = false := blk_frozen HLX.out 0; have hq1 : w9.frozen? ⟨lb, 1, none⟩ = false := blk_frozen HLX.out 1; have hq2 : w9.frozen? ⟨lb, 2, none⟩ = false := blk_frozen HLX.out 2; have hq3 : w9.frozen? ⟨lb, 3, none⟩ = false := blk_frozen HLX.out 3; have hq4 : w9.frozen? ⟨lb, 4, none⟩ = false := blk_frozen HLX.out 4; have hq5 : w9.frozen? ⟨lb, 5, none⟩ = false := blk_frozen HLX.out 5; have hq6 : w9.frozen? ⟨lb, 6, none⟩ = false := blk_frozen HLX.out 6; have hj0 : w9.cell? ⟨w.heap.size, 0, none⟩ = some (.int .u32 id) := (blk_cell HJX.out 0).trans rfl; have hj1 : w9.cell? ⟨w.heap.size, 1, none⟩ = some (.int .u32 km) := (blk_cell HJX.out 1).trans rfl; have hj2 : w9.cell? ⟨w.heap.size, 2, none⟩ = some (.bool inv) := (blk_cell HJX.out 2).trans rfl; have hj3 : w9.cell? ⟨w.heap.size, 3, none⟩ = some (.string mk) := (blk_cell HJX.out 3).trans rfl; have hj4 : w9.cell? ⟨w.heap.size, 4, none⟩ = some (.int .i64 thr) := (blk_cell HJX.out 4).trans rfl; have hj5 : w9.cell? ⟨w.heap.size, 5, none⟩ = some (.int .i64 sil) := (blk_cell HJX.out 5).trans rfl))
                  have HLS := Aside0.mk (last_set (a := some y) HBL.out HLX.out HLB.out x)
                  go_wp2
                  go_roundg (gko - 1)
                  case measure =>
                    have h0 := HGO.out
                    have h1 := HI.out
                    have h2 := HCI.out
                    have h3 := HNS.out
                    omega
                  case rel => exact ⟨i + 1, some x, (by first | rfl | rw [ei]), ⟨by
                    have h0 := HGO.out
                    have h1 := HI.out
                    have h2 := HCI.out
                    have h3 := HNS.out
                    omega⟩, ⟨HCS.out, fun y' hy' => by
                    cases hy'
                    exact ⟨HX1.out, HMX.out.1, HMX.out.2.2⟩⟩, ⟨HLS.out.1⟩, ⟨HLS.out.2⟩⟩
          · have e1 : (x.f0 != 1) = true := bne_iff_ne.mpr c1
            have HCS := Aside0.mk (show Ck l1 mt df thr (ns.drop (i + 1).toNat) a bl from by
              have h1 := HCX.out
              unfold Ck at h1
              rw [if_neg c1] at h1
              exact h1)
            have hx0 : W6.cell? ⟨xb, 0, none⟩ = some (.int .i64 x.f0) := (blk_cell HX.out 0).trans rfl; have hx1 : W6.cell? ⟨xb, 1, none⟩ = some (.int .i64 x.f1) := (blk_cell HX.out 1).trans rfl; have hx2 : W6.cell? ⟨xb, 2, none⟩ = some (.int .i64 x.f2.f0) := (blk_cell HX.out 2).trans rfl; have hx3 : W6.cell? ⟨xb, 3, none⟩ = some (.int .i64 x.f2.f1) := (blk_cell HX.out 3).trans rfl; have hx4 : W6.cell? ⟨xb, 4, none⟩ = some (.int .i64 x.f2.f2) := (blk_cell HX.out 4).trans rfl; have hx5 : W6.cell? ⟨xb, 5, none⟩ = some (.string x.f2.f3) := (blk_cell HX.out 5).trans rfl; have hx6 : W6.cell? ⟨xb, 6, none⟩ = some (.int .i64 x.f3) := (blk_cell HX.out 6).trans rfl
            go_wp2
            go_roundg (gk - 1)
            case measure =>
              have h1 := HI.out
              have h2 := HCI.out
              have h3 := HNS.out
              omega
            case rel => exact ⟨i + 1, a, (by first | rfl | rw [ei]), ⟨by
              have h1 := HI.out
              have h2 := HCI.out
              have h3 := HNS.out
              omega⟩, ⟨HCS.out, HCK.out.2⟩, HBL, HL⟩
        · have ci1 : decide (i < (ns.length : Int)) = false := decide_eq_false ci
          have hab : a = bl := by
            have h1 := HCK.out.1
            rw [List.drop_eq_nil_of_le (by omega)] at h1
            exact h1
          subst hab
          clear ci
          have HJX := Aside0.mk (blk_below HJ.out HBL.out)
          have HKX := Aside0.mk (blk_below HK.out HBL.out)
          have HAX := Aside0.mk (HA.out.call HBL.out)
          have HBX := Aside0.mk (below_step HB.out HBL.out)
          clear HA HK HJ HB HBL
          go_upto_region 21 with (fail)
          have HLX := HL
          clear HL
          cases a with
          | none =>
            have HTW := Aside0.mk (told_n base g s wr HAX.out (HT.out.none_ rfl))
            have hhn : s.held = none := by
              cases hh : s.held with
              | none => rfl
              | some f =>
                obtain ⟨_, y, hy, _⟩ := HT.out.held f hh
                cases hy
            have HHN := Aside0.mk hhn
            clear hhn
            go_upto_region 22 with (go_at_call 17; (with_reducible refine HTW.out.mono ?_); rintro e w10 ⟨rfl, hb⟩; have n0_ := Aside0.mk (below_step HBX.out hb); have n1_ := Aside0.mk (HAX.out.call hb); have n2_ := Aside0.mk (blk_below HJX.out hb); have n3_ := Aside0.mk (blk_below HKX.out hb); have n4_ := Aside0.mk (blk_below HLX.out hb); clear HBX HAX HJX HKX HLX hb; have HBX := n0_; have HAX := n1_; have HJX := n2_; have HKX := n3_; have HLX := n4_; clear n0_ n1_ n2_ n3_ n4_)
            have HTB := Aside0.mk (blk_new w10 (Obj.cells #[.int .i64 0, .int .i64 0, .int .i64 0, .string (⟨#[]⟩ : ByteArray)] 33 (0, 0)))
            have hb := below_alloc (Below.refl w10.heap.size w10) (Obj.cells #[.int .i64 0, .int .i64 0, .int .i64 0, .string (⟨#[]⟩ : ByteArray)] 33 (0, 0))
            have n0_ := Aside0.mk (below_step HBX.out hb); have n1_ := Aside0.mk (HAX.out.call hb); have n2_ := Aside0.mk (blk_below HJX.out hb); have n3_ := Aside0.mk (blk_below HKX.out hb); have n4_ := Aside0.mk (blk_below HLX.out hb); clear HBX HAX HJX HKX HLX hb; have HBX := n0_; have HAX := n1_; have HJX := n2_; have HKX := n3_; have HLX := n4_; clear n0_ n1_ n2_ n3_ n4_
            generalize (w10.alloc (Obj.cells #[.int .i64 0, .int .i64 0, .int .i64 0, .string (⟨#[]⟩ : ByteArray)] 33 (0, 0))) = W10 at HBX HAX HJX HKX HLX HTB ⊢
            generalize w10.heap.size = tb at HTB ⊢
            have hl0 : W10.cell? ⟨lb, 0, none⟩ = some (.int .i64 0) := (blk_cell HLX.out 0).trans rfl; have hl1 : W10.cell? ⟨lb, 1, none⟩ = some (.int .i64 0) := (blk_cell HLX.out 1).trans rfl; have hl2 : W10.cell? ⟨lb, 2, none⟩ = some (.int .i64 0) := (blk_cell HLX.out 2).trans rfl; have hl3 : W10.cell? ⟨lb, 3, none⟩ = some (.int .i64 0) := (blk_cell HLX.out 3).trans rfl; have hl4 : W10.cell? ⟨lb, 4, none⟩ = some (.int .i64 0) := (blk_cell HLX.out 4).trans rfl; have hl5 : W10.cell? ⟨lb, 5, none⟩ = some (.string (⟨#[]⟩ : ByteArray)) := (blk_cell HLX.out 5).trans rfl; have hl6 : W10.cell? ⟨lb, 6, none⟩ = some (.int .i64 0) := (blk_cell HLX.out 6).trans rfl
            have ht0 : W10.cell? ⟨tb, 0, none⟩ = some (.int .i64 0) := (blk_cell HTB.out 0).trans rfl; have ht1 : W10.cell? ⟨tb, 1, none⟩ = some (.int .i64 0) := (blk_cell HTB.out 1).trans rfl; have ht2 : W10.cell? ⟨tb, 2, none⟩ = some (.int .i64 0) := (blk_cell HTB.out 2).trans rfl; have ht3 : W10.cell? ⟨tb, 3, none⟩ = some (.string (⟨#[]⟩ : ByteArray)) := (blk_cell HTB.out 3).trans rfl
            have HHW := Aside0.mk (held_n base g s W10 HAX.out HHN.out)
            go_upto_region 25 with (go_at_call 18; (with_reducible refine HHW.out.mono ?_); rintro e w11 ⟨rfl, hb⟩; clear hl0 hl1 hl2 hl3 hl4 hl5 hl6 ht0 ht1 ht2 ht3; have n0_ := Aside0.mk (below_step HBX.out hb); have n1_ := Aside0.mk (HAX.out.call hb); have n2_ := Aside0.mk (blk_below HJX.out hb); have n3_ := Aside0.mk (blk_below HKX.out hb); have n4_ := Aside0.mk (blk_below HLX.out hb); have n5_ := Aside0.mk (blk_below HTB.out hb); clear HBX HAX HJX HKX HLX HTB hb; have HBX := n0_; have HAX := n1_; have HJX := n2_; have HKX := n3_; have HLX := n4_; have HTB := n5_; clear n0_ n1_ n2_ n3_ n4_ n5_)
            have HHB := Aside0.mk (blk_new w11 (Obj.cells #[.int .i64 0, .int .i64 0, .int .i64 0, .string (⟨#[]⟩ : ByteArray)] 33 (0, 0)))
            have hb := below_alloc (Below.refl w11.heap.size w11) (Obj.cells #[.int .i64 0, .int .i64 0, .int .i64 0, .string (⟨#[]⟩ : ByteArray)] 33 (0, 0))
            have n0_ := Aside0.mk (below_step HBX.out hb); have n1_ := Aside0.mk (HAX.out.call hb); have n2_ := Aside0.mk (blk_below HJX.out hb); have n3_ := Aside0.mk (blk_below HKX.out hb); have n4_ := Aside0.mk (blk_below HLX.out hb); have n5_ := Aside0.mk (blk_below HTB.out hb); clear HBX HAX HJX HKX HLX HTB hb; have HBX := n0_; have HAX := n1_; have HJX := n2_; have HKX := n3_; have HLX := n4_; have HTB := n5_; clear n0_ n1_ n2_ n3_ n4_ n5_
            generalize (w11.alloc (Obj.cells #[.int .i64 0, .int .i64 0, .int .i64 0, .string (⟨#[]⟩ : ByteArray)] 33 (0, 0))) = W11 at HBX HAX HJX HKX HLX HTB HHB ⊢
            generalize w11.heap.size = hb_ at HHB ⊢
            go_wp2_with (first | (go_at_call 8; (with_reducible refine (alive_ok _).mono ?_); rintro e w90 ⟨rfl, hb⟩; have n0_ := Aside0.mk (below_step HBX.out hb); clear HBX hb; have HBX := n0_; clear n0_))
            go_ret
            exact ⟨rfl, HBX.out⟩
          | some y =>
            obtain ⟨k1, k2, k3, k4, k5, k6⟩ := HT.out.some_ y rfl
            have hcm := (HT.out.came (fun h => by cases h)).1
            obtain ⟨Kd8, hKd⟩ := HDF.out y.f2 k4 cm hcm
            have e8 : y.f0 = 1 := k3
            have HKD := Aside0.mk hKd
            have HTW := Aside0.mk (told_s base g s wr HAX.out k1)
            clear k1 k2 k3 k4 k5 k6 hcm hKd
            go_upto_region 22 with (go_at_call 17; (with_reducible refine HTW.out.mono ?_); rintro e w10 ⟨rfl, hb⟩; have n0_ := Aside0.mk (below_step HBX.out hb); have n1_ := Aside0.mk (HAX.out.call hb); have n2_ := Aside0.mk (blk_below HJX.out hb); have n3_ := Aside0.mk (blk_below HKX.out hb); have n4_ := Aside0.mk (blk_below HLX.out hb); clear HBX HAX HJX HKX HLX hb; have HBX := n0_; have HAX := n1_; have HJX := n2_; have HKX := n3_; have HLX := n4_; clear n0_ n1_ n2_ n3_ n4_)
            have HTB := Aside0.mk (blk_new w10 (Obj.cells #[.int .i64 y.f2.f0, .int .i64 y.f2.f1, .int .i64 y.f2.f2, .string y.f2.f3] 33 (0, 0)))
            have hb := below_alloc (Below.refl w10.heap.size w10) (Obj.cells #[.int .i64 y.f2.f0, .int .i64 y.f2.f1, .int .i64 y.f2.f2, .string y.f2.f3] 33 (0, 0))
            have n0_ := Aside0.mk (below_step HBX.out hb); have n1_ := Aside0.mk (HAX.out.call hb); have n2_ := Aside0.mk (blk_below HJX.out hb); have n3_ := Aside0.mk (blk_below HKX.out hb); have n4_ := Aside0.mk (blk_below HLX.out hb); clear HBX HAX HJX HKX HLX hb; have HBX := n0_; have HAX := n1_; have HJX := n2_; have HKX := n3_; have HLX := n4_; clear n0_ n1_ n2_ n3_ n4_
            generalize (w10.alloc (Obj.cells #[.int .i64 y.f2.f0, .int .i64 y.f2.f1, .int .i64 y.f2.f2, .string y.f2.f3] 33 (0, 0))) = W10 at HBX HAX HJX HKX HLX HTB ⊢
            generalize w10.heap.size = tb at HTB ⊢
            have hl0 : W10.cell? ⟨lb, 0, none⟩ = some (.int .i64 y.f0) := (blk_cell HLX.out 0).trans rfl; have hl1 : W10.cell? ⟨lb, 1, none⟩ = some (.int .i64 y.f1) := (blk_cell HLX.out 1).trans rfl; have hl2 : W10.cell? ⟨lb, 2, none⟩ = some (.int .i64 y.f2.f0) := (blk_cell HLX.out 2).trans rfl; have hl3 : W10.cell? ⟨lb, 3, none⟩ = some (.int .i64 y.f2.f1) := (blk_cell HLX.out 3).trans rfl; have hl4 : W10.cell? ⟨lb, 4, none⟩ = some (.int .i64 y.f2.f2) := (blk_cell HLX.out 4).trans rfl; have hl5 : W10.cell? ⟨lb, 5, none⟩ = some (.string y.f2.f3) := (blk_cell HLX.out 5).trans rfl; have hl6 : W10.cell? ⟨lb, 6, none⟩ = some (.int .i64 y.f3) := (blk_cell HLX.out 6).trans rfl
            have ht0 : W10.cell? ⟨tb, 0, none⟩ = some (.int .i64 y.f2.f0) := (blk_cell HTB.out 0).trans rfl; have ht1 : W10.cell? ⟨tb, 1, none⟩ = some (.int .i64 y.f2.f1) := (blk_cell HTB.out 1).trans rfl; have ht2 : W10.cell? ⟨tb, 2, none⟩ = some (.int .i64 y.f2.f2) := (blk_cell HTB.out 2).trans rfl; have ht3 : W10.cell? ⟨tb, 3, none⟩ = some (.string y.f2.f3) := (blk_cell HTB.out 3).trans rfl
            cases hh : s.held with
            | none =>
              have hfr := HT.out.free hh y rfl
              have HFR := Aside0.mk (HKD.out.trans (congrArg some hfr))
              have HHW := Aside0.mk (held_n base g s W10 HAX.out hh)
              clear hfr hh
              go_upto_region 25 with (go_at_call 18; (with_reducible refine HHW.out.mono ?_); rintro e w11 ⟨rfl, hb⟩; clear hl0 hl1 hl2 hl3 hl4 hl5 hl6 ht0 ht1 ht2 ht3; have n0_ := Aside0.mk (below_step HBX.out hb); have n1_ := Aside0.mk (HAX.out.call hb); have n2_ := Aside0.mk (blk_below HJX.out hb); have n3_ := Aside0.mk (blk_below HKX.out hb); have n4_ := Aside0.mk (blk_below HLX.out hb); have n5_ := Aside0.mk (blk_below HTB.out hb); clear HBX HAX HJX HKX HLX HTB hb; have HBX := n0_; have HAX := n1_; have HJX := n2_; have HKX := n3_; have HLX := n4_; have HTB := n5_; clear n0_ n1_ n2_ n3_ n4_ n5_)
              have HHB := Aside0.mk (blk_new w11 (Obj.cells #[.int .i64 0, .int .i64 0, .int .i64 0, .string (⟨#[]⟩ : ByteArray)] 33 (0, 0)))
              have hb := below_alloc (Below.refl w11.heap.size w11) (Obj.cells #[.int .i64 0, .int .i64 0, .int .i64 0, .string (⟨#[]⟩ : ByteArray)] 33 (0, 0))
              have n0_ := Aside0.mk (below_step HBX.out hb); have n1_ := Aside0.mk (HAX.out.call hb); have n2_ := Aside0.mk (blk_below HJX.out hb); have n3_ := Aside0.mk (blk_below HKX.out hb); have n4_ := Aside0.mk (blk_below HLX.out hb); have n5_ := Aside0.mk (blk_below HTB.out hb); clear HBX HAX HJX HKX HLX HTB hb; have HBX := n0_; have HAX := n1_; have HJX := n2_; have HKX := n3_; have HLX := n4_; have HTB := n5_; clear n0_ n1_ n2_ n3_ n4_ n5_
              generalize (w11.alloc (Obj.cells #[.int .i64 0, .int .i64 0, .int .i64 0, .string (⟨#[]⟩ : ByteArray)] 33 (0, 0))) = W11 at HBX HAX HJX HKX HLX HTB HHB ⊢
              generalize w11.heap.size = hb_ at HHB ⊢
              have ht0 : W11.cell? ⟨tb, 0, none⟩ = some (.int .i64 y.f2.f0) := (blk_cell HTB.out 0).trans rfl; have ht1 : W11.cell? ⟨tb, 1, none⟩ = some (.int .i64 y.f2.f1) := (blk_cell HTB.out 1).trans rfl; have ht2 : W11.cell? ⟨tb, 2, none⟩ = some (.int .i64 y.f2.f2) := (blk_cell HTB.out 2).trans rfl; have ht3 : W11.cell? ⟨tb, 3, none⟩ = some (.string y.f2.f3) := (blk_cell HTB.out 3).trans rfl
              have hk0 : W11.cell? ⟨kb, 0, none⟩ = some (.int .i64 cm.f0) := (blk_cell HKX.out 0).trans rfl; have hk1 : W11.cell? ⟨kb, 1, none⟩ = some (.int .i64 cm.f1) := (blk_cell HKX.out 1).trans rfl; have hk2 : W11.cell? ⟨kb, 2, none⟩ = some (.int .i64 cm.f2) := (blk_cell HKX.out 2).trans rfl; have hk3 : W11.cell? ⟨kb, 3, none⟩ = some (.string cm.f3) := (blk_cell HKX.out 3).trans rfl
              have hj0 : W11.cell? ⟨w.heap.size, 0, none⟩ = some (.int .u32 id) := (blk_cell HJX.out 0).trans rfl; have hj1 : W11.cell? ⟨w.heap.size, 1, none⟩ = some (.int .u32 km) := (blk_cell HJX.out 1).trans rfl; have hj2 : W11.cell? ⟨w.heap.size, 2, none⟩ = some (.bool inv) := (blk_cell HJX.out 2).trans rfl; have hj3 : W11.cell? ⟨w.heap.size, 3, none⟩ = some (.string mk) := (blk_cell HJX.out 3).trans rfl; have hj4 : W11.cell? ⟨w.heap.size, 4, none⟩ = some (.int .i64 thr) := (blk_cell HJX.out 4).trans rfl; have hj5 : W11.cell? ⟨w.heap.size, 5, none⟩ = some (.int .i64 sil) := (blk_cell HJX.out 5).trans rfl
              have HDW := Aside0.mk (signalboxref23_Differ.calls Kd8 id km inv mk thr sil y.f2.f0 y.f2.f1 y.f2.f2 y.f2.f3 cm.f0 cm.f1 cm.f2 cm.f3 false W11 HFR.out)
              go_wp2_with (first | (go_at_call 16; (with_reducible refine HDW.out.mono ?_); rintro e w12 ⟨rfl, hb⟩; have n0_ := Aside0.mk (below_step HBX.out hb); have n1_ := Aside0.mk (HAX.out.call hb); have n2_ := Aside0.mk (blk_below HJX.out hb); clear HBX HAX HJX hb; have HBX := n0_; have HAX := n1_; have HJX := n2_; clear n0_ n1_ n2_) | (go_at_call 8; (with_reducible refine (alive_ok _).mono ?_); rintro e w90 ⟨rfl, hb⟩; have n0_ := Aside0.mk (below_step HBX.out hb); clear HBX hb; have HBX := n0_; clear n0_))
              go_ret
              exact ⟨rfl, HBX.out⟩
            | some f =>
              obtain ⟨ef, y', hy', hd'⟩ := HT.out.held f hh
              cases hy'
              subst ef
              have HFR := Aside0.mk (HKD.out.trans (congrArg some hd'))
              have HHW := Aside0.mk (held_s base g s W10 HAX.out hh)
              clear hd' hh
              go_upto_region 25 with (go_at_call 18; (with_reducible refine HHW.out.mono ?_); rintro e w11 ⟨rfl, hb⟩; clear hl0 hl1 hl2 hl3 hl4 hl5 hl6 ht0 ht1 ht2 ht3; have n0_ := Aside0.mk (below_step HBX.out hb); have n1_ := Aside0.mk (HAX.out.call hb); have n2_ := Aside0.mk (blk_below HJX.out hb); have n3_ := Aside0.mk (blk_below HKX.out hb); have n4_ := Aside0.mk (blk_below HLX.out hb); have n5_ := Aside0.mk (blk_below HTB.out hb); clear HBX HAX HJX HKX HLX HTB hb; have HBX := n0_; have HAX := n1_; have HJX := n2_; have HKX := n3_; have HLX := n4_; have HTB := n5_; clear n0_ n1_ n2_ n3_ n4_ n5_)
              have HHB := Aside0.mk (blk_new w11 (Obj.cells #[.int .i64 cm.f0, .int .i64 cm.f1, .int .i64 cm.f2, .string cm.f3] 33 (0, 0)))
              have hb := below_alloc (Below.refl w11.heap.size w11) (Obj.cells #[.int .i64 cm.f0, .int .i64 cm.f1, .int .i64 cm.f2, .string cm.f3] 33 (0, 0))
              have n0_ := Aside0.mk (below_step HBX.out hb); have n1_ := Aside0.mk (HAX.out.call hb); have n2_ := Aside0.mk (blk_below HJX.out hb); have n3_ := Aside0.mk (blk_below HKX.out hb); have n4_ := Aside0.mk (blk_below HLX.out hb); have n5_ := Aside0.mk (blk_below HTB.out hb); clear HBX HAX HJX HKX HLX HTB hb; have HBX := n0_; have HAX := n1_; have HJX := n2_; have HKX := n3_; have HLX := n4_; have HTB := n5_; clear n0_ n1_ n2_ n3_ n4_ n5_
              generalize (w11.alloc (Obj.cells #[.int .i64 cm.f0, .int .i64 cm.f1, .int .i64 cm.f2, .string cm.f3] 33 (0, 0))) = W11 at HBX HAX HJX HKX HLX HTB HHB ⊢
              generalize w11.heap.size = hb_ at HHB ⊢
              have ht0 : W11.cell? ⟨tb, 0, none⟩ = some (.int .i64 y.f2.f0) := (blk_cell HTB.out 0).trans rfl; have ht1 : W11.cell? ⟨tb, 1, none⟩ = some (.int .i64 y.f2.f1) := (blk_cell HTB.out 1).trans rfl; have ht2 : W11.cell? ⟨tb, 2, none⟩ = some (.int .i64 y.f2.f2) := (blk_cell HTB.out 2).trans rfl; have ht3 : W11.cell? ⟨tb, 3, none⟩ = some (.string y.f2.f3) := (blk_cell HTB.out 3).trans rfl
              have hk0 : W11.cell? ⟨kb, 0, none⟩ = some (.int .i64 cm.f0) := (blk_cell HKX.out 0).trans rfl; have hk1 : W11.cell? ⟨kb, 1, none⟩ = some (.int .i64 cm.f1) := (blk_cell HKX.out 1).trans rfl; have hk2 : W11.cell? ⟨kb, 2, none⟩ = some (.int .i64 cm.f2) := (blk_cell HKX.out 2).trans rfl; have hk3 : W11.cell? ⟨kb, 3, none⟩ = some (.string cm.f3) := (blk_cell HKX.out 3).trans rfl
              have hh0 : W11.cell? ⟨hb_, 0, none⟩ = some (.int .i64 cm.f0) := (blk_cell HHB.out 0).trans rfl; have hh1 : W11.cell? ⟨hb_, 1, none⟩ = some (.int .i64 cm.f1) := (blk_cell HHB.out 1).trans rfl; have hh2 : W11.cell? ⟨hb_, 2, none⟩ = some (.int .i64 cm.f2) := (blk_cell HHB.out 2).trans rfl; have hh3 : W11.cell? ⟨hb_, 3, none⟩ = some (.string cm.f3) := (blk_cell HHB.out 3).trans rfl
              have hj0 : W11.cell? ⟨w.heap.size, 0, none⟩ = some (.int .u32 id) := (blk_cell HJX.out 0).trans rfl; have hj1 : W11.cell? ⟨w.heap.size, 1, none⟩ = some (.int .u32 km) := (blk_cell HJX.out 1).trans rfl; have hj2 : W11.cell? ⟨w.heap.size, 2, none⟩ = some (.bool inv) := (blk_cell HJX.out 2).trans rfl; have hj3 : W11.cell? ⟨w.heap.size, 3, none⟩ = some (.string mk) := (blk_cell HJX.out 3).trans rfl; have hj4 : W11.cell? ⟨w.heap.size, 4, none⟩ = some (.int .i64 thr) := (blk_cell HJX.out 4).trans rfl; have hj5 : W11.cell? ⟨w.heap.size, 5, none⟩ = some (.int .i64 sil) := (blk_cell HJX.out 5).trans rfl
              have HDW := Aside0.mk (signalboxref23_Differ.calls Kd8 id km inv mk thr sil y.f2.f0 y.f2.f1 y.f2.f2 y.f2.f3 cm.f0 cm.f1 cm.f2 cm.f3 true W11 HFR.out)
              go_wp2_with (first | (go_at_call 16; (with_reducible refine HDW.out.mono ?_); rintro e w12 ⟨rfl, hb⟩; have n0_ := Aside0.mk (below_step HBX.out hb); have n1_ := Aside0.mk (HAX.out.call hb); have n2_ := Aside0.mk (blk_below HJX.out hb); clear HBX HAX HJX hb; have HBX := n0_; have HAX := n1_; have HJX := n2_; clear n0_ n1_ n2_) | (go_at_call 8; (with_reducible refine (alive_ok _).mono ?_); rintro e w90 ⟨rfl, hb⟩; have n0_ := Aside0.mk (below_step HBX.out hb); clear HBX hb; have HBX := n0_; clear n0_))
              go_ret
              exact ⟨rfl, HBX.out⟩

def ok29 (x : S29) : Prop := ((Lit.int .u32 x.f0).wf = true) ∧ ((Lit.int .u32 x.f1).wf = true) ∧ (True)
def ok31 (x : S31) : Prop := (ok29 x.f0) ∧ (x.f1.size ≤ 140737488351232) ∧ ((Lit.int .i64 x.f2).wf = true) ∧ ((Lit.int .i64 x.f3).wf = true)
def ok33 (x : S33) : Prop := ((Lit.int .i64 x.f0).wf = true) ∧ ((Lit.int .i64 x.f1).wf = true) ∧ ((Lit.int .i64 x.f2).wf = true) ∧ (x.f3.size ≤ 140737488351232)
def signalboxlaw23_WatchThrottle.Pure : Prop := ∀ (a0_0 : Int) (a0_1 : Int) (a0_2 : Bool) (a0_3 : ByteArray) (a0_4 : Int) (a0_5 : Int) (l1 : List (S33)) (l2 : List Int), (Lit.int .u32 a0_0).wf = true → (Lit.int .u32 a0_1).wf = true → a0_3.size ≤ 140737488351232 → (Lit.int .i64 a0_4).wf = true → (Lit.int .i64 a0_5).wf = true → l1.length ≤ maxLen → l1.length * 40 ≤ 140737488351232 → ((∀ x ∈ l1, (ok33 x))) → l2.length ≤ maxLen → l2.length * 8 ≤ 140737488351232 → ((∀ x ∈ l2, ((Lit.int .i64 x).wf = true))) → signalboxlaw23_WatchThrottle.f a0_0 a0_1 a0_2 a0_3 a0_4 a0_5 l1 l2 = some true

end Go.Proofs.Ytelplkdbjfkfmaa.PWatchThrottle
