-- Laid by a program of the session over the kit's print. Not trusted: Lean checks it.
import Derived.Test.YtegcifhghjneaaaPMatchWitnessx0
import Derived.Test.YtegcifhghjneaaaPMatchWitnessx1
import Derived.Test.YtegcifhghjneaaaPMatchWitnessx2
namespace Go.Proofs.Ytegcifhghjneaaa.PMatchWitness
open Go.RowKit Go.Proofs.YtegcifhghjneaaaW.PrintWords Go.Proofs.YtegcifhghjneaaaW.PrintLast Go.Proofs.YtegcifhghjneaaaW.PrintMore
attribute [local go_sem] max2_int min2_int max_two min_two max_three min_three max_four min_four   -- for this text's walks alone
set_option linter.unusedVariables false
set_option linter.unusedSimpArgs false

/-! ### match_Witness: function 9 -/
theorem lit_reads (W : World) (g : Nat) (x : S24) (h : W.heap[g]? = some (.cells #[.int .u32 x.f0, .int .u32 x.f1, .bool x.f2] 24 (0, 0))) : Kd.C k24 W (some ⟨g, 0, none⟩) 1 [x] := by
  refine ⟨rfl, by decide, fun _ => ⟨_, rfl, ?_⟩⟩
  intro j p hj
  have hj0 : j = 0 := by
    cases j with
    | zero => rfl
    | succ j => simp at hj
  subst hj0
  have hp : x = p := by simpa using hj
  subst hp
  refine ⟨[.int .u32 x.f0, .int .u32 x.f1, .bool x.f2], rfl, ⟨[.int .u32 x.f0], [.int .u32 x.f1, .bool x.f2], rfl, rfl, [.int .u32 x.f1], [.bool x.f2], rfl, rfl, rfl⟩, ?_⟩
  intro i u hu
  have e : (⟨g, 0, none⟩ : Addr).add (0 * (k24).sz + i) = ⟨g, i, none⟩ := by
    rw [Nat.zero_mul, Nat.zero_add]
    unfold Addr.add
    by_cases hi : i = 0
    · simp [hi]
    · simp [hi]
  rw [e]
  have := blk_cell h i
  rw [this]
  simpa using hu
def mustL (a b : S24) : List (S24) := (if b.f2 = true then [] else [b]) ++ (if a.f2 = true then [a] else [])
def avoidL (a b : S24) : List (S24) := (if b.f2 = true then [b] else []) ++ (if a.f2 = true then [] else [a])
theorem must_eq (a b : S24) : (if a.f2 = true then (if (!b.f2) = true then [] ++ [b] else []) ++ [a] else (if (!b.f2) = true then [] ++ [b] else [])) = mustL a b := by
  unfold mustL
  cases a.f2 <;> cases b.f2 <;> rfl
theorem avoid_eq (a b : S24) : (if a.f2 = true then (if (!b.f2) = true then [] else [] ++ [b]) else (if (!b.f2) = true then [] else [] ++ [b]) ++ [a]) = avoidL a b := by
  unfold avoidL
  cases a.f2 <;> cases b.f2 <;> rfl
theorem must_len (a b : S24) : (mustL a b).length ≤ 2 := by
  unfold mustL
  cases a.f2 <;> cases b.f2 <;> simp
theorem avoid_len (a b : S24) : (avoidL a b).length ≤ 2 := by
  unfold avoidL
  cases a.f2 <;> cases b.f2 <;> simp
def bitv (i : Int) : Int := 2 ^ (31 - i).toNat
def maskv (i : Int) : Int := 4294967296 - 2 ^ (31 - i).toNat
theorem bit_range (i : Int) (h0 : 0 ≤ i) (h1 : i < 32) : 1 ≤ bitv i ∧ bitv i ≤ 2147483648 := by
  have hc : ∀ j : Fin 32, (1 : Int) ≤ 2 ^ (31 - (j.val : Int)).toNat ∧ (2 : Int) ^ (31 - (j.val : Int)).toNat ≤ 2147483648 := by decide
  have := hc ⟨i.toNat, by omega⟩
  dsimp only at this
  rw [show (i.toNat : Int) = i by omega] at this
  exact this
theorem bit_mod (i : Int) (h0 : 0 ≤ i) (h1 : i < 32) : (2 : Int) ^ (31 - i).toNat % 4294967296 = bitv i := by
  have := bit_range i h0 h1
  unfold bitv at this ⊢
  omega
theorem mask_raw (i : Int) (h0 : 0 ≤ i) (h1 : i < 32) : maskv i = Go.bits .xor .u32 (if IntKind.u32.signed = true then -1 else IntKind.u32.max) (IntKind.u32.wrap (bitv i - 1)) := by
  have hc : ∀ j : Fin 32, maskv (j.val : Int) = Go.bits .xor .u32 (if IntKind.u32.signed = true then -1 else IntKind.u32.max) (IntKind.u32.wrap (bitv (j.val : Int) - 1)) := by decide +kernel
  have := hc ⟨i.toNat, by omega⟩
  dsimp only at this
  rw [show (i.toNat : Int) = i by omega] at this
  exact this
def match_Witness.l0 : Nat → List (S24) → List (S24) → Int → Int → Option (Int × Bool)
  | 0, _, _, _, _ => none
  | k + 1, m, v, x, i => if i < 32 then ((match_left.f k (m ++ [⟨x, maskv i, false⟩]) v).bind fun t => if t = true then match_Witness.l0 k m v x (i + 1) else match_Witness.l0 k m v (Go.bits .or .u32 x (bitv i)) (i + 1)) else some (x, true)
def match_Witness.f (k : Nat) (a0_0 : Int) (a0_1 : Int) (a0_2 : Bool) (a1_0 : Int) (a1_1 : Int) (a1_2 : Bool) : Option (Int × Bool) :=
  (match_left.f k (mustL ⟨a0_0, a0_1, a0_2⟩ ⟨a1_0, a1_1, a1_2⟩) (avoidL ⟨a0_0, a0_1, a0_2⟩ ⟨a1_0, a1_1, a1_2⟩)).bind fun t => if t = true then match_Witness.l0 k (mustL ⟨a0_0, a0_1, a0_2⟩ ⟨a1_0, a1_1, a1_2⟩) (avoidL ⟨a0_0, a0_1, a0_2⟩ ⟨a1_0, a1_1, a1_2⟩) 0 0 else some (0, false)
theorem match_Witness.mono_l : ∀ k m v x i, LeO (match_Witness.l0 k m v x i) (match_Witness.l0 (k + 1) m v x i) := by
  intro k
  induction k with
  | zero => intro m v x i r h; simp [match_Witness.l0] at h
  | succ k ih =>
    intro m v x i
    unfold match_Witness.l0
    exact LeO.ite (LeO.bind (match_left.mono _ _ k) (fun _ => LeO.ite (ih _ _ _ _) (ih _ _ _ _))) (LeO.refl _)
theorem match_Witness.mono : ∀ a0 a1 a2 b0 b1 b2 k, LeO (match_Witness.f k a0 a1 a2 b0 b1 b2) (match_Witness.f (k + 1) a0 a1 a2 b0 b1 b2) := by
  intro a0 a1 a2 b0 b1 b2 k
  unfold match_Witness.f
  exact LeO.bind (match_left.mono _ _ k) (fun _ => LeO.ite (match_Witness.mono_l k _ _ _ _) (LeO.refl _))
theorem match_Witness.info : (Try.prog.info? 24).map (fun i => (i.zero, i.size, i.bytes)) = some (some (.agg #[.int .u32 0, .int .u32 0, .bool false]), 3, 12) := by kernel_rfl
theorem own_two {v v1 : Value} {n k : Nat} (hat : v1.ownBlock = v.ownBlock ∨ ∃ b, v1.ownBlock = some b ∧ n ≤ b) (h1 : some k ≠ v.ownBlock) (h2 : k < n) : some k ≠ v1.ownBlock := by
  rcases hat with e | ⟨b, e, hb⟩
  · rw [e]; exact h1
  · rw [e]
    intro h
    have := Option.some.inj h
    omega
/-- What 'put' leaves: one of two lists has one more. -/
def putPost (x : S24) (inn : Bool) (gm ga gz : Nat) (cz : Array Value) (tz : Nat) (M A : List (S24)) (base : Nat) (w0 : World) (e : Ending) (w' : World) : Prop :=
  e = .returned (.tuple #[]) ∧ ∃ vm va : Value, w'.heap[gm]? = some (.cells #[vm] 41 (0, 0)) ∧ w'.heap[ga]? = some (.cells #[va] 41 (0, 0)) ∧ Kd.R k24 24 w' base (fun k => some k ≠ va.ownBlock ∧ k ≠ gz) vm (if inn = true then M ++ [x] else M) ∧ Kd.R k24 24 w' base (fun k => some k ≠ vm.ownBlock ∧ k ≠ gz) va (if inn = true then A else A ++ [x]) ∧ Below base w0 w' ∧ w'.heap[gz]? = some (.cells cz tz (0, 0))
set_option maxRecDepth 1000000 in
set_option maxHeartbeats 8000000 in
theorem put1 (x : S24) (inn : Bool) (gm ga gz : Nat) (cz : Array Value) (tz : Nat) (vm va : Value) (M A : List (S24)) (base : Nat) (w0 W : World) (hm : W.heap[gm]? = some (.cells #[vm] 41 (0, 0))) (ha : W.heap[ga]? = some (.cells #[va] 41 (0, 0))) (hz : W.heap[gz]? = some (.cells cz tz (0, 0))) (hne : gm ≠ ga) (nzm : gz ≠ gm) (nza : gz ≠ ga) (hbm : base ≤ gm) (hba : base ≤ ga) (hbw : base ≤ W.heap.size)
    (rm : Kd.R k24 24 W base (fun k => some k ≠ va.ownBlock ∧ k ≠ gz) vm M) (ra : Kd.R k24 24 W base (fun k => some k ≠ vm.ownBlock ∧ k ≠ gz) va A) (hb : Below base w0 W) (lm : M.length ≤ 10) (la : A.length ≤ 10) :
    Calls Try.prog 25 #[.agg #[.int .u32 x.f0, .int .u32 x.f1, .bool x.f2], .bool inn, .pointer (some ⟨gm, 0, none⟩), .pointer (some ⟨ga, 0, none⟩)] W (putPost x inn gm ga gz cz tz M A base w0) := by
  cases inn with
  | true =>
    have BM := Aside0.mk hm
    have BA := Aside0.mk ha
    have HM := Aside0.mk rm
    have HA := Aside0.mk ra
    have HB := Aside0.mk hb
    have HS := Aside0.mk hbw
    have BZ := Aside0.mk hz
    clear hm ha rm ra hb hbw hz
    go_enter Try.func25, Try.ntmps25
    go_wp2_with (first | ((with_reducible refine gate_dst (N := 4) rfl ?_); refine box_event ?hg (N := 4) ?hd (cs := #[.int .u32 x.f0, .int .u32 x.f1, .bool x.f2]) (t := 24) ?hr ?_; (case hd => rfl); (case hg => rfl); (case hr => first | (go_simp; done) | (go_simp; rfl)); intro gx hgx w4 hbox hb4; have hcm : w4.cell? ⟨gm, 0, none⟩ = some vm := (blk_cell (blk_below BM.out hb4) 0).trans rfl; have hca : w4.cell? ⟨ga, 0, none⟩ = some va := (blk_cell (blk_below BA.out hb4) 0).trans rfl; have hx0 : w4.cell? ⟨gx, 0, none⟩ = some (.int .u32 x.f0) := (blk_cell hbox 0).trans rfl; have hx1 : w4.cell? ⟨gx, 1, none⟩ = some (.int .u32 x.f1) := (blk_cell hbox 1).trans rfl; have hx2 : w4.cell? ⟨gx, 2, none⟩ = some (.bool x.f2) := (blk_cell hbox 2).trans rfl; have nz_ := Aside0.mk (blk_below BZ.out hb4); have n0_ := Aside0.mk (blk_below BM.out hb4); have n1_ := Aside0.mk (blk_below BA.out hb4); have n2_ := Aside0.mk (Kd.R_below HM.out hb4); have n3_ := Aside0.mk (Kd.R_below HA.out hb4); have n4_ := Aside0.mk (show Below base w0 w4 from HB.out.trans (hb4.mono HS.out)); have n5_ := Aside0.mk (show base ≤ w4.heap.size from Nat.le_trans HS.out hb4.size); clear BM BA HM HA HB HS BZ hb4 hbox hgx; have BZ := nz_; clear nz_; have BM := n0_; have BA := n1_; have HM := n2_; have HA := n3_; have HB := n4_; have HS := n5_; clear n0_ n1_ n2_ n3_ n4_ n5_) | (at_builtin; refine Kd.R_append k24 (w0 := w0) base rfl (.tmp 7) (.tmp 9) 41 24 (.agg #[.int .u32 0, .int .u32 0, .bool false]) 12 rfl Try.underlying41 match_Witness.info rfl (by decide) (by omega) vm M x [.int .u32 x.f0, .int .u32 x.f1, .bool x.f2] (fun k => some k ≠ va.ownBlock ∧ k ≠ gz) (fun _ => False) rfl rfl ?aP (fun _ h => h.elim) ?aF HM.out HB.out HS.out ?aL ?_; (case aP => exact ⟨[.int .u32 x.f0], [.int .u32 x.f1, .bool x.f2], rfl, rfl, [.int .u32 x.f1], [.bool x.f2], rfl, rfl, rfl⟩); (case aF => intro k hk; refine ⟨fun he => ?_, fun he => ?_⟩; (have := Kd.R_lt HA.out k he.symm; omega); (have := blk_lt BZ.out; omega)); (case aL => omega); intro v1 w5 ho5 hb5 hg5 hat5; obtain ⟨A1, c1, rfl⟩ : ∃ A1 c1, v1 = .slice A1 (M.length + 1) c1 := (by obtain ⟨A1, c1, e⟩ := Kd.R_slice ho5; exact ⟨A1, c1, by simpa using e⟩); have hs0 : w5.cell? ⟨gm, 0, none⟩ = some vm := (blk_cell (blk_grown BM.out hg5 (Kd.R_ne HM.out BM.out (by decide))) 0).trans rfl; have hf0 := blk_frozen (blk_grown BM.out hg5 (Kd.R_ne HM.out BM.out (by decide))) 0; have n0_ := Aside0.mk (blk_grown BM.out hg5 (Kd.R_ne HM.out BM.out (by decide))); have n1_ := Aside0.mk (blk_grown BA.out hg5 (Kd.R_ne HM.out BA.out (by decide))); have nz_ := Aside0.mk (blk_grown BZ.out hg5 (Kd.R_away HM.out (fun k hk => hk.2))); have n2_ := Aside0.mk ho5; have n3_ : Aside0 (Kd.R k24 24 w5 base (fun k => some k ≠ (Value.slice A1 (M.length + 1) c1).ownBlock ∧ k ≠ gz) va A) := ⟨Kd.R_mono (Kd.R_grown (Kd.R_bound HA.out) hg5 (fun k hk => hk.1.1)) (fun k hk => ⟨own_two hat5 hk.1.1 hk.2.2.1, hk.1.2⟩)⟩; have n4_ := Aside0.mk hb5; clear BM BA HM HA HB BZ ho5 hb5 hg5 hat5; have BZ := nz_; clear nz_; have BM := n0_; have BA := n1_; have HM := n2_; have HA := n3_; have HB := n4_; clear n0_ n1_ n2_ n3_ n4_))
    go_end0
    exact ⟨rfl, _, va, blk_put BM.out 0 _ rfl, blk_far BA.out (by simpa using hne.symm) _, Kd.R_set HM.out BM.out (by decide) 0 _, Kd.R_set HA.out BM.out (by decide) 0 _, HB.out.setCell hbm _, blk_far BZ.out (by simpa using nzm) _⟩
  | false =>
    have BM := Aside0.mk hm
    have BA := Aside0.mk ha
    have HM := Aside0.mk rm
    have HA := Aside0.mk ra
    have HB := Aside0.mk hb
    have HS := Aside0.mk hbw
    have BZ := Aside0.mk hz
    clear hm ha rm ra hb hbw hz
    go_enter Try.func25, Try.ntmps25
    go_wp2_with (first | ((with_reducible refine gate_dst (N := 4) rfl ?_); refine box_event ?hg (N := 4) ?hd (cs := #[.int .u32 x.f0, .int .u32 x.f1, .bool x.f2]) (t := 24) ?hr ?_; (case hd => rfl); (case hg => rfl); (case hr => first | (go_simp; done) | (go_simp; rfl)); intro gx hgx w4 hbox hb4; have hcm : w4.cell? ⟨gm, 0, none⟩ = some vm := (blk_cell (blk_below BM.out hb4) 0).trans rfl; have hca : w4.cell? ⟨ga, 0, none⟩ = some va := (blk_cell (blk_below BA.out hb4) 0).trans rfl; have hx0 : w4.cell? ⟨gx, 0, none⟩ = some (.int .u32 x.f0) := (blk_cell hbox 0).trans rfl; have hx1 : w4.cell? ⟨gx, 1, none⟩ = some (.int .u32 x.f1) := (blk_cell hbox 1).trans rfl; have hx2 : w4.cell? ⟨gx, 2, none⟩ = some (.bool x.f2) := (blk_cell hbox 2).trans rfl; have nz_ := Aside0.mk (blk_below BZ.out hb4); have n0_ := Aside0.mk (blk_below BM.out hb4); have n1_ := Aside0.mk (blk_below BA.out hb4); have n2_ := Aside0.mk (Kd.R_below HM.out hb4); have n3_ := Aside0.mk (Kd.R_below HA.out hb4); have n4_ := Aside0.mk (show Below base w0 w4 from HB.out.trans (hb4.mono HS.out)); have n5_ := Aside0.mk (show base ≤ w4.heap.size from Nat.le_trans HS.out hb4.size); clear BM BA HM HA HB HS BZ hb4 hbox hgx; have BZ := nz_; clear nz_; have BM := n0_; have BA := n1_; have HM := n2_; have HA := n3_; have HB := n4_; have HS := n5_; clear n0_ n1_ n2_ n3_ n4_ n5_) | (at_builtin; refine Kd.R_append k24 (w0 := w0) base rfl (.tmp 11) (.tmp 13) 41 24 (.agg #[.int .u32 0, .int .u32 0, .bool false]) 12 rfl Try.underlying41 match_Witness.info rfl (by decide) (by omega) va A x [.int .u32 x.f0, .int .u32 x.f1, .bool x.f2] (fun k => some k ≠ vm.ownBlock ∧ k ≠ gz) (fun _ => False) rfl rfl ?aP (fun _ h => h.elim) ?aF HA.out HB.out HS.out ?aL ?_; (case aP => exact ⟨[.int .u32 x.f0], [.int .u32 x.f1, .bool x.f2], rfl, rfl, [.int .u32 x.f1], [.bool x.f2], rfl, rfl, rfl⟩); (case aF => intro k hk; refine ⟨fun he => ?_, fun he => ?_⟩; (have := Kd.R_lt HM.out k he.symm; omega); (have := blk_lt BZ.out; omega)); (case aL => omega); intro v1 w5 ho5 hb5 hg5 hat5; obtain ⟨A1, c1, rfl⟩ : ∃ A1 c1, v1 = .slice A1 (A.length + 1) c1 := (by obtain ⟨A1, c1, e⟩ := Kd.R_slice ho5; exact ⟨A1, c1, by simpa using e⟩); have hs0 : w5.cell? ⟨ga, 0, none⟩ = some va := (blk_cell (blk_grown BA.out hg5 (Kd.R_ne HA.out BA.out (by decide))) 0).trans rfl; have hf0 := blk_frozen (blk_grown BA.out hg5 (Kd.R_ne HA.out BA.out (by decide))) 0; have n0_ := Aside0.mk (blk_grown BM.out hg5 (Kd.R_ne HA.out BM.out (by decide))); have n1_ := Aside0.mk (blk_grown BA.out hg5 (Kd.R_ne HA.out BA.out (by decide))); have nz_ := Aside0.mk (blk_grown BZ.out hg5 (Kd.R_away HA.out (fun k hk => hk.2))); have n2_ := Aside0.mk ho5; have n3_ : Aside0 (Kd.R k24 24 w5 base (fun k => some k ≠ (Value.slice A1 (A.length + 1) c1).ownBlock ∧ k ≠ gz) vm M) := ⟨Kd.R_mono (Kd.R_grown (Kd.R_bound HM.out) hg5 (fun k hk => hk.1.1)) (fun k hk => ⟨own_two hat5 hk.1.1 hk.2.2.1, hk.1.2⟩)⟩; have n4_ := Aside0.mk hb5; clear BM BA HM HA HB BZ ho5 hb5 hg5 hat5; have BZ := nz_; clear nz_; have BM := n0_; have BA := n1_; have HA := n2_; have HM := n3_; have HB := n4_; clear n0_ n1_ n2_ n3_ n4_))
    go_end0
    exact ⟨rfl, vm, _, blk_far BM.out (by simpa using hne) _, blk_put BA.out 0 _ rfl, Kd.R_set HM.out BA.out (by decide) 0 _, Kd.R_set HA.out BA.out (by decide) 0 _, HB.out.setCell hba _, blk_far BZ.out (by simpa using nza) _⟩
set_option maxRecDepth 1000000 in
set_option maxHeartbeats 8000000 in
theorem match_Witness.calls (k : Nat) (a0_0 : Int) (a0_1 : Int) (a0_2 : Bool) (a1_0 : Int) (a1_1 : Int) (a1_2 : Bool) (r1 : Int) (r2 : Bool) (w : World) (h : match_Witness.f k a0_0 a0_1 a0_2 a1_0 a1_1 a1_2 = some (r1, r2)) :
    Calls Try.prog 9 #[.agg #[.int .u32 a0_0, .int .u32 a0_1, .bool a0_2], .agg #[.int .u32 a1_0, .int .u32 a1_1, .bool a1_2]] w fun e w' => e = .returned (.tuple #[.int .u32 r1, .bool r2]) ∧ Below w.heap.size w w' := by
  obtain ⟨t, ht, H⟩ := Option.bind_eq_some_iff.mp h
  clear h
  have HT := Aside0.mk ht
  have H' := Aside0.mk H
  clear ht H
  have hu := Try.underlying24
  have HB := Aside0.mk (Below.refl w.heap.size w)
  go_enter Try.func9, Try.ntmps9
  go_upto_region 3 with (first | ((with_reducible refine gate_dst (N := 2) rfl ?_); refine box_event ?hg (N := 2) ?hd (cs := #[.int .u32 a0_0, .int .u32 a0_1, .bool a0_2]) (t := 24) ?hr ?_; (case hd => rfl); (case hg => rfl); (case hr => first | (go_simp; done) | (go_simp; rfl)); intro gb2 hg wb2 hbox hb; have n0_ := Aside0.mk (below_step HB.out hb); have n1_ := Aside0.mk (hbox); have n2_ := Aside0.mk (show w.heap.size ≤ gb2 by rw [hg]; exact below_size HB.out); clear HB; have HB := n0_; have BK2 := n1_; have GE2 := n2_; clear n0_ n1_ n2_; clear hb hbox hg) | ((with_reducible refine gate_dst (N := 3) rfl ?_); refine box_event ?hg (N := 3) ?hd (cs := #[.int .u32 a1_0, .int .u32 a1_1, .bool a1_2]) (t := 24) ?hr ?_; (case hd => rfl); (case hg => rfl); (case hr => first | (go_simp; done) | (go_simp; rfl)); intro gb3 hg wb3 hbox hb; have n0_ := Aside0.mk (below_step HB.out hb); have n1_ := Aside0.mk (hbox); have n2_ := Aside0.mk (show w.heap.size ≤ gb3 by rw [hg]; exact below_size HB.out); have ne2_3 := Aside0.mk (show gb2 ≠ gb3 by rw [hg]; exact Nat.ne_of_lt (blk_lt BK2.out)); have m2_ := Aside0.mk (blk_below BK2.out hb); clear BK2; have BK2 := m2_; clear m2_; clear HB; have HB := n0_; have BK3 := n1_; have GE3 := n2_; clear n0_ n1_ n2_; clear hb hbox hg) | ((with_reducible refine gate_dst (N := 6) rfl ?_); refine box_event ?hg (N := 6) ?hd (cs := #[.slice none 0 0]) (t := 41) ?hr ?_; (case hd => rfl); (case hg => rfl); (case hr => first | (go_simp; done) | (go_simp; rfl)); intro gb6 hg wb6 hbox hb; have n0_ := Aside0.mk (below_step HB.out hb); have n1_ := Aside0.mk (hbox); have n2_ := Aside0.mk (show w.heap.size ≤ gb6 by rw [hg]; exact below_size HB.out); have ne2_6 := Aside0.mk (show gb2 ≠ gb6 by rw [hg]; exact Nat.ne_of_lt (blk_lt BK2.out)); have m2_ := Aside0.mk (blk_below BK2.out hb); clear BK2; have BK2 := m2_; clear m2_; have ne3_6 := Aside0.mk (show gb3 ≠ gb6 by rw [hg]; exact Nat.ne_of_lt (blk_lt BK3.out)); have m3_ := Aside0.mk (blk_below BK3.out hb); clear BK3; have BK3 := m3_; clear m3_; clear HB; have HB := n0_; have BK6 := n1_; have GE6 := n2_; clear n0_ n1_ n2_; clear hb hbox hg) | ((with_reducible refine gate_dst (N := 7) rfl ?_); refine box_event ?hg (N := 7) ?hd (cs := #[.slice none 0 0]) (t := 41) ?hr ?_; (case hd => rfl); (case hg => rfl); (case hr => first | (go_simp; done) | (go_simp; rfl)); intro gb7 hg wb7 hbox hb; have n0_ := Aside0.mk (below_step HB.out hb); have n1_ := Aside0.mk (hbox); have n2_ := Aside0.mk (show w.heap.size ≤ gb7 by rw [hg]; exact below_size HB.out); have ne2_7 := Aside0.mk (show gb2 ≠ gb7 by rw [hg]; exact Nat.ne_of_lt (blk_lt BK2.out)); have m2_ := Aside0.mk (blk_below BK2.out hb); clear BK2; have BK2 := m2_; clear m2_; have ne3_7 := Aside0.mk (show gb3 ≠ gb7 by rw [hg]; exact Nat.ne_of_lt (blk_lt BK3.out)); have m3_ := Aside0.mk (blk_below BK3.out hb); clear BK3; have BK3 := m3_; clear m3_; have ne6_7 := Aside0.mk (show gb6 ≠ gb7 by rw [hg]; exact Nat.ne_of_lt (blk_lt BK6.out)); have m6_ := Aside0.mk (blk_below BK6.out hb); clear BK6; have BK6 := m6_; clear m6_; clear HB; have HB := n0_; have BK7 := n1_; have GE7 := n2_; clear n0_ n1_ n2_; clear hb hbox hg))
  (try simp only [Act.put, List.setIfInBounds_toArray, List.set_cons_zero, List.set_cons_succ])
  have hb0 : wb7.cell? ⟨gb3, 0, none⟩ = some (.int .u32 a1_0) := (blk_cell BK3.out 0).trans rfl
  have hb1 : wb7.cell? ⟨gb3, 1, none⟩ = some (.int .u32 a1_1) := (blk_cell BK3.out 1).trans rfl
  have hb2 : wb7.cell? ⟨gb3, 2, none⟩ = some (.bool a1_2) := (blk_cell BK3.out 2).trans rfl
  go_upto_region 4 with (first | (go_at_call 25; refine (put1 ⟨a1_0, a1_1, a1_2⟩ (!a1_2) gb6 gb7 gb2 #[.int .u32 a0_0, .int .u32 a0_1, .bool a0_2] 24 (.slice none 0 0) (.slice none 0 0) [] [] w.heap.size w _ BK6.out BK7.out BK2.out ne6_7.out ne2_6.out ne2_7.out GE6.out GE7.out (below_size HB.out) (Kd.R_nil _ _ _ _ _) (Kd.R_nil _ _ _ _ _) HB.out (by decide) (by decide)).mono ?_; rintro e w8 ⟨rfl, vm, va, hm8, ha8, rm8, ra8, hb8, hz8⟩))
  have HM8 := Aside0.mk hm8
  have HA8 := Aside0.mk ha8
  have HZ8 := Aside0.mk hz8
  have RM8 := Aside0.mk rm8
  have RA8 := Aside0.mk ra8
  have HB8 := Aside0.mk hb8
  have hc0 : w8.cell? ⟨gb2, 0, none⟩ = some (.int .u32 a0_0) := (blk_cell hz8 0).trans rfl
  have hc1 : w8.cell? ⟨gb2, 1, none⟩ = some (.int .u32 a0_1) := (blk_cell hz8 1).trans rfl
  have hc2 : w8.cell? ⟨gb2, 2, none⟩ = some (.bool a0_2) := (blk_cell hz8 2).trans rfl
  clear hm8 ha8 hz8 rm8 ra8 hb8 hb0 hb1 hb2 BK2 BK3 BK6 BK7 HB
  go_upto_region 5 with (first | (go_at_call 25; refine (put1 ⟨a0_0, a0_1, a0_2⟩ a0_2 gb6 gb7 gb2 #[.int .u32 a0_0, .int .u32 a0_1, .bool a0_2] 24 vm va _ _ w.heap.size w _ HM8.out HA8.out HZ8.out ne6_7.out ne2_6.out ne2_7.out GE6.out GE7.out (below_size HB8.out) RM8.out RA8.out HB8.out (by cases a1_2 <;> simp) (by cases a1_2 <;> simp)).mono ?_; rintro e w9 ⟨rfl, vm9, va9, hm9, ha9, rm9, ra9, hb9, hz9⟩))
  clear hc0 hc1 hc2 HM8 HA8 HZ8 RM8 RA8 HB8
  have rm10 : Kd.R k24 24 w9 w.heap.size (fun k => some k ≠ va9.ownBlock ∧ k ≠ gb2) vm9 (mustL ⟨a0_0, a0_1, a0_2⟩ ⟨a1_0, a1_1, a1_2⟩) := by
    have e := must_eq ⟨a0_0, a0_1, a0_2⟩ ⟨a1_0, a1_1, a1_2⟩
    rw [← e]
    exact rm9
  have ra10 : Kd.R k24 24 w9 w.heap.size (fun k => some k ≠ vm9.ownBlock ∧ k ≠ gb2) va9 (avoidL ⟨a0_0, a0_1, a0_2⟩ ⟨a1_0, a1_1, a1_2⟩) := by
    have e := avoid_eq ⟨a0_0, a0_1, a0_2⟩ ⟨a1_0, a1_1, a1_2⟩
    rw [← e]
    exact ra9
  obtain ⟨Am, cm, rfl, lm, dm⟩ := Kd.R_reads rm10
  obtain ⟨Aa, ca, rfl, la, da⟩ := Kd.R_reads ra10
  have lm2 := must_len ⟨a0_0, a0_1, a0_2⟩ ⟨a1_0, a1_1, a1_2⟩
  have la2 := avoid_len ⟨a0_0, a0_1, a0_2⟩ ⟨a1_0, a1_1, a1_2⟩
  clear rm9 ra9 rm10 ra10
  generalize mustL ⟨a0_0, a0_1, a0_2⟩ ⟨a1_0, a1_1, a1_2⟩ = M at HT H' lm dm lm2 hm9 ⊢
  generalize avoidL ⟨a0_0, a0_1, a0_2⟩ ⟨a1_0, a1_1, a1_2⟩ = A at HT H' la da la2 ha9 ⊢
  have hg6 : w9.cell? ⟨gb6, 0, none⟩ = some (.slice Am M.length cm) := (blk_cell hm9 0).trans rfl
  have hg7 : w9.cell? ⟨gb7, 0, none⟩ = some (.slice Aa A.length ca) := (blk_cell ha9 0).trans rfl
  have LM := Aside0.mk lm
  have LA := Aside0.mk la
  have DM := Aside0.mk dm
  have DA := Aside0.mk da
  have BM := Aside0.mk hm9
  have BA := Aside0.mk ha9
  have HB := Aside0.mk hb9
  have LM2 := Aside0.mk lm2
  clear lm la dm da hm9 ha9 hb9 hz9 lm2 la2
  cases t with
  | false =>
    have H := H'.out
    rw [if_neg (by decide)] at H
    simp only [Option.some.injEq, Prod.mk.injEq] at H
    obtain ⟨rfl, rfl⟩ := H
    go_wp2_with (go_at_call 26; (with_reducible refine (match_left.calls k Am cm M Aa ca A false _ DM.out LM.out DA.out LA.out HT.out).mono ?_); rintro e w10 ⟨rfl, hb10⟩; have n0_ := Aside0.mk (below_step HB.out hb10); clear HB hb10; have HB := n0_; clear n0_)
    go_ret2
    exact ⟨rfl, HB.out⟩
  | true =>
    have H := H'.out
    rw [if_pos rfl] at H
    clear H'
    have H' := Aside0.mk H
    clear H
    go_wp2_with (go_at_call 26; (with_reducible refine (match_left.calls k Am cm M Aa ca A true _ DM.out LM.out DA.out LA.out HT.out).mono ?_); rintro e w10 ⟨rfl, hb10⟩; have n0_ := Aside0.mk (below_step HB.out hb10); have n1_ := Aside0.mk (Kd.C_below DM.out hb10); have n2_ := Aside0.mk (Kd.C_below DA.out hb10); have n3_ := Aside0.mk (blk_below BM.out hb10); have n4_ := Aside0.mk (blk_below BA.out hb10); clear HB hb10 DM DA BM BA hg6 hg7; have HB := n0_; have DM := n1_; have DA := n2_; have BM := n3_; have BA := n4_; clear n0_ n1_ n2_ n3_ n4_)
    go_loopg [9, 28] k (fun kq v9 v28 w' => ∃ (x i : Int), v9 = .int .u32 x ∧ v28 = .int .i64 i ∧ Aside0 (0 ≤ i) ∧ Aside0 (match_Witness.l0 kq M A x i = some (r1, r2)) ∧ Aside0 (kq ≤ k) ∧ Aside0 (Below w10.heap.size w10 w'))
    case atStart => exact ⟨0, 0, rfl, rfl, ⟨Int.le_refl _⟩, H', ⟨Nat.le_refl _⟩, ⟨Below.refl _ _⟩⟩
    case round =>
      clear H'
      obtain ⟨x, i, rfl, rfl, HI, HA, HK, HW⟩ := hrel
      cases gk with
      | zero => exact absurd HA.out (by simp [match_Witness.l0])
      | succ k1 =>
        have H := HA.out
        clear HA
        simp only [match_Witness.l0] at H
        have hi0 := HI.out
        by_cases c1 : i < 32
        · rw [if_pos c1] at H
          obtain ⟨t, ht, H⟩ := Option.bind_eq_some_iff.mp H
          have HT := Aside0.mk ht
          have H' := Aside0.mk H
          clear ht H
          go_upto_region 12 with (fail)
          have eb : (2 : Int) ^ (31 - i).toNat % 4294967296 = bitv i := bit_mod i hi0 c1
          rw [eb]
          have bb := bit_range i hi0 c1
          have em := mask_raw i hi0 c1
          rw [em] at HT
          generalize bitv i = bv at *
          clear eb em
          obtain ⟨LL, hLL⟩ : ∃ l_, l_ = M ++ [(⟨x, Go.bits .xor .u32 (if IntKind.u32.signed = true then -1 else IntKind.u32.max) (IntKind.u32.wrap (bv - 1)), false⟩ : S24)] := ⟨_, rfl⟩
          rw [← hLL] at HT
          have HL2 := Aside0.mk hLL
          clear hLL
          have HC : Aside0 (api_Filter.f M = some M) := ⟨by unfold api_Filter.f; rw [if_pos (by have := LM2.out; omega)]⟩
          have BMr := Aside0.mk (blk_below BM.out HW.out)
          have BAr := Aside0.mk (blk_below BA.out HW.out)
          have DMr := Aside0.mk (Kd.C_below DM.out HW.out)
          have DAr := Aside0.mk (Kd.C_below DA.out HW.out)
          have HR := Aside0.mk (Below.refl wr.heap.size wr)
          go_region_held3 (fun w' => w'.cell? ⟨gb6, 0, none⟩ = some (.slice Am M.length cm) ∧ w'.cell? ⟨gb7, 0, none⟩ = some (.slice Aa A.length ca)) (exact ⟨(blk_cell (blk_below BMr.out (show Below wr.heap.size wr _ by repeat (first | exact HR.out | apply below_alloc | apply below_drew1))) 0).trans rfl, (blk_cell (blk_below BAr.out (show Below wr.heap.size wr _ by repeat (first | exact HR.out | apply below_alloc | apply below_drew1))) 0).trans rfl⟩) (first | (go_at_call 27; (with_reducible refine (api_Filter.calls Am cm M M _ (Kd.C_below DMr.out (show Below wr.heap.size wr _ by repeat (first | exact HR.out | apply below_alloc | apply below_drew1))) LM.out HC.out).mono ?_); rintro e w20 ⟨v20, rfl, ho20, hb20⟩; (first | (have HL := Aside0.mk (blk_below (blk_drew (blk_new wr (Obj.cells #[.int .u32 x, .int .u32 (Go.bits .xor .u32 (if IntKind.u32.signed = true then -1 else IntKind.u32.max) (IntKind.u32.wrap (bv - 1))), .bool false] 24 (0, 0)))) hb20)) | (have HL := Aside0.mk (blk_below (blk_new wr.drew (Obj.cells #[.int .u32 x, .int .u32 (Go.bits .xor .u32 (if IntKind.u32.signed = true then -1 else IntKind.u32.max) (IntKind.u32.wrap (bv - 1))), .bool false] 24 (0, 0))) hb20)) | skip); have n0_ := Aside0.mk (Kd.R_lower ho20 ((show Below wr.heap.size wr _ by repeat (first | exact HR.out | apply below_alloc | apply below_drew1))).size); have n1_ := Aside0.mk (below_step (show Below wr.heap.size wr _ by repeat (first | exact HR.out | apply below_alloc | apply below_drew1)) hb20); clear HR ho20 hb20; have HO := n0_; have HR := n1_; clear n0_ n1_) | (refine Kd.R_append_rows_step k24 (w0 := wr) wr.heap.size (by rfl) (.tmp 35) (.tmp 41) 41 24 (.agg #[.int .u32 0, .int .u32 0, .bool false]) 12 rfl Try.underlying41 match_Witness.info rfl (by decide) (by omega) v20 M [(⟨x, Go.bits .xor .u32 (if IntKind.u32.signed = true then -1 else IntKind.u32.max) (IntKind.u32.wrap (bv - 1)), false⟩ : S24)] (some ⟨_, 0, none⟩) 1 1 (fun _ => True) (fun _ => False) rfl rfl (by (with_reducible repeat (first | apply Kd.R_alloc | apply Kd.R_drew)); exact HO.out) (lit_reads _ _ (⟨x, Go.bits .xor .u32 (if IntKind.u32.signed = true then -1 else IntKind.u32.max) (IntKind.u32.wrap (bv - 1)), false⟩ : S24) (blk_new _ _)) (fun _ _ h => h) (fun _ h => h.elim) (fun _ _ => trivial) (show Below wr.heap.size wr _ by repeat (first | exact HR.out | apply below_alloc | apply below_drew1)) ((show Below wr.heap.size wr _ by repeat (first | exact HR.out | apply below_alloc | apply below_drew1))).size (by have := LM2.out; simp; omega) ?_; intro v21 w21 ho21 hb21 hg21 hat21; rw [← HL2.out] at ho21; obtain ⟨A21, c21, rfl, l21, d21⟩ := Kd.R_reads ho21; have D21 := Aside0.mk d21; have L21 := Aside0.mk l21; have n1_ := Aside0.mk hb21; clear HR ho21 hb21 hg21 hat21 d21 l21 HO; have HR := n1_; clear n1_) | (refine Kd.R_append_rows_step k24 (w0 := wr) wr.heap.size (by rfl) (.tmp 35) (.tmp 41) 41 24 (.agg #[.int .u32 0, .int .u32 0, .bool false]) 12 rfl Try.underlying41 match_Witness.info rfl (by decide) (by omega) v20 M [(⟨x, Go.bits .xor .u32 (if IntKind.u32.signed = true then -1 else IntKind.u32.max) (IntKind.u32.wrap (bv - 1)), false⟩ : S24)] (some ⟨_, 0, none⟩) 1 1 (fun _ => True) (fun _ => False) rfl rfl (by (with_reducible repeat (first | apply Kd.R_alloc | apply Kd.R_drew)); exact HO.out) (lit_reads _ _ (⟨x, Go.bits .xor .u32 (if IntKind.u32.signed = true then -1 else IntKind.u32.max) (IntKind.u32.wrap (bv - 1)), false⟩ : S24) HL.out) (fun _ _ h => h) (fun _ h => h.elim) (fun _ _ => trivial) (show Below wr.heap.size wr _ by repeat (first | exact HR.out | apply below_alloc | apply below_drew1)) ((show Below wr.heap.size wr _ by repeat (first | exact HR.out | apply below_alloc | apply below_drew1))).size (by have := LM2.out; simp; omega) ?_; intro v21 w21 ho21 hb21 hg21 hat21; rw [← HL2.out] at ho21; obtain ⟨A21, c21, rfl, l21, d21⟩ := Kd.R_reads ho21; have D21 := Aside0.mk d21; have L21 := Aside0.mk l21; have n1_ := Aside0.mk hb21; clear HR ho21 hb21 hg21 hat21 d21 l21 HO; have HR := n1_; clear n1_) | (go_at_call 26; (with_reducible refine (match_left.calls k1 A21 c21 LL Aa ca A t _ D21.out L21.out (Kd.C_below DAr.out (show Below wr.heap.size wr _ by repeat (first | exact HR.out | apply below_alloc | apply below_drew1))) LA.out HT.out).mono ?_); rintro e w22 ⟨rfl, hb22⟩; have n1_ := Aside0.mk (below_step (show Below wr.heap.size wr _ by repeat (first | exact HR.out | apply below_alloc | apply below_drew1)) hb22); clear HR hb22; have HR := n1_; clear n1_))
          all_goals
            have H := H'.out
            clear H'
            cases t with
            | true =>
              rw [if_pos rfl] at H
              have H' := Aside0.mk H
              clear H
              go_wp2
              go_roundg k1
              case measure => have := HK.out; omega
              case rel => exact ⟨x, i + 1, rfl, (by first | rfl | (rw [show wrap64 (i + 1) = i + 1 by unfold wrap64; omega])), ⟨by omega⟩, H', ⟨by have := HK.out; omega⟩, ⟨below_step HW.out HR.out⟩⟩
            | false =>
              rw [if_neg (by decide)] at H
              have H' := Aside0.mk H
              clear H
              go_wp2
              go_roundg k1
              case measure => have := HK.out; omega
              case rel => exact ⟨Go.bits .or .u32 x bv, i + 1, rfl, (by first | rfl | (rw [show wrap64 (i + 1) = i + 1 by unfold wrap64; omega])), ⟨by omega⟩, H', ⟨by have := HK.out; omega⟩, ⟨below_step HW.out HR.out⟩⟩
        · rw [if_neg c1] at H
          simp only [Option.some.injEq, Prod.mk.injEq] at H
          obtain ⟨rfl, rfl⟩ := H
          go_wp2
          go_ret2
          exact ⟨rfl, below_step HB.out HW.out⟩

/-! ### signalboxref05_bit: function 28 -/
def signalboxref05_bit.l0 : Nat → Int → Int → Int → Option (Bool)
  | 0, _, _, _ => none
  | k + 1, x0, x1, x5 => if x5 < x1 then (signalboxref05_bit.l0 k ((Int.tdiv x0 2) % 4294967296) x1 (wrap64 (x5 + 1))) else (some ((Int.tmod x0 2) == 1))
def signalboxref05_bit.f (k : Nat) (a0 : Int) (a1 : Int) : Option (Bool) := signalboxref05_bit.l0 k a0 a1 0
theorem signalboxref05_bit.mono_l : ∀ k, (∀ y0 y1 y2, LeO (signalboxref05_bit.l0 k y0 y1 y2) (signalboxref05_bit.l0 (k + 1) y0 y1 y2))
  | 0 => fun _ _ _ r h => by simp [signalboxref05_bit.l0] at h
  | k + 1 => by
    have ih0 := signalboxref05_bit.mono_l k
    · intro y0 y1 y2
      unfold signalboxref05_bit.l0
      repeat' first
      | (with_reducible exact ih0 _ _ _)
      | (with_reducible exact LeO.refl _)
      | (with_reducible exact LeO.none _)
      | (with_reducible refine LeO.ite ?_ ?_)
      | (with_reducible refine LeO.bind ?_ (fun _ => ?_))
      | exact ih0 _ _ _
      | exact LeO.none _
      | refine LeO.ite ?_ ?_
      | refine LeO.bind ?_ (fun _ => ?_)
theorem signalboxref05_bit.mono : ∀ a0 a1 k, LeO (signalboxref05_bit.f k a0 a1) (signalboxref05_bit.f (k + 1) a0 a1) := by
  intro a0 a1 k
  have ih0 := signalboxref05_bit.mono_l k
  unfold signalboxref05_bit.f
  repeat' first
      | (with_reducible exact ih0 _ _ _)
      | (with_reducible exact LeO.refl _)
      | (with_reducible exact LeO.none _)
      | (with_reducible refine LeO.ite ?_ ?_)
      | (with_reducible refine LeO.bind ?_ (fun _ => ?_))
      | exact ih0 _ _ _
      | exact LeO.none _
      | refine LeO.ite ?_ ?_
      | refine LeO.bind ?_ (fun _ => ?_)
set_option maxHeartbeats 8000000 in
set_option maxRecDepth 100000 in
theorem signalboxref05_bit.calls (k : Nat) (a0 : Int) (a1 : Int) (r : Bool) (w : World) (h : signalboxref05_bit.f k a0 a1 = some r) :
    Calls Try.prog 28 #[.int .u32 a0, .int .i64 a1] w fun e w' => e = .returned (.bool r) ∧ Drawn0 w w' := by
  have H : (signalboxref05_bit.l0 k a0 a1 0) = some r := h
  clear h
  have H' := Aside0.mk H
  clear H
  go_enter Try.func28, Try.ntmps28
  go_wp2
  go_loopg [0, 5] k (fun kq v0 v5 w' => ∃ (x0_1 : Int) (x5_1 : Int), v0 = .int .u32 x0_1 ∧ v5 = .int .i64 x5_1 ∧ Aside0 (signalboxref05_bit.l0 kq x0_1 a1 x5_1 = some r) ∧ Aside0 (kq ≤ k) ∧ Drawn0 w w')
  case atStart => exact ⟨(a0), (0), (by first | rfl | (simp; done) | (simp [*]; done)), (by first | rfl | (simp; done) | (simp [*]; done)), H', ⟨Nat.le_refl _⟩, by repeat (first | exact Drawn0.refl _ | apply Drawn0.step)⟩
  case round =>
    clear H'
    try clear c2
    try clear p2
    obtain ⟨x0_1, x5_1, rfl, rfl, HA, HK1, ⟨m1, rfl⟩⟩ := hrel
    cases gk with
    | zero => exact absurd HA.out (by simp [signalboxref05_bit.l0])
    | succ k1 =>
      have H := HA.out
      clear HA
      simp only [signalboxref05_bit.l0] at H
      by_cases c3 : x5_1 < a1
      · rw [if_pos c3] at H
        have c3b0 : decide (x5_1 < a1) = true := decide_eq_true c3
        clear c3
        have H' := Aside0.mk H
        clear H
        go_wp2
        go_roundg k1
        case measure => have := HK1.out; omega
        case rel => exact ⟨((Int.tdiv x0_1 2) % 4294967296), (wrap64 (x5_1 + 1)), (by first | rfl | (simp; done) | (simp [*]; done) | (refine congrArg _ ?_; omega)), (by first | rfl | (simp; done) | (simp [*]; done) | (refine congrArg _ ?_; omega)), H', ⟨by have := HK1.out; omega⟩, by repeat (first | exact Drawn0.refl _ | apply Drawn0.step)⟩
      · rw [if_neg c3] at H
        have c3b0 : decide (x5_1 < a1) = false := decide_eq_false c3
        clear c3
        obtain rfl := Option.some.inj H
        go_wp2
        go_ret
        exact ⟨by first | rfl | (simp; done) | (simp [*]; done), by repeat (first | exact Drawn0.refl _ | apply Drawn0.step)⟩

/-! ### signalboxref05_Hit: function 14 -/
def signalboxref05_Hit.l0 : Nat → Int → Bool → Int → Int → Int → Bool → Option (Bool)
  | 0, _, _, _, _, _, _ => none
  | k + 1, x1, x5, x6, x130000, x130001, x130002 => if x6 < 32 then ((signalboxref05_bit.f k x130001 x6).bind fun t130 => (if t130 = true then ((signalboxref05_bit.f k x130000 x6).bind fun t131 => ((signalboxref05_bit.f k x1 x6).bind fun t132 => (if (t131 != t132) = true then (signalboxref05_Hit.l0 k x1 false (wrap64 (x6 + 1)) x130000 x130001 x130002) else (signalboxref05_Hit.l0 k x1 x5 (wrap64 (x6 + 1)) x130000 x130001 x130002)))) else (signalboxref05_Hit.l0 k x1 x5 (wrap64 (x6 + 1)) x130000 x130001 x130002))) else (some (x5 != x130002))
def signalboxref05_Hit.f (k : Nat) (a0_0 : Int) (a0_1 : Int) (a0_2 : Bool) (a1 : Int) : Option (Bool) := signalboxref05_Hit.l0 k a1 true 0 a0_0 a0_1 a0_2
theorem signalboxref05_Hit.mono_l : ∀ k, (∀ y0 y1 y2 y3 y4 y5, LeO (signalboxref05_Hit.l0 k y0 y1 y2 y3 y4 y5) (signalboxref05_Hit.l0 (k + 1) y0 y1 y2 y3 y4 y5))
  | 0 => fun _ _ _ _ _ _ r h => by simp [signalboxref05_Hit.l0] at h
  | k + 1 => by
    have ih0 := signalboxref05_Hit.mono_l k
    · intro y0 y1 y2 y3 y4 y5
      unfold signalboxref05_Hit.l0
      repeat' first
      | (with_reducible exact ih0 _ _ _ _ _ _)
      | (with_reducible exact signalboxref05_bit.mono _ _ _)
      | (with_reducible exact LeO.refl _)
      | (with_reducible exact LeO.none _)
      | (with_reducible refine LeO.ite ?_ ?_)
      | (with_reducible refine LeO.bind ?_ (fun _ => ?_))
      | exact ih0 _ _ _ _ _ _
      | exact signalboxref05_bit.mono _ _ _
      | exact LeO.none _
      | refine LeO.ite ?_ ?_
      | refine LeO.bind ?_ (fun _ => ?_)
theorem signalboxref05_Hit.mono : ∀ a0 a1 a2 a3 k, LeO (signalboxref05_Hit.f k a0 a1 a2 a3) (signalboxref05_Hit.f (k + 1) a0 a1 a2 a3) := by
  intro a0 a1 a2 a3 k
  have ih0 := signalboxref05_Hit.mono_l k
  unfold signalboxref05_Hit.f
  repeat' first
      | (with_reducible exact ih0 _ _ _ _ _ _)
      | (with_reducible exact signalboxref05_bit.mono _ _ _)
      | (with_reducible exact LeO.refl _)
      | (with_reducible exact LeO.none _)
      | (with_reducible refine LeO.ite ?_ ?_)
      | (with_reducible refine LeO.bind ?_ (fun _ => ?_))
      | exact ih0 _ _ _ _ _ _
      | exact signalboxref05_bit.mono _ _ _
      | exact LeO.none _
      | refine LeO.ite ?_ ?_
      | refine LeO.bind ?_ (fun _ => ?_)
set_option maxHeartbeats 8000000 in
set_option maxRecDepth 100000 in
theorem signalboxref05_Hit.calls (k : Nat) (a0_0 : Int) (a0_1 : Int) (a0_2 : Bool) (a1 : Int) (r : Bool) (w : World) (h : signalboxref05_Hit.f k a0_0 a0_1 a0_2 a1 = some r) :
    Calls Try.prog 14 #[.agg #[.int .u32 a0_0, .int .u32 a0_1, .bool a0_2], .int .u32 a1] w fun e w' => e = .returned (.bool r) ∧ Below w.heap.size w w' := by
  have hu24 := Try.underlying24
  have HB := Aside0.mk (Below.refl w.heap.size w)
  have H : (signalboxref05_Hit.l0 k a1 true 0 a0_0 a0_1 a0_2) = some r := h
  clear h
  have H' := Aside0.mk H
  clear H
  go_enter Try.func14, Try.ntmps14
  go_wp2_with (first | ((with_reducible refine gate_dst (N := 2) rfl ?_); refine box_event ?hg (N := 2) ?hd (cs := #[.int .u32 a0_0, .int .u32 a0_1, .bool a0_2]) (t := 24) ?hr ?_; (case hd => rfl); (case hg => rfl); (case hr => first | (go_simp; done) | (go_simp; rfl)); intro gb129 hg w3 hbox hb; have n0_ := Aside0.mk (below_step (by repeat (first | (with_reducible first | exact HB.out | apply below_alloc | apply pw_below_drewN | apply below_drew1) | exact HB.out)) hb); have n1_ := Aside0.mk (hbox); have n2_ := Aside0.mk ((by rw [hg]; exact (below_size (by repeat (first | (with_reducible first | exact HB.out | apply below_alloc | apply pw_below_drewN | apply below_drew1) | exact HB.out))) : w.heap.size ≤ gb129)); have n3_ := Aside0.mk ((by rw [hg]; exact (below_size (by repeat (first | (with_reducible first | exact HB.out | apply below_alloc | apply pw_below_drewN | apply below_drew1) | exact HB.out))) : w.heap.size ≤ gb129)); clear HB; have HB := n0_; have BK129 := n1_; have GW129 := n2_; have GE129 := n3_; clear n0_ n1_ n2_ n3_; clear hb hbox hg))
  go_loopg [5, 6] k (fun kq v5 v6 w' => ∃ (x5_1 : Bool) (x6_1 : Int), v5 = .bool x5_1 ∧ v6 = .int .i64 x6_1 ∧ Aside0 (signalboxref05_Hit.l0 kq a1 x5_1 x6_1 a0_0 a0_1 a0_2 = some r) ∧ Aside0 (kq ≤ k) ∧ Aside0 (w'.heap[gb129]? = some (.cells #[.int .u32 a0_0, .int .u32 a0_1, .bool a0_2] 24 (0, 0))) ∧ Aside0 (Below w.heap.size w w'))
  case atStart => exact ⟨(true), (0), (by first | rfl | (simp; done) | (simp [*]; done)), (by first | rfl | (simp; done) | (simp [*]; done)), H', ⟨Nat.le_refl _⟩, ⟨by (with_reducible repeat (first | refine blk_drewN ?_ _ | refine blk_drew ?_ | refine blk_alloc ?_ _)); exact BK129.out⟩, ⟨by repeat (first | (with_reducible first | exact HB.out | apply below_alloc | apply pw_below_drewN | apply below_drew1 | refine below_set ?_ GE129.out) | exact HB.out)⟩⟩
  case round =>
    clear H'
    try clear c1
    try clear p2
    obtain ⟨x5_1, x6_1, rfl, rfl, HA, HK1, BK129, HB⟩ := hrel
    cases gk with
    | zero => exact absurd HA.out (by simp [signalboxref05_Hit.l0])
    | succ k1 =>
      have H := HA.out
      clear HA
      simp only [signalboxref05_Hit.l0] at H
      by_cases c4 : x6_1 < 32
      · rw [if_pos c4] at H
        have c4b0 : decide (x6_1 < 32) = true := decide_eq_true c4
        clear c4
        replace H := Option.bind_eq_some_iff.mp H
        obtain ⟨t130, A50, H⟩ := H
        replace H : (if t130 = true then ((signalboxref05_bit.f k1 a0_0 x6_1).bind fun t131 => ((signalboxref05_bit.f k1 a1 x6_1).bind fun t132 => (if (t131 != t132) = true then (signalboxref05_Hit.l0 k1 a1 false (wrap64 (x6_1 + 1)) a0_0 a0_1 a0_2) else (signalboxref05_Hit.l0 k1 a1 x5_1 (wrap64 (x6_1 + 1)) a0_0 a0_1 a0_2)))) else (signalboxref05_Hit.l0 k1 a1 x5_1 (wrap64 (x6_1 + 1)) a0_0 a0_1 a0_2)) = some r := H
        have A5 := Aside0.mk A50
        clear A50
        by_cases c6 : t130 = true
        · subst c6
          have H1 : ((signalboxref05_bit.f k1 a0_0 x6_1).bind fun t131 => ((signalboxref05_bit.f k1 a1 x6_1).bind fun t132 => (if (t131 != t132) = true then (signalboxref05_Hit.l0 k1 a1 false (wrap64 (x6_1 + 1)) a0_0 a0_1 a0_2) else (signalboxref05_Hit.l0 k1 a1 x5_1 (wrap64 (x6_1 + 1)) a0_0 a0_1 a0_2)))) = some r := by rw [if_pos rfl] at H; exact H
          clear H
          have H := H1
          clear H1
          replace H := Option.bind_eq_some_iff.mp H
          obtain ⟨t131, A70, H⟩ := H
          replace H : ((signalboxref05_bit.f k1 a1 x6_1).bind fun t132 => (if (t131 != t132) = true then (signalboxref05_Hit.l0 k1 a1 false (wrap64 (x6_1 + 1)) a0_0 a0_1 a0_2) else (signalboxref05_Hit.l0 k1 a1 x5_1 (wrap64 (x6_1 + 1)) a0_0 a0_1 a0_2))) = some r := H
          have A7 := Aside0.mk A70
          clear A70
          replace H := Option.bind_eq_some_iff.mp H
          obtain ⟨t132, A80, H⟩ := H
          replace H : (if (t131 != t132) = true then (signalboxref05_Hit.l0 k1 a1 false (wrap64 (x6_1 + 1)) a0_0 a0_1 a0_2) else (signalboxref05_Hit.l0 k1 a1 x5_1 (wrap64 (x6_1 + 1)) a0_0 a0_1 a0_2)) = some r := H
          have A8 := Aside0.mk A80
          clear A80
          by_cases c9 : (t131 != t132) = true
          · rw [if_pos c9] at H
            have c9b0 : (t131 != t132) = true := c9
            (try (have c9b1 : decide (t131 = t132) = false := by simpa using c9))
            (try (have c9b2 : (t131 == t132) = false := by simpa using c9))
            (try (have c9b3 : ¬ (t131 = t132) := by simpa using c9))
            clear c9
            have H' := Aside0.mk H
            clear H
            have hcz10_0 : wr.cell? ⟨gb129, 0, none⟩ = some (.int .u32 a0_0) := (blk_cell BK129.out 0).trans rfl
            have hcz10_1 : wr.cell? ⟨gb129, 1, none⟩ = some (.int .u32 a0_1) := (blk_cell BK129.out 1).trans rfl
            have hcz10_2 : wr.cell? ⟨gb129, 2, none⟩ = some (.bool a0_2) := (blk_cell BK129.out 2).trans rfl
            have hfz10_0 := blk_frozen BK129.out 0
            have hfz10_1 := blk_frozen BK129.out 1
            have hfz10_2 := blk_frozen BK129.out 2
            go_wp2_with (first | ((with_reducible refine gate_callee (f := 28) rfl ?_); refine goesL_ (some 14) rfl rfl Try.func28 (by kernel_rfl) rfl #[.int .u32 a0_1, .int .i64 x6_1] rfl (by (try simp only [List.map_toArray, List.map_cons, List.map_nil]); first | done | rfl | (simp only [List.length_drop, List.length_take]; rfl)) ?_; (with_reducible refine (signalboxref05_bit.calls k1 a0_1 x6_1 true _ A5.out).mono ?_); rintro e w' ⟨rfl, ⟨nd, rfl⟩⟩; refine ⟨_, rfl, ?_⟩) | (go_at_call 28; (with_reducible refine (signalboxref05_bit.calls k1 a0_0 x6_1 t131 _ A7.out).mono ?_); rintro e w' ⟨rfl, ⟨nd, rfl⟩⟩) | (go_at_call 28; (with_reducible refine (signalboxref05_bit.calls k1 a1 x6_1 t132 _ A8.out).mono ?_); rintro e w' ⟨rfl, ⟨nd, rfl⟩⟩))
            go_roundg k1
            case measure => have := HK1.out; omega
            case rel => exact ⟨(false), (wrap64 (x6_1 + 1)), (by first | rfl | (simp; done) | (simp [*]; done)), (by first | rfl | (simp; done) | (simp [*]; done)), H', ⟨by have := HK1.out; omega⟩, ⟨by (with_reducible repeat (first | refine blk_drewN ?_ _ | refine blk_drew ?_ | refine blk_alloc ?_ _)); exact BK129.out⟩, ⟨by repeat (first | (with_reducible first | exact HB.out | apply below_alloc | apply pw_below_drewN | apply below_drew1 | refine below_set ?_ GE129.out) | exact HB.out)⟩⟩
          · rw [if_neg c9] at H
            have c9b0 : (t131 != t132) = false := by simpa using c9
            (try (have c9b1 : decide (t131 = t132) = true := by simpa using c9))
            (try (have c9b2 : (t131 == t132) = true := by simpa using c9))
            clear c9
            have H' := Aside0.mk H
            clear H
            have hcz11_0 : wr.cell? ⟨gb129, 0, none⟩ = some (.int .u32 a0_0) := (blk_cell BK129.out 0).trans rfl
            have hcz11_1 : wr.cell? ⟨gb129, 1, none⟩ = some (.int .u32 a0_1) := (blk_cell BK129.out 1).trans rfl
            have hcz11_2 : wr.cell? ⟨gb129, 2, none⟩ = some (.bool a0_2) := (blk_cell BK129.out 2).trans rfl
            have hfz11_0 := blk_frozen BK129.out 0
            have hfz11_1 := blk_frozen BK129.out 1
            have hfz11_2 := blk_frozen BK129.out 2
            go_wp2_with (first | ((with_reducible refine gate_callee (f := 28) rfl ?_); refine goesL_ (some 14) rfl rfl Try.func28 (by kernel_rfl) rfl #[.int .u32 a0_1, .int .i64 x6_1] rfl (by (try simp only [List.map_toArray, List.map_cons, List.map_nil]); first | done | rfl | (simp only [List.length_drop, List.length_take]; rfl)) ?_; (with_reducible refine (signalboxref05_bit.calls k1 a0_1 x6_1 true _ A5.out).mono ?_); rintro e w' ⟨rfl, ⟨nd, rfl⟩⟩; refine ⟨_, rfl, ?_⟩) | (go_at_call 28; (with_reducible refine (signalboxref05_bit.calls k1 a0_0 x6_1 t131 _ A7.out).mono ?_); rintro e w' ⟨rfl, ⟨nd, rfl⟩⟩) | (go_at_call 28; (with_reducible refine (signalboxref05_bit.calls k1 a1 x6_1 t132 _ A8.out).mono ?_); rintro e w' ⟨rfl, ⟨nd, rfl⟩⟩))
            go_roundg k1
            case measure => have := HK1.out; omega
            case rel => exact ⟨(x5_1), (wrap64 (x6_1 + 1)), (by first | rfl | (simp; done) | (simp [*]; done)), (by first | rfl | (simp; done) | (simp [*]; done)), H', ⟨by have := HK1.out; omega⟩, ⟨by (with_reducible repeat (first | refine blk_drewN ?_ _ | refine blk_drew ?_ | refine blk_alloc ?_ _)); exact BK129.out⟩, ⟨by repeat (first | (with_reducible first | exact HB.out | apply below_alloc | apply pw_below_drewN | apply below_drew1 | refine below_set ?_ GE129.out) | exact HB.out)⟩⟩
        · replace c6 := Bool.eq_false_iff.mpr c6
          subst c6
          have H1 : (signalboxref05_Hit.l0 k1 a1 x5_1 (wrap64 (x6_1 + 1)) a0_0 a0_1 a0_2) = some r := by rw [if_neg (show ¬ (false = true) by decide)] at H; exact H
          clear H
          have H := H1
          clear H1
          have H' := Aside0.mk H
          clear H
          have hcz12_0 : wr.cell? ⟨gb129, 0, none⟩ = some (.int .u32 a0_0) := (blk_cell BK129.out 0).trans rfl
          have hcz12_1 : wr.cell? ⟨gb129, 1, none⟩ = some (.int .u32 a0_1) := (blk_cell BK129.out 1).trans rfl
          have hcz12_2 : wr.cell? ⟨gb129, 2, none⟩ = some (.bool a0_2) := (blk_cell BK129.out 2).trans rfl
          have hfz12_0 := blk_frozen BK129.out 0
          have hfz12_1 := blk_frozen BK129.out 1
          have hfz12_2 := blk_frozen BK129.out 2
          go_wp2_with (first | ((with_reducible refine gate_callee (f := 28) rfl ?_); refine goesL_ (some 14) rfl rfl Try.func28 (by kernel_rfl) rfl #[.int .u32 a0_1, .int .i64 x6_1] rfl (by (try simp only [List.map_toArray, List.map_cons, List.map_nil]); first | done | rfl | (simp only [List.length_drop, List.length_take]; rfl)) ?_; (with_reducible refine (signalboxref05_bit.calls k1 a0_1 x6_1 false _ A5.out).mono ?_); rintro e w' ⟨rfl, ⟨nd, rfl⟩⟩; refine ⟨_, rfl, ?_⟩))
          go_roundg k1
          case measure => have := HK1.out; omega
          case rel => exact ⟨(x5_1), (wrap64 (x6_1 + 1)), (by first | rfl | (simp; done) | (simp [*]; done)), (by first | rfl | (simp; done) | (simp [*]; done)), H', ⟨by have := HK1.out; omega⟩, ⟨by (with_reducible repeat (first | refine blk_drewN ?_ _ | refine blk_drew ?_ | refine blk_alloc ?_ _)); exact BK129.out⟩, ⟨by repeat (first | (with_reducible first | exact HB.out | apply below_alloc | apply pw_below_drewN | apply below_drew1 | refine below_set ?_ GE129.out) | exact HB.out)⟩⟩
      · rw [if_neg c4] at H
        have c4b0 : decide (x6_1 < 32) = false := decide_eq_false c4
        clear c4
        obtain rfl := Option.some.inj H
        have hcz13_0 : wr.cell? ⟨gb129, 0, none⟩ = some (.int .u32 a0_0) := (blk_cell BK129.out 0).trans rfl
        have hcz13_1 : wr.cell? ⟨gb129, 1, none⟩ = some (.int .u32 a0_1) := (blk_cell BK129.out 1).trans rfl
        have hcz13_2 : wr.cell? ⟨gb129, 2, none⟩ = some (.bool a0_2) := (blk_cell BK129.out 2).trans rfl
        have hfz13_0 := blk_frozen BK129.out 0
        have hfz13_1 := blk_frozen BK129.out 1
        have hfz13_2 := blk_frozen BK129.out 2
        go_wp2
        go_ret
        exact ⟨by first | rfl | (simp [errW_none, errW_some] <;> rfl) | (simp [*, errW_none, errW_some] <;> rfl), by repeat (first | (with_reducible first | exact HB.out | apply below_alloc | apply pw_below_drewN | apply below_drew1 | refine below_set ?_ GE129.out) | exact HB.out)⟩

/-! ### signalboxref05_flip: function 29 -/
def signalboxref05_flip.l0 : Nat → Int → Int → Int → Int → Option (Int)
  | 0, _, _, _, _ => none
  | k + 1, x0, x1, x5, x6 => if x6 < x1 then (signalboxref05_flip.l0 k x0 x1 ((2 * x5) % 4294967296) (wrap64 (x6 + 1))) else ((signalboxref05_bit.f k x0 x1).bind fun t133 => (if t133 = true then (some ((x0 - x5) % 4294967296)) else (some ((x0 + x5) % 4294967296))))
def signalboxref05_flip.f (k : Nat) (a0 : Int) (a1 : Int) : Option (Int) := if a1 > 31 then (some a0) else (signalboxref05_flip.l0 k a0 a1 1 0)
theorem signalboxref05_flip.mono_l : ∀ k, (∀ y0 y1 y2 y3, LeO (signalboxref05_flip.l0 k y0 y1 y2 y3) (signalboxref05_flip.l0 (k + 1) y0 y1 y2 y3))
  | 0 => fun _ _ _ _ r h => by simp [signalboxref05_flip.l0] at h
  | k + 1 => by
    have ih0 := signalboxref05_flip.mono_l k
    · intro y0 y1 y2 y3
      unfold signalboxref05_flip.l0
      repeat' first
      | (with_reducible exact ih0 _ _ _ _)
      | (with_reducible exact signalboxref05_bit.mono _ _ _)
      | (with_reducible exact LeO.refl _)
      | (with_reducible exact LeO.none _)
      | (with_reducible refine LeO.ite ?_ ?_)
      | (with_reducible refine LeO.bind ?_ (fun _ => ?_))
      | exact ih0 _ _ _ _
      | exact signalboxref05_bit.mono _ _ _
      | exact LeO.none _
      | refine LeO.ite ?_ ?_
      | refine LeO.bind ?_ (fun _ => ?_)
theorem signalboxref05_flip.mono : ∀ a0 a1 k, LeO (signalboxref05_flip.f k a0 a1) (signalboxref05_flip.f (k + 1) a0 a1) := by
  intro a0 a1 k
  have ih0 := signalboxref05_flip.mono_l k
  unfold signalboxref05_flip.f
  repeat' first
      | (with_reducible exact ih0 _ _ _ _)
      | (with_reducible exact signalboxref05_bit.mono _ _ _)
      | (with_reducible exact LeO.refl _)
      | (with_reducible exact LeO.none _)
      | (with_reducible refine LeO.ite ?_ ?_)
      | (with_reducible refine LeO.bind ?_ (fun _ => ?_))
      | exact ih0 _ _ _ _
      | exact signalboxref05_bit.mono _ _ _
      | exact LeO.none _
      | refine LeO.ite ?_ ?_
      | refine LeO.bind ?_ (fun _ => ?_)
set_option maxHeartbeats 8000000 in
set_option maxRecDepth 100000 in
theorem signalboxref05_flip.calls (k : Nat) (a0 : Int) (a1 : Int) (r : Int) (w : World) (h : signalboxref05_flip.f k a0 a1 = some r) :
    Calls Try.prog 29 #[.int .u32 a0, .int .i64 a1] w fun e w' => e = .returned (.int .u32 r) ∧ Drawn0 w w' := by
  have H : (if a1 > 31 then (some a0) else (signalboxref05_flip.l0 k a0 a1 1 0)) = some r := h
  clear h
  by_cases c3 : a1 > 31
  · rw [if_pos c3] at H
    have c3b0 : decide (31 < a1) = true := decide_eq_true c3
    clear c3
    obtain rfl := Option.some.inj H
    go_enter Try.func29, Try.ntmps29
    go_wp2
    go_ret
    exact ⟨by first | rfl | (simp; done) | (simp [*]; done), by repeat (first | exact Drawn0.refl _ | apply Drawn0.step)⟩
  · rw [if_neg c3] at H
    have c3b0 : decide (31 < a1) = false := decide_eq_false c3
    clear c3
    have H' := Aside0.mk H
    clear H
    go_enter Try.func29, Try.ntmps29
    go_wp2
    go_loopg [5, 6] k (fun kq v5 v6 w' => ∃ (x5_1 : Int) (x6_1 : Int), v5 = .int .u32 x5_1 ∧ v6 = .int .i64 x6_1 ∧ Aside0 (signalboxref05_flip.l0 kq a0 a1 x5_1 x6_1 = some r) ∧ Aside0 (kq ≤ k) ∧ Drawn0 w w')
    case atStart => exact ⟨(1), (0), (by first | rfl | (simp; done) | (simp [*]; done)), (by first | rfl | (simp; done) | (simp [*]; done)), H', ⟨Nat.le_refl _⟩, by repeat (first | exact Drawn0.refl _ | apply Drawn0.step)⟩
    case round =>
      clear H'
      try clear c2
      try clear p2
      try clear c3
      try clear c3b0
      obtain ⟨x5_1, x6_1, rfl, rfl, HA, HK1, ⟨m1, rfl⟩⟩ := hrel
      cases gk with
      | zero => exact absurd HA.out (by simp [signalboxref05_flip.l0])
      | succ k1 =>
        have H := HA.out
        clear HA
        simp only [signalboxref05_flip.l0] at H
        by_cases c4 : x6_1 < a1
        · rw [if_pos c4] at H
          have c4b0 : decide (x6_1 < a1) = true := decide_eq_true c4
          clear c4
          have H' := Aside0.mk H
          clear H
          go_wp2
          go_roundg k1
          case measure => have := HK1.out; omega
          case rel => exact ⟨((2 * x5_1) % 4294967296), (wrap64 (x6_1 + 1)), (by first | rfl | (simp; done) | (simp [*]; done) | (refine congrArg _ ?_; omega)), (by first | rfl | (simp; done) | (simp [*]; done) | (refine congrArg _ ?_; omega)), H', ⟨by have := HK1.out; omega⟩, by repeat (first | exact Drawn0.refl _ | apply Drawn0.step)⟩
        · rw [if_neg c4] at H
          have c4b0 : decide (x6_1 < a1) = false := decide_eq_false c4
          clear c4
          replace H := Option.bind_eq_some_iff.mp H
          obtain ⟨t133, A50, H⟩ := H
          replace H : (if t133 = true then (some ((a0 - x5_1) % 4294967296)) else (some ((a0 + x5_1) % 4294967296))) = some r := H
          have A5 := Aside0.mk A50
          clear A50
          by_cases c6 : t133 = true
          · subst c6
            have H1 : (some ((a0 - x5_1) % 4294967296)) = some r := by rw [if_pos rfl] at H; exact H
            clear H
            have H := H1
            clear H1
            obtain rfl := Option.some.inj H
            go_wp2_with (first | ((with_reducible refine gate_callee (f := 28) rfl ?_); refine goesL_ (some 19) rfl rfl Try.func28 (by kernel_rfl) rfl #[.int .u32 a0, .int .i64 a1] rfl (by (try simp only [List.map_toArray, List.map_cons, List.map_nil]); first | done | rfl | (simp only [List.length_drop, List.length_take]; rfl)) ?_; (with_reducible refine (signalboxref05_bit.calls k1 a0 a1 true _ A5.out).mono ?_); rintro e w' ⟨rfl, ⟨nd, rfl⟩⟩; refine ⟨_, rfl, ?_⟩))
            go_ret
            exact ⟨by first | rfl | (simp; done) | (simp [*]; done), by repeat (first | exact Drawn0.refl _ | apply Drawn0.step)⟩
          · replace c6 := Bool.eq_false_iff.mpr c6
            subst c6
            have H1 : (some ((a0 + x5_1) % 4294967296)) = some r := by rw [if_neg (show ¬ (false = true) by decide)] at H; exact H
            clear H
            have H := H1
            clear H1
            obtain rfl := Option.some.inj H
            go_wp2_with (first | ((with_reducible refine gate_callee (f := 28) rfl ?_); refine goesL_ (some 19) rfl rfl Try.func28 (by kernel_rfl) rfl #[.int .u32 a0, .int .i64 a1] rfl (by (try simp only [List.map_toArray, List.map_cons, List.map_nil]); first | done | rfl | (simp only [List.length_drop, List.length_take]; rfl)) ?_; (with_reducible refine (signalboxref05_bit.calls k1 a0 a1 false _ A5.out).mono ?_); rintro e w' ⟨rfl, ⟨nd, rfl⟩⟩; refine ⟨_, rfl, ?_⟩))
            go_ret
            exact ⟨by first | rfl | (simp; done) | (simp [*]; done), by repeat (first | exact Drawn0.refl _ | apply Drawn0.step)⟩

end Go.Proofs.Ytegcifhghjneaaa.PMatchWitness
