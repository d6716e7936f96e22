-- Laid by a program of the session over the kit's print. Not trusted: Lean checks it.
import Derived.Test.YtelplkdbjfkfmaaPWatchThrottlex0
import Derived.Test.YtelplkdbjfkfmaaPWatchThrottlex1
import Derived.Test.YtelplkdbjfkfmaaPWatchThrottlex3
import Derived.Test.YtelplkdbjfkfmaaPWatchThrottlex4
import Derived.Test.YtelplkdbjfkfmaaPWatchThrottlex5
namespace Go.Proofs.Ytelplkdbjfkfmaa.PWatchThrottle
open Go.RowKit Go.Proofs.YtelplkdbjfkfmaaW.PrintWords Go.Proofs.YtelplkdbjfkfmaaW.PrintLast Go.Proofs.YtelplkdbjfkfmaaW.PrintMore
attribute [local go_sem] max2_int min2_int max_two min_two max_three min_three max_four min_four   -- for this text's walks alone
set_option linter.unusedVariables false
set_option linter.unusedSimpArgs false

/-! ### signalboxlaw23_played: function 14 -/
def frS (f : S33) : Int × Int × Int × ByteArray := (f.f0, f.f1, f.f2, f.f3)
def difT (mk : ByteArray) (a b : S33) : Option Bool := if a.f2 = b.f2 then octet_Differ.f a.f3 b.f3 mk else some true
/-- What is told is as the law asks: from one state of it to another. -/
def Ck (l : List S33) (mt : S33 → Bool) (df : S33 → S33 → Bool) (thr : Int) : List S35 → Option S35 → Option S35 → Prop
  | [], a, b => a = b
  | x :: xs, a, b => if x.f0 = 1 then (x.f2 ∈ l ∧ mt x.f2 = true ∧ ((0 ≤ x.f3 ∧ x.f3 ≤ 1000000) ∧ ∀ y, a = some y → x.f3 - y.f3 ≥ thr ∧ df y.f2 x.f2 = true) ∧ Ck l mt df thr xs (some x) b) else Ck l mt df thr xs a b
theorem Ck.app {l : List S33} {mt : S33 → Bool} {df : S33 → S33 → Bool} {thr : Int} : ∀ (xs ys : List S35) (a b c : Option S35), Ck l mt df thr xs a b → Ck l mt df thr ys b c → Ck l mt df thr (xs ++ ys) a c := by
  intro xs
  induction xs with
  | nil =>
    intro ys a b c h1 h2
    have e : a = b := h1
    subst e
    exact h2
  | cons x xs ih =>
    intro ys a b c h1 h2
    unfold Ck at h1
    show Ck l mt df thr (x :: (xs ++ ys)) a c
    unfold Ck
    by_cases q : x.f0 = 1
    · rw [if_pos q] at h1
      rw [if_pos q]
      exact ⟨h1.1, h1.2.1, h1.2.2.1, ih ys _ _ _ h1.2.2.2 h2⟩
    · rw [if_neg q] at h1
      rw [if_neg q]
      exact ih ys _ _ _ h1 h2
theorem Ck.skip {l : List S33} {mt : S33 → Bool} {df : S33 → S33 → Bool} {thr : Int} {x : S35} {a : Option S35} (h : x.f0 ≠ 1) : Ck l mt df thr [x] a a := by
  unfold Ck
  rw [if_neg h]
  rfl
theorem Ck.take {l : List S33} {mt : S33 → Bool} {df : S33 → S33 → Bool} {thr : Int} {x : S35} {a : Option S35} (h : x.f0 = 1) (h1 : x.f2 ∈ l) (h2 : mt x.f2 = true) (h3 : (0 ≤ x.f3 ∧ x.f3 ≤ 1000000) ∧ ∀ y, a = some y → x.f3 - y.f3 ≥ thr ∧ df y.f2 x.f2 = true) : Ck l mt df thr [x] a (some x) := by
  unfold Ck
  rw [if_pos h]
  exact ⟨h1, h2, h3, rfl⟩
/-- The job, what it told and what came last. -/
structure TI (l : List S33) (mt : S33 → Bool) (df : S33 → S33 → Bool) (thr : Int) (s : WS) (ns : List S35) (cm : S33) (now : Int) (b : Option S35) : Prop where
  ck : Ck l mt df thr ns none b
  none_ : b = none → s.told = none
  some_ : ∀ y, b = some y → s.told = some (frS y.f2) ∧ s.at_ = y.f3 ∧ y.f0 = 1 ∧ y.f2 ∈ l ∧ 0 ≤ y.f3 ∧ y.f3 ≤ now
  came : b ≠ none → cm ∈ l ∧ mt cm = true
  free : s.held = none → ∀ y, b = some y → df y.f2 cm = false
  held : ∀ f, s.held = some f → f = frS cm ∧ ∃ y, b = some y ∧ df y.f2 cm = true
theorem w64_near {a b : Int} (h0 : 0 ≤ a) (h1 : a ≤ b) (h2 : b ≤ 1000000) : wrap64 (b - a) = b - a := by
  unfold wrap64
  omega
theorem TI.hear {l : List S33} {mt : S33 → Bool} {df : S33 → S33 → Bool} {thr : Int} {s : WS} {ns : List S35} {cm : S33} {now : Int} {b : Option S35} (H : TI l mt df thr s ns cm now b) (hthr : s.thr = thr) (hdf : ∀ x ∈ l, ∀ y ∈ l, difT s.wmk x y = some (df x y)) (hss : ∀ x ∈ l, df x x = false) (h0 : 0 ≤ now) (h1 : now ≤ 1000000) (x : S33) (hx : x ∈ l) :
    ∃ d, difS { s with heard := now, quiet := false } x.f2 x.f3 = some d ∧ ∃ b', TI l mt df thr (hearS s now (frS x) (mt x) d).2 (ns ++ (if (hearS s now (frS x) (mt x) d).1 = true then [⟨1, wrap64 s.id, x, now⟩] else [])) (if mt x = true then x else cm) now b' := by
  obtain ⟨d, hd, hdb⟩ : ∃ d, difS { s with heard := now, quiet := false } x.f2 x.f3 = some d ∧ ((b = none ∧ d = true) ∨ ∃ y, b = some y ∧ d = df y.f2 x) := by
    cases hb : b with
    | none =>
      refine ⟨true, ?_, Or.inl ⟨rfl, rfl⟩⟩
      unfold difS
      show (match s.told with | none => _ | some f => _) = _
      rw [H.none_ hb]
    | some y =>
      obtain ⟨k1, k2, k3, k4, k5, k6⟩ := H.some_ y hb
      refine ⟨df y.f2 x, ?_, Or.inr ⟨y, rfl, rfl⟩⟩
      rw [← hdf y.f2 k4 x hx]
      unfold difS difT
      show (match s.told with | none => _ | some f => _) = _
      rw [k1]
      rfl
  refine ⟨d, hd, ?_⟩
  cases hm : mt x with
  | false =>
    have e : hearS s now (frS x) false d = (false, s) := by unfold hearS; rw [if_pos rfl]
    rw [e]
    refine ⟨b, ?_⟩
    show TI l mt df thr s (ns ++ []) cm now b
    rw [List.append_nil]
    exact H
  | true =>
    rw [if_pos rfl]
    cases d with
    | false =>
      have e : hearS s now (frS x) true false = (false, { s with heard := now, quiet := false, held := none }) := by unfold hearS; rw [if_neg (by decide), if_pos rfl]
      rw [e]
      refine ⟨b, ?_⟩
      show TI l mt df thr { s with heard := now, quiet := false, held := none } (ns ++ []) x now b
      rw [List.append_nil]
      refine ⟨H.ck, H.none_, H.some_, fun _ => ⟨hx, hm⟩, fun _ y hy => ?_, fun f hf => (by cases hf)⟩
      rcases hdb with ⟨_, h⟩ | ⟨y', hy', h⟩
      · cases h
      · rw [hy] at hy'
        cases hy'
        exact h.symm
    | true =>
      cases hb : b with
      | none =>
        have e : hearS s now (frS x) true true = (true, { s with heard := now, quiet := false, told := some (frS x), at_ := now, held := none }) := by
          unfold hearS
          rw [if_neg (by decide), if_neg (by decide), H.none_ hb]
        rw [e]
        refine ⟨some ⟨1, wrap64 s.id, x, now⟩, ?_⟩
        show TI l mt df thr { s with heard := now, quiet := false, told := some (frS x), at_ := now, held := none } (ns ++ [⟨1, wrap64 s.id, x, now⟩]) x now _
        refine ⟨Ck.app _ _ _ _ _ H.ck (hb ▸ Ck.take rfl hx hm ⟨⟨h0, h1⟩, fun y hy => (by cases hy)⟩), fun h => (by cases h), fun y hy => ?_, fun _ => ⟨hx, hm⟩, fun _ y hy => ?_, fun f hf => (by cases hf)⟩
        · cases hy
          exact ⟨rfl, rfl, rfl, hx, h0, Int.le_refl _⟩
        · cases hy
          exact hss x hx
      | some y =>
        obtain ⟨k1, k2, k3, k4, k5, k6⟩ := H.some_ y hb
        have hdy : df y.f2 x = true := by
          rcases hdb with ⟨h, _⟩ | ⟨y', hy', h⟩
          · rw [hb] at h; cases h
          · rw [hb] at hy'
            cases hy'
            exact h.symm
        have hw : wrap64 (now - s.at_) = now - y.f3 := by rw [k2]; exact w64_near k5 k6 h1
        by_cases c : now - y.f3 < thr
        · have e : hearS s now (frS x) true true = (false, { s with heard := now, quiet := false, held := some (frS x) }) := by
            unfold hearS
            rw [if_neg (by decide), if_neg (by decide), k1]
            show (if wrap64 (now - s.at_) < s.thr then _ else _) = _
            rw [hw, hthr, if_pos c]
          rw [e]
          refine ⟨some y, ?_⟩
          show TI l mt df thr { s with heard := now, quiet := false, held := some (frS x) } (ns ++ []) x now _
          rw [List.append_nil]
          refine ⟨hb ▸ H.ck, fun h => (by cases h), fun y' hy' => H.some_ y' (hb ▸ hy'), fun _ => ⟨hx, hm⟩, fun h => (by cases h), fun f hf => ?_⟩
          cases hf
          exact ⟨rfl, y, rfl, hdy⟩
        · have e : hearS s now (frS x) true true = (true, { s with heard := now, quiet := false, told := some (frS x), at_ := now, held := none }) := by
            unfold hearS
            rw [if_neg (by decide), if_neg (by decide), k1]
            show (if wrap64 (now - s.at_) < s.thr then _ else _) = _
            rw [hw, hthr, if_neg c]
          rw [e]
          refine ⟨some ⟨1, wrap64 s.id, x, now⟩, ?_⟩
          show TI l mt df thr { s with heard := now, quiet := false, told := some (frS x), at_ := now, held := none } (ns ++ [⟨1, wrap64 s.id, x, now⟩]) x now _
          refine ⟨Ck.app _ _ _ _ _ H.ck (hb ▸ Ck.take rfl hx hm ⟨⟨h0, h1⟩, fun y' hy' => ?_⟩), fun h => (by cases h), fun y' hy' => ?_, fun _ => ⟨hx, hm⟩, fun _ y' hy' => ?_, fun f hf => (by cases hf)⟩
          · cases hy'
            exact ⟨by show now - y.f3 ≥ thr; omega, hdy⟩
          · cases hy'
            exact ⟨rfl, rfl, rfl, hx, h0, Int.le_refl _⟩
          · cases hy'
            exact hss x hx
theorem TI.later {l : List S33} {mt : S33 → Bool} {df : S33 → S33 → Bool} {thr : Int} {s : WS} {ns : List S35} {cm : S33} {now nw : Int} {b : Option S35} (H : TI l mt df thr s ns cm now b) (h : now ≤ nw) : TI l mt df thr s ns cm nw b :=
  ⟨H.ck, H.none_, fun y hy => by
    obtain ⟨k1, k2, k3, k4, k5, k6⟩ := H.some_ y hy
    exact ⟨k1, k2, k3, k4, k5, Int.le_trans k6 h⟩, H.came, H.free, H.held⟩
theorem TI.quiet {l : List S33} {mt : S33 → Bool} {df : S33 → S33 → Bool} {thr : Int} {s : WS} {ns : List S35} {cm : S33} {nw : Int} {b : Option S35} (H : TI l mt df thr s ns cm nw b) (id : Int) : ∃ b', TI l mt df thr { s with quiet := true } (ns ++ [⟨2, id, ⟨0, 0, 0, ⟨#[]⟩⟩, nw⟩]) cm nw b' :=
  ⟨b, Ck.app _ _ _ _ _ H.ck (Ck.skip (by show (2 : Int) ≠ 1; decide)), H.none_, H.some_, H.came, H.free, H.held⟩
theorem TI.dueT {l : List S33} {mt : S33 → Bool} {df : S33 → S33 → Bool} {thr : Int} {s : WS} {ns : List S35} {cm : S33} {nw : Int} {b : Option S35} (H : TI l mt df thr s ns cm nw b) (hthr : s.thr = thr) (hss : ∀ x ∈ l, df x x = false) (h0 : 0 ≤ nw) (h1 : nw ≤ 1000000) : ∃ b', TI l mt df thr (dueS s nw (due s nw)) (ns ++ dueL s nw (due s nw)) cm nw b' := by
  cases hdu : due s nw with
  | none =>
    refine ⟨b, ?_⟩
    show TI l mt df thr s (ns ++ []) cm nw b
    rw [List.append_nil]
    exact H
  | some f =>
    unfold due at hdu
    cases hh : s.held with
    | none =>
      rw [hh] at hdu
      cases hdu
    | some f' =>
      rw [hh] at hdu
      replace hdu : (if wrap64 (nw - s.at_) ≥ s.thr then some f' else none) = some f := hdu
      by_cases c : wrap64 (nw - s.at_) ≥ s.thr
      · rw [if_pos c] at hdu
        cases hdu
        obtain ⟨e, y, hy, hd⟩ := H.held f hh
        subst e
        obtain ⟨k1, k2, k3, k4, k5, k6⟩ := H.some_ y hy
        obtain ⟨hc, hm⟩ := H.came (by rw [hy]; exact fun h => (by cases h))
        rw [k2, w64_near k5 k6 h1, hthr] at c
        refine ⟨some ⟨1, wrap64 s.id, cm, nw⟩, ?_⟩
        show TI l mt df thr { s with told := some (frS cm), at_ := nw, held := none } (ns ++ [⟨1, wrap64 s.id, cm, nw⟩]) cm nw _
        refine ⟨Ck.app _ _ _ _ _ H.ck (Ck.take rfl hc hm ⟨⟨h0, h1⟩, fun y' hy' => ?_⟩), fun h => (by cases h), fun y' hy' => ?_, fun _ => ⟨hc, hm⟩, fun _ y' hy' => ?_, fun f hf => (by cases hf)⟩
        · rw [hy] at hy'
          cases hy'
          exact ⟨c, hd⟩
        · cases hy'
          exact ⟨rfl, rfl, rfl, hc, h0, Int.le_refl _⟩
        · cases hy'
          exact hss cm hc
      · rw [if_neg c] at hdu
        cases hdu
theorem TI.tick {l : List S33} {mt : S33 → Bool} {df : S33 → S33 → Bool} {thr : Int} {s : WS} {ns : List S35} {cm : S33} {now nw : Int} {b : Option S35} (H : TI l mt df thr s ns cm now b) (hthr : s.thr = thr) (hss : ∀ x ∈ l, df x x = false) (hn : now ≤ nw) (h0 : 0 ≤ nw) (h1 : nw ≤ 1000000) :
    ∃ b', TI l mt df thr (if silB s nw = true then { dueS s nw (due s nw) with quiet := true } else dueS s nw (due s nw)) (ns ++ (dueL s nw (due s nw) ++ (if silB s nw = true then [(⟨2, wrap64 s.id, (⟨0, 0, 0, ⟨#[]⟩⟩ : S33), nw⟩ : S35)] else []))) cm nw b' := by
  obtain ⟨b1, H1⟩ := (H.later hn).dueT hthr hss h0 h1
  by_cases c : silB s nw = true
  · rw [if_pos c, if_pos c, ← List.append_assoc]
    exact H1.quiet _
  · rw [if_neg c, if_neg c, List.append_nil]
    exact ⟨b1, H1⟩
set_option maxRecDepth 1000000 in
set_option maxHeartbeats 16000000 in
theorem new_bad (k : Nat) (id mk : Int) (inv : Bool) (wmk : ByteArray) (thr sil now : Int) (w : World) (h : watch_Right.f k id mk inv wmk thr sil = some 2) :
    Calls Try.prog 9 #[.agg #[.int .u32 id, .int .u32 mk, .bool inv, .string wmk, .int .i64 thr, .int .i64 sil], .int .i64 now] w fun e w' => e = .returned (.tuple #[.pointer none, .int .i64 2]) ∧ Below w.heap.size w w' := by
  have hu := Try.underlying33
  have hu2 := Try.underlying72
  have hu3 := Try.underlying31
  have hu4 := Try.underlying29
  have hu5 := Try.underlying35
  have hu6 := Try.underlying39
  have HR := Aside0.mk (fun (W : World) => watch_Right.calls k id mk inv wmk thr sil 2 W h)
  clear h
  go_enter Try.func9, Try.ntmps9
  go_wp2_with (go_at_call 21; (with_reducible refine (HR.out _).mono ?_); rintro e w1 ⟨rfl, hb⟩; have HB := Aside0.mk (below_step (below_alloc (Below.refl w.heap.size w) (Obj.cells #[.int .u32 id, .int .u32 mk, .bool inv, .string wmk, .int .i64 thr, .int .i64 sil] 31 (0, 0))) hb); clear hb)
  go_ret2
  exact ⟨rfl, HB.out⟩
theorem WAt.came {W : World} {base g n : Nat} {s : WS} {cs : Array Value} (h : WAt W base g s) (hn : W.heap[n]? = some (.cells cs 33 (0, 0))) (hlt : n < base) (j : Nat) (u : Value) : WAt (W.setCell ⟨n, j, none⟩ u) base g s := by
  obtain ⟨h0, pt, ph, h1, h2, h3⟩ := h
  have hg : g ≠ n := by
    intro e
    rw [e, hn] at h1
    injection h1 with h1
    injection h1 with _ h1
    exact absurd h1 (by decide)
  have far : ∀ (v : Value) (o : Option (Int × Int × Int × ByteArray)), FrAt W base v o → FrAt (W.setCell ⟨n, j, none⟩ u) base v o := by
    intro v o hf
    cases o with
    | none => exact hf
    | some f =>
      obtain ⟨b, q1, q2, q3⟩ := hf
      exact ⟨b, q1, q2, blk_far q3 (show b ≠ n by omega) u⟩
  exact ⟨h0, pt, ph, blk_far h1 hg u, far _ _ h2, far _ _ h3⟩
theorem WAt.start {W : World} {base base' g : Nat} {s : WS} (h : WAt W base g s) (h1 : s.told = none) (h2 : s.held = none) : WAt W base' g s := by
  obtain ⟨h0, pt, ph, k1, k2, k3⟩ := h
  refine ⟨h0, pt, ph, k1, ?_, ?_⟩
  · rw [h1] at k2 ⊢
    exact k2
  · rw [h2] at k3 ⊢
    exact k3
theorem WAt.ne_ty {W : World} {base g n t : Nat} {s : WS} {cs : Array Value} (h : WAt W base g s) (hn : W.heap[n]? = some (.cells cs t (0, 0))) (ht : t ≠ 72) : n ≠ g := by
  obtain ⟨h0, pt, ph, h1, h2, h3⟩ := h
  intro e
  rw [e, h1] at hn
  injection hn with hn
  injection hn with _ hn
  exact ht hn.symm
/-- What lies in the world. -/
structure StT (w W : World) (g rb cb : Nat) (s : WS) (v : Value) (ns : List S35) (cm : S33) : Prop where
  HB : Below w.heap.size w W
  HA : WAt W (cb + 1) g s
  HC : W.heap[cb]? = some (.cells #[.int .i64 cm.f0, .int .i64 cm.f1, .int .i64 cm.f2, .string cm.f3] 33 (0, 0))
  HZ : W.heap[rb]? = some (.cells #[.int .i64 0, .int .i64 0, .int .i64 0, .string (⟨#[]⟩ : ByteArray)] 33 (0, 0))
  HR : Kd.R k35 35 W w.heap.size (fun k => some k = v.ownBlock) v ns
  hg : w.heap.size ≤ g
  hc : w.heap.size ≤ cb
  hr : w.heap.size ≤ rb
  hne : rb ≠ cb
theorem StT.call {w W W' : World} {g rb cb : Nat} {s : WS} {v : Value} {ns : List S35} {cm : S33} (H : StT w W g rb cb s v ns cm) (k : Below W.heap.size W W') : StT w W' g rb cb s v ns cm :=
  ⟨below_step H.HB k, H.HA.call k, blk_below H.HC k, blk_below H.HZ k, Kd.R_below H.HR k, H.hg, H.hc, H.hr, H.hne⟩
theorem StT.drew {w W : World} {g rb cb : Nat} {s : WS} {v : Value} {ns : List S35} {cm : S33} (H : StT w W g rb cb s v ns cm) : StT w W.drew g rb cb s v ns cm := H.call (below_drew1 (Below.refl _ _))
theorem StT.drewN {w W : World} {g rb cb : Nat} {s : WS} {v : Value} {ns : List S35} {cm : S33} (H : StT w W g rb cb s v ns cm) (n : Nat) : StT w (W.drewN n) g rb cb s v ns cm := H.call (pw_below_drewN (Below.refl _ _) n)
theorem StT.alloc {w W : World} {g rb cb : Nat} {s : WS} {v : Value} {ns : List S35} {cm : S33} (H : StT w W g rb cb s v ns cm) (o : Obj) : StT w (W.alloc o) g rb cb s v ns cm := H.call (below_alloc (Below.refl _ _) o)
theorem StT.wk {w W W' : World} {g rb cb : Nat} {s s' : WS} {v : Value} {ns : List S35} {cm : S33} (H : StT w W g rb cb s v ns cm) (hA : WAt W' (cb + 1) g s') (hK : Wk (cb + 1) g W W') : StT w W' g rb cb s' v ns cm := by
  refine ⟨H.HB.trans (hK.below.mono (Nat.le_min.mpr ⟨Nat.le_succ_of_le H.hc, H.hg⟩)), hA, hK.keep.blk H.HC (H.HA.ne_ty H.HC (by decide)) (fun e => by cases e), hK.keep.blk H.HZ (H.HA.ne_ty H.HZ (by decide)) (fun e => by cases e), Kd.R_keep H.HR hK.keep (fun k hk e => ?_), H.hg, H.hc, H.hr, H.hne⟩
  obtain ⟨h0, pt, ph, h1, h2, h3⟩ := H.HA
  exact Kd.R_ne H.HR h1 (by decide) (e ▸ hk)
theorem StT.app {w W W' : World} {g rb cb : Nat} {s : WS} {v v' : Value} {ns ns' : List S35} {cm : S33} {P : Nat → Prop} (H : StT w W g rb cb s v ns cm) (hR : Kd.R k35 35 W' w.heap.size P v' ns') (hg : W.grownBy W' v.ownBlock) (hB : Below w.heap.size w W') : StT w W' g rb cb s v' ns' cm :=
  ⟨hB, H.HA.grownV H.HR hg, (hg.block cb (blk_lt H.HC) (Kd.R_ne H.HR H.HC (by decide))).trans H.HC, (hg.block rb (blk_lt H.HZ) (Kd.R_ne H.HR H.HZ (by decide))).trans H.HZ, Kd.R_tight (by rfl) hR, H.hg, H.hc, H.hr, H.hne⟩
theorem StT.came {w W : World} {g rb cb : Nat} {s : WS} {v : Value} {ns : List S35} {cm : S33} (H : StT w W g rb cb s v ns cm) (x : S33) : StT w ((((W.setCell ⟨cb, 0, none⟩ (.int .i64 x.f0)).setCell ⟨cb, 1, none⟩ (.int .i64 x.f1)).setCell ⟨cb, 2, none⟩ (.int .i64 x.f2)).setCell ⟨cb, 3, none⟩ (.string x.f3)) g rb cb s v ns x := by
  have b0 := blk_set H.HC 0 (.int .i64 x.f0)
  have b1 := blk_set b0 1 (.int .i64 x.f1)
  have b2 := blk_set b1 2 (.int .i64 x.f2)
  have nk : ∀ k, some k = v.ownBlock → k ≠ cb := fun k hk e => Kd.R_ne H.HR H.HC (by decide) (e ▸ hk)
  exact ⟨below_set (below_set (below_set (below_set H.HB H.hc) H.hc) H.hc) H.hc, (((H.HA.came H.HC (Nat.lt_succ_self _) 0 _).came b0 (Nat.lt_succ_self _) 1 _).came b1 (Nat.lt_succ_self _) 2 _).came b2 (Nat.lt_succ_self _) 3 _,
    blk_put (blk_put (blk_put (blk_put H.HC 0 _ rfl) 1 _ rfl) 2 _ rfl) 3 _ rfl, blk_far (blk_far (blk_far (blk_far H.HZ H.hne _) H.hne _) H.hne _) H.hne _,
    Kd.R_far (Kd.R_far (Kd.R_far (Kd.R_far H.HR nk _) nk _) nk _) nk _, H.hg, H.hc, H.hr, H.hne⟩
/-- A slice that can be read. -/
def NR (W : World) (v : Value) (ns : List S35) : Prop := ∃ A c, v = .slice A ns.length c ∧ ns.length ≤ c ∧ Kd.C k35 W A ns.length ns
theorem NR.call {W W' : World} {v : Value} {ns : List S35} (H : NR W v ns) (k : Below W.heap.size W W') : NR W' v ns := by
  obtain ⟨A, c, e, h1, h2⟩ := H
  exact ⟨A, c, e, h1, Kd.C_below h2 k⟩
theorem NR.of {W : World} {v : Value} {ns : List S35} {base : Nat} {ok : Nat → Prop} (H : Kd.R k35 35 W base ok v ns) : NR W v ns := by
  obtain ⟨A, c, e, h1, h2⟩ := Kd.R_reads H
  exact ⟨A, c, e, h1, h2⟩
theorem tick_c (s : WS) (nw : Int) (a b : Int) (c : Bool) (d : ByteArray) (e f : Int) (h : s.id = a ∧ s.km = b ∧ s.inv = c ∧ s.wmk = d ∧ s.thr = e ∧ s.sil = f) : (if silB s nw = true then { dueS s nw (due s nw) with quiet := true } else dueS s nw (due s nw)).id = a ∧ (if silB s nw = true then { dueS s nw (due s nw) with quiet := true } else dueS s nw (due s nw)).km = b ∧ (if silB s nw = true then { dueS s nw (due s nw) with quiet := true } else dueS s nw (due s nw)).inv = c ∧ (if silB s nw = true then { dueS s nw (due s nw) with quiet := true } else dueS s nw (due s nw)).wmk = d ∧ (if silB s nw = true then { dueS s nw (due s nw) with quiet := true } else dueS s nw (due s nw)).thr = e ∧ (if silB s nw = true then { dueS s nw (due s nw) with quiet := true } else dueS s nw (due s nw)).sil = f := by
  by_cases c : silB s nw = true
  · simp only [if_pos c]
    cases due s nw with
    | none => exact h
    | some f => exact h
  · simp only [if_neg c]
    cases due s nw with
    | none => exact h
    | some f => exact h
theorem hear_t (k base g : Nat) (s : WS) (now nw : Int) (x : S33) (m df : Bool) (w : World) (hb : base ≤ w.heap.size) (hgw : g < w.heap.size) (hW : WAt w base g s) (hm : match_Match.f k s.id s.km s.inv x.f0 x.f1 x.f2 x.f3 = some m) (hw : watch_within.f now = some nw) (hd : difS { s with heard := nw, quiet := false } x.f2 x.f3 = some df) (ht : (hearS s nw (frS x) m df).1 = true) :
    Calls Try.prog 10 #[.pointer (some ⟨g, 0, none⟩), .int .i64 now, .agg #[.int .i64 x.f0, .int .i64 x.f1, .int .i64 x.f2, .string x.f3]] w fun e w' => e = .returned (.tuple #[.agg #[.int .i64 1, .int .i64 (wrap64 s.id), .int .i64 x.f0, .int .i64 x.f1, .int .i64 x.f2, .string x.f3, .int .i64 nw], .bool true]) ∧ WAt w' base g (hearS s nw (frS x) m df).2 ∧ Wk base g w w' := by
  refine (hear_ok k base g s now nw x.f0 x.f1 x.f2 x.f3 m df w hb hgw hW hm hw hd).mono ?_
  rintro e w' ⟨rfl, hA, hK⟩
  refine ⟨?_, hA, hK⟩
  show Ending.returned (if (hearS s nw (frS x) m df).1 = true then _ else _) = _
  rw [if_pos ht]
theorem hear_f (k base g : Nat) (s : WS) (now nw : Int) (x : S33) (m df : Bool) (w : World) (hb : base ≤ w.heap.size) (hgw : g < w.heap.size) (hW : WAt w base g s) (hm : match_Match.f k s.id s.km s.inv x.f0 x.f1 x.f2 x.f3 = some m) (hw : watch_within.f now = some nw) (hd : difS { s with heard := nw, quiet := false } x.f2 x.f3 = some df) (ht : (hearS s nw (frS x) m df).1 = false) :
    Calls Try.prog 10 #[.pointer (some ⟨g, 0, none⟩), .int .i64 now, .agg #[.int .i64 x.f0, .int .i64 x.f1, .int .i64 x.f2, .string x.f3]] w fun e w' => e = .returned (.tuple #[.agg #[.int .i64 0, .int .i64 0, .int .i64 0, .int .i64 0, .int .i64 0, .string (⟨#[]⟩ : ByteArray), .int .i64 0], .bool false]) ∧ WAt w' base g (hearS s nw (frS x) m df).2 ∧ Wk base g w w' := by
  refine (hear_ok k base g s now nw x.f0 x.f1 x.f2 x.f3 m df w hb hgw hW hm hw hd).mono ?_
  rintro e w' ⟨rfl, hA, hK⟩
  refine ⟨?_, hA, hK⟩
  show Ending.returned (if (hearS s nw (frS x) m df).1 = true then _ else _) = _
  rw [if_neg (by rw [ht]; decide)]
theorem hear_c (s : WS) (nw : Int) (fr : Int × Int × Int × ByteArray) (m df : Bool) (a b : Int) (c : Bool) (d : ByteArray) (e f : Int) (h : s.id = a ∧ s.km = b ∧ s.inv = c ∧ s.wmk = d ∧ s.thr = e ∧ s.sil = f) : (hearS s nw fr m df).2.id = a ∧ (hearS s nw fr m df).2.km = b ∧ (hearS s nw fr m df).2.inv = c ∧ (hearS s nw fr m df).2.wmk = d ∧ (hearS s nw fr m df).2.thr = e ∧ (hearS s nw fr m df).2.sil = f := by
  unfold hearS
  by_cases c1 : m = false
  · rw [if_pos c1]
    exact h
  · rw [if_neg c1]
    by_cases c2 : df = false
    · rw [if_pos c2]
      exact h
    · rw [if_neg c2]
      cases s.told with
      | none => exact h
      | some t =>
        show (if wrap64 (nw - s.at_) < s.thr then _ else _ : Bool × WS).2.id = a ∧ _
        by_cases c3 : wrap64 (nw - s.at_) < s.thr
        · simp only [if_pos c3]
          exact h
        · simp only [if_neg c3]
          exact h
def PFT (id km : Int) (inv : Bool) (mk : ByteArray) (l : List S33) (mt : S33 → Bool) (df : S33 → S33 → Bool) : Prop := (∀ x ∈ l, ∃ K, match_Match.f K id km inv x.f0 x.f1 x.f2 x.f3 = some (mt x)) ∧ (∀ x ∈ l, ∀ y ∈ l, difT mk x y = some (df x y)) ∧ ∀ x ∈ l, df x x = false
def PlP (rr id km : Int) (inv : Bool) (mk : ByteArray) (thr sil : Int) (l : List S33) (mt : S33 → Bool) (df : S33 → S33 → Bool) (e : Ending) (w w' : World) : Prop := Below w.heap.size w w' ∧ (e = .returned (.tuple #[.slice none 0 0, .pointer none, .agg #[.int .i64 0, .int .i64 0, .int .i64 0, .string (⟨#[]⟩ : ByteArray)], .int .i64 0]) ∨
  ∃ v g base s ns cm now b, e = .returned (.tuple #[v, .pointer (some ⟨g, 0, none⟩), .agg #[.int .i64 cm.f0, .int .i64 cm.f1, .int .i64 cm.f2, .string cm.f3], .int .i64 now]) ∧ rr = 0 ∧ WAt w' base g s ∧ NR w' v ns ∧ (s.id = id ∧ s.km = km ∧ s.inv = inv ∧ s.wmk = mk ∧ s.thr = thr ∧ s.sil = sil) ∧ TI l mt df thr s ns cm now b ∧ ns.length ≤ 5000)
theorem w_in (x : Int) (h0 : 0 ≤ x) (h1 : x ≤ 1000000) : watch_within.f x = some x := by
  show some (mn (mx x 0) 2305843009213693952) = some x
  unfold mn mx
  congr 1
  repeat' split
  all_goals omega
theorem mem33 (l : List S33) (i : Int) (h0 : 0 ≤ i) (h1 : i < l.length) : rd_T33 l i ∈ l := by
  unfold rd_T33
  rw [List.getD_eq_getElem?_getD, List.getElem?_eq_getElem (by omega : i.toNat < l.length)]
  exact List.getElem_mem _
theorem hear_q (k base g : Nat) (s : WS) (now nw : Int) (x : S33) (m df : Bool) (w : World) (hb : base ≤ w.heap.size) (hgw : g < w.heap.size) (hW : WAt w base g s) (hm : match_Match.f k s.id s.km s.inv x.f0 x.f1 x.f2 x.f3 = some m) (hw : watch_within.f now = some nw) (hd : difS { s with heard := nw, quiet := false } x.f2 x.f3 = some df) :
    Calls Try.prog 10 #[.pointer (some ⟨g, 0, none⟩), .int .i64 now, .agg #[.int .i64 x.f0, .int .i64 x.f1, .int .i64 x.f2, .string x.f3]] w fun e w' => ∃ (y : S35) (t : Bool), e = .returned (.tuple #[.agg #[.int .i64 y.f0, .int .i64 y.f1, .int .i64 y.f2.f0, .int .i64 y.f2.f1, .int .i64 y.f2.f2, .string y.f2.f3, .int .i64 y.f3], .bool t]) ∧ (t = (hearS s nw (frS x) m df).1 ∧ (t = true → y = ⟨1, wrap64 s.id, x, nw⟩)) ∧ WAt w' base g (hearS s nw (frS x) m df).2 ∧ Wk base g w w' := by
  cases ht : (hearS s nw (frS x) m df).1 with
  | true =>
    refine (hear_t k base g s now nw x m df w hb hgw hW hm hw hd ht).mono ?_
    rintro e w' ⟨rfl, hA, hK⟩
    exact ⟨⟨1, wrap64 s.id, x, nw⟩, true, rfl, ⟨rfl, fun _ => rfl⟩, hA, hK⟩
  | false =>
    refine (hear_f k base g s now nw x m df w hb hgw hW hm hw hd ht).mono ?_
    rintro e w' ⟨rfl, hA, hK⟩
    exact ⟨⟨0, 0, ⟨0, 0, 0, ⟨#[]⟩⟩, 0⟩, false, rfl, ⟨rfl, fun h => by cases h⟩, hA, hK⟩
theorem len_tick (s : WS) (nw : Int) : (dueL s nw (due s nw) ++ (if silB s nw = true then [(⟨2, wrap64 s.id, (⟨0, 0, 0, ⟨#[]⟩⟩ : S33), nw⟩ : S35)] else [])).length ≤ 2 := by
  rw [List.length_append]
  have h1 : (dueL s nw (due s nw)).length ≤ 1 := by
    cases due s nw with
    | none => exact Nat.zero_le 1
    | some f => exact Nat.le_refl 1
  have h2 : (if silB s nw = true then [(⟨2, wrap64 s.id, (⟨0, 0, 0, ⟨#[]⟩⟩ : S33), nw⟩ : S35)] else []).length ≤ 1 := by
    by_cases c : silB s nw = true
    · rw [if_pos c]
      exact Nat.le_refl 1
    · rw [if_neg c]
      exact Nat.zero_le 1
  omega
theorem len_hear (ns : List S35) (t : Bool) (y : S35) : ((ns ++ (if t = true then [y] else [])).length : Int) ≤ ns.length + 1 := by
  rw [List.length_append]
  cases t with
  | true =>
    rw [if_pos rfl]
    exact Int.le_refl _
  | false =>
    rw [if_neg (by decide)]
    show ((ns.length + 0 : Nat) : Int) ≤ _
    omega
theorem k35_KM (W : World) (base : Nat) (okp : Nat → Prop) : ∀ (x : S35) (cs : List Value), k35.K W x cs → k35.M W base okp x cs := by
  intro x cs hk
  obtain rfl := k35_open hk
  exact k35_mkM _ _ _ x
theorem StT.done {w W : World} {g rb cb : Nat} {s : WS} {v : Value} {ns : List S35} {cm : S33} (H : StT w W g rb cb s v ns cm) (hlt : rb < cb) (x : S33) :
    Below w.heap.size w ((((W.setCell ⟨rb, 0, none⟩ (.int .i64 x.f0)).setCell ⟨rb, 1, none⟩ (.int .i64 x.f1)).setCell ⟨rb, 2, none⟩ (.int .i64 x.f2)).setCell ⟨rb, 3, none⟩ (.string x.f3)) ∧
    WAt ((((W.setCell ⟨rb, 0, none⟩ (.int .i64 x.f0)).setCell ⟨rb, 1, none⟩ (.int .i64 x.f1)).setCell ⟨rb, 2, none⟩ (.int .i64 x.f2)).setCell ⟨rb, 3, none⟩ (.string x.f3)) (cb + 1) g s ∧
    NR ((((W.setCell ⟨rb, 0, none⟩ (.int .i64 x.f0)).setCell ⟨rb, 1, none⟩ (.int .i64 x.f1)).setCell ⟨rb, 2, none⟩ (.int .i64 x.f2)).setCell ⟨rb, 3, none⟩ (.string x.f3)) v ns ∧
    ((((W.setCell ⟨rb, 0, none⟩ (.int .i64 x.f0)).setCell ⟨rb, 1, none⟩ (.int .i64 x.f1)).setCell ⟨rb, 2, none⟩ (.int .i64 x.f2)).setCell ⟨rb, 3, none⟩ (.string x.f3)).heap[rb]? = some (.cells #[.int .i64 x.f0, .int .i64 x.f1, .int .i64 x.f2, .string x.f3] 33 (0, 0)) := by
  have b0 := blk_set H.HZ 0 (.int .i64 x.f0)
  have b1 := blk_set b0 1 (.int .i64 x.f1)
  have b2 := blk_set b1 2 (.int .i64 x.f2)
  have nk : ∀ k, some k = v.ownBlock → k ≠ rb := fun k hk e => Kd.R_ne H.HR H.HZ (by decide) (e ▸ hk)
  have hl : rb < cb + 1 := Nat.lt_succ_of_lt hlt
  exact ⟨below_set (below_set (below_set (below_set H.HB H.hr) H.hr) H.hr) H.hr, (((H.HA.came H.HZ hl 0 _).came b0 hl 1 _).came b1 hl 2 _).came b2 hl 3 _, NR.of (Kd.R_far (Kd.R_far (Kd.R_far (Kd.R_far H.HR nk _) nk _) nk _) nk _), blk_put (blk_put (blk_put (blk_put H.HZ 0 _ rfl) 1 _ rfl) 2 _ rfl) 3 _ rfl⟩
set_option maxRecDepth 1000000 in
set_option maxHeartbeats 16000000 in
theorem played_ok (id km : Int) (inv : Bool) (mk : ByteArray) (thr sil : Int) (mt : S33 → Bool) (df : S33 → S33 → Bool) (A1 : Option Addr) (c1 : Nat) (l1 : List S33) (A2 : Option Addr) (c2 : Nat) (l2 : List Int) (rr : Int) (w : World) (hr1 : Kd.C k33 w A1 l1.length l1) (hc1 : l1.length ≤ c1) (hr2 : Kd.C (Kd.int .i64) w A2 l2.length l2) (hc2 : l2.length ≤ c2) (hlen : l1.length ≤ 100) (hrr : watch_Right.f 5 id km inv mk thr sil = some rr) (hr02 : rr = 0 ∨ rr = 2) (hpf : rr = 0 → PFT id km inv mk l1 mt df) :
    Calls Try.prog 14 #[.agg #[.int .u32 id, .int .u32 km, .bool inv, .string mk, .int .i64 thr, .int .i64 sil], .slice A1 l1.length c1, .slice A2 l2.length c2] w fun e w' => PlP rr id km inv mk thr sil l1 mt df e w w' := by
  have HR1 := Aside0.mk hr1
  have HR2 := Aside0.mk hr2
  have HLN := Aside0.mk hlen
  have HPF := Aside0.mk hpf
  have HRR := Aside0.mk hrr
  have HB := Aside0.mk (below_alloc (below_alloc (Below.refl w.heap.size w) (Obj.cells #[.int .u32 id, .int .u32 km, .bool inv, .string mk, .int .i64 thr, .int .i64 sil] 31 (0, 0))) (Obj.cells #[.int .i64 0, .int .i64 0, .int .i64 0, .string (⟨#[]⟩ : ByteArray)] 33 (0, 0)))
  have HJ := Aside0.mk (blk_alloc (blk_new w (Obj.cells #[.int .u32 id, .int .u32 km, .bool inv, .string mk, .int .i64 thr, .int .i64 sil] 31 (0, 0))) (Obj.cells #[.int .i64 0, .int .i64 0, .int .i64 0, .string (⟨#[]⟩ : ByteArray)] 33 (0, 0)))
  have HZ := Aside0.mk (blk_new (w.alloc (Obj.cells #[.int .u32 id, .int .u32 km, .bool inv, .string mk, .int .i64 thr, .int .i64 sil] 31 (0, 0))) (Obj.cells #[.int .i64 0, .int .i64 0, .int .i64 0, .string (⟨#[]⟩ : ByteArray)] 33 (0, 0)))
  have HSZ := Aside0.mk (show (w.alloc (Obj.cells #[.int .u32 id, .int .u32 km, .bool inv, .string mk, .int .i64 thr, .int .i64 sil] 31 (0, 0))).heap.size = w.heap.size + 1 from Array.size_push ..)
  have hu := Try.underlying33
  have hu2 := Try.underlying72
  have hu3 := Try.underlying31
  have hu4 := Try.underlying29
  have hu5 := Try.underlying35
  have hu6 := Try.underlying39
  have hu44 := Try.underlying44
  have hu42 := Try.underlying42
  clear hr1 hr2 hlen hpf hrr
  go_enter Try.func14, Try.ntmps14
  go_upto_region 1 with (fail)
  rw [HSZ.out] at HZ
  generalize ((w.alloc (Obj.cells #[.int .u32 id, .int .u32 km, .bool inv, .string mk, .int .i64 thr, .int .i64 sil] 31 (0, 0))).alloc (Obj.cells #[.int .i64 0, .int .i64 0, .int .i64 0, .string (⟨#[]⟩ : ByteArray)] 33 (0, 0))) = W0 at HB HJ HZ ⊢
  have hj0 : W0.cell? ⟨w.heap.size, 0, none⟩ = some (.int .u32 id) := (blk_cell HJ.out 0).trans rfl; have hj1 : W0.cell? ⟨w.heap.size, 1, none⟩ = some (.int .u32 km) := (blk_cell HJ.out 1).trans rfl; have hj2 : W0.cell? ⟨w.heap.size, 2, none⟩ = some (.bool inv) := (blk_cell HJ.out 2).trans rfl; have hj3 : W0.cell? ⟨w.heap.size, 3, none⟩ = some (.string mk) := (blk_cell HJ.out 3).trans rfl; have hj4 : W0.cell? ⟨w.heap.size, 4, none⟩ = some (.int .i64 thr) := (blk_cell HJ.out 4).trans rfl; have hj5 : W0.cell? ⟨w.heap.size, 5, none⟩ = some (.int .i64 sil) := (blk_cell HJ.out 5).trans rfl
  rcases hr02 with hr0 | hr0
  · subst hr0
    have hpf2 := HPF.out rfl
    have HPM := Aside0.mk hpf2.1
    have HPD := Aside0.mk hpf2.2.1
    have HPS := Aside0.mk hpf2.2.2
    clear hpf2 HPF
    have e1 : decide ((100 : Int) < (l1.length : Int)) = false := decide_eq_false (by have := HLN.out; omega)
    by_cases c : l2.length < l1.length
    · have e2 : decide (l2.length < l1.length) = true := decide_eq_true c
      clear c
      go_upto_region 3 with (go_at_call 9; (with_reducible refine (new_ok 5 id km inv mk thr sil 0 0 _ HRR.out (w_in 0 (by decide) (by decide))).mono ?_); rintro e w2 ⟨g, rfl, hA, hg, hb⟩; clear hj0 hj1 hj2 hj3 hj4 hj5; have n0_ := Aside0.mk (below_step HB.out hb); have n1_ := Aside0.mk (blk_below HZ.out hb); have HG := Aside0.mk (Nat.le_trans (below_size HB.out) hg); have HA := Aside0.mk hA; clear HB HJ HZ hb hA hg; have HB := n0_; have HZ := n1_; clear n0_ n1_)
      have hz0 : w2.cell? ⟨w.heap.size + 1, 0, none⟩ = some (.int .i64 0) := (blk_cell HZ.out 0).trans rfl; have hz1 : w2.cell? ⟨w.heap.size + 1, 1, none⟩ = some (.int .i64 0) := (blk_cell HZ.out 1).trans rfl; have hz2 : w2.cell? ⟨w.heap.size + 1, 2, none⟩ = some (.int .i64 0) := (blk_cell HZ.out 2).trans rfl; have hz3 : w2.cell? ⟨w.heap.size + 1, 3, none⟩ = some (.string (⟨#[]⟩ : ByteArray)) := (blk_cell HZ.out 3).trans rfl
      have hq0 : w2.frozen? ⟨w.heap.size + 1, 0, none⟩ = false := blk_frozen HZ.out 0
      have hq1 : w2.frozen? ⟨w.heap.size + 1, 1, none⟩ = false := blk_frozen HZ.out 1
      have hq2 : w2.frozen? ⟨w.heap.size + 1, 2, none⟩ = false := blk_frozen HZ.out 2
      have hq3 : w2.frozen? ⟨w.heap.size + 1, 3, none⟩ = false := blk_frozen HZ.out 3
      go_wp2
      have HZ9 := Aside0.mk (show (((((w2.setCell ⟨w.heap.size + 1, 0, none⟩ (.int .i64 0)).setCell ⟨w.heap.size + 1, 1, none⟩ (.int .i64 0)).setCell ⟨w.heap.size + 1, 2, none⟩ (.int .i64 0)).setCell ⟨w.heap.size + 1, 3, none⟩ (.string (⟨#[]⟩ : ByteArray)))).heap[w.heap.size + 1]? = some (.cells #[.int .i64 0, .int .i64 0, .int .i64 0, .string (⟨#[]⟩ : ByteArray)] 33 (0, 0)) from (blk_put (blk_put (blk_put (blk_put HZ.out 0 _ rfl) 1 _ rfl) 2 _ rfl) 3 _ rfl))
      have HB9 := Aside0.mk (show Below w.heap.size w ((((w2.setCell ⟨w.heap.size + 1, 0, none⟩ (.int .i64 0)).setCell ⟨w.heap.size + 1, 1, none⟩ (.int .i64 0)).setCell ⟨w.heap.size + 1, 2, none⟩ (.int .i64 0)).setCell ⟨w.heap.size + 1, 3, none⟩ (.string (⟨#[]⟩ : ByteArray))) from (below_set (below_set (below_set (below_set (HB.out) (Nat.le_succ _)) (Nat.le_succ _)) (Nat.le_succ _)) (Nat.le_succ _)))
      generalize ((((w2.setCell ⟨w.heap.size + 1, 0, none⟩ (.int .i64 0)).setCell ⟨w.heap.size + 1, 1, none⟩ (.int .i64 0)).setCell ⟨w.heap.size + 1, 2, none⟩ (.int .i64 0)).setCell ⟨w.heap.size + 1, 3, none⟩ (.string (⟨#[]⟩ : ByteArray))) = W9 at HZ9 HB9 ⊢
      have h9_0 : W9.cell? ⟨w.heap.size + 1, 0, none⟩ = some (.int .i64 0) := (blk_cell HZ9.out 0).trans rfl; have h9_1 : W9.cell? ⟨w.heap.size + 1, 1, none⟩ = some (.int .i64 0) := (blk_cell HZ9.out 1).trans rfl; have h9_2 : W9.cell? ⟨w.heap.size + 1, 2, none⟩ = some (.int .i64 0) := (blk_cell HZ9.out 2).trans rfl; have h9_3 : W9.cell? ⟨w.heap.size + 1, 3, none⟩ = some (.string (⟨#[]⟩ : ByteArray)) := (blk_cell HZ9.out 3).trans rfl
      refine bodyPost_ret (results_list (rs := [.tmp 6, .tmp 7, .cell 8 33, .tmp 9]) rfl (by simp) (.tmp (.tmp (.cell (w.heap.size + 1) 33 #[.int .i64 0, .int .i64 0, .int .i64 0, .string (⟨#[]⟩ : ByteArray)] (0, 0) _ rfl HZ9.out hu rfl (by kernel_rfl) (.tmp .nil))))) rfl ?_
      exact ⟨HB9.out, Or.inl rfl⟩
    · have e2 : decide (l2.length < l1.length) = false := decide_eq_false c
      have HLL := Aside0.mk (Nat.not_lt.mp c)
      clear c
      go_upto_region 6 with (go_at_call 9; (with_reducible refine (new_ok 5 id km inv mk thr sil 0 0 _ HRR.out (w_in 0 (by decide) (by decide))).mono ?_); rintro e w2 ⟨g, rfl, hA, hg, hb⟩; clear hj0 hj1 hj2 hj3 hj4 hj5; have n0_ := Aside0.mk (below_step HB.out hb); have n1_ := Aside0.mk (blk_below HZ.out hb); have HG := Aside0.mk (Nat.le_trans (below_size HB.out) hg); have HA := Aside0.mk hA; clear HB HJ HZ hb hA hg; have HB := n0_; have HZ := n1_; clear n0_ n1_)
      have HS := Aside0.mk (show StT w (w2.alloc (Obj.cells #[.int .i64 0, .int .i64 0, .int .i64 0, .string (⟨#[]⟩ : ByteArray)] 33 (0, 0))) g (w.heap.size + 1) w2.heap.size (⟨id, km, inv, mk, thr, sil, none, 0, none, 0, false⟩ : WS) (.slice none 0 0) [] ⟨0, 0, 0, ⟨#[]⟩⟩ from
        ⟨below_alloc HB.out _, (HA.out.start rfl rfl).call (below_alloc (Below.refl _ _) _), blk_new _ _, blk_below HZ.out (below_alloc (Below.refl _ _) _), Kd.R_nil _ _ _ _ _, HG.out, below_size HB.out, Nat.le_succ _, Nat.ne_of_lt (blk_lt HZ.out)⟩)
      have HTI := Aside0.mk (show TI l1 mt df thr (⟨id, km, inv, mk, thr, sil, none, 0, none, 0, false⟩ : WS) [] ⟨0, 0, 0, ⟨#[]⟩⟩ 0 none from ⟨rfl, fun _ => rfl, fun y h => (by cases h), fun h => absurd rfl h, fun _ y h => (by cases h), fun f h => (by cases h)⟩)
      have HZ0 := HZ
      clear HB HA HZ e1 e2 HG
      have HRC := Aside0.mk (blk_lt HZ0.out)
      clear HZ0
      generalize w2.heap.size = cb at HS HRC ⊢
      generalize (w2.alloc (Obj.cells #[.int .i64 0, .int .i64 0, .int .i64 0, .string (⟨#[]⟩ : ByteArray)] 33 (0, 0))) = W3 at HS ⊢
      go_wp2
      go_loopg [12, 14, 41] 200 (fun kq v12 v14 v41 w' => ∃ (now i : Int) (s : WS) (ns : List S35) (cm : S33) (b : Option S35), v14 = .int .i64 now ∧ v41 = .int .i64 i ∧ Aside0 (0 ≤ i ∧ i ≤ l1.length ∧ (kq : Int) + i = 200 ∧ 0 ≤ now ∧ now ≤ 20 * i ∧ (ns.length : Int) ≤ i + 2 * now) ∧ Aside0 (s.id = id ∧ s.km = km ∧ s.inv = inv ∧ s.wmk = mk ∧ s.thr = thr ∧ s.sil = sil) ∧ Aside0 (TI l1 mt df thr s ns cm now b) ∧ Aside0 (StT w w' g (w.heap.size + 1) cb s v12 ns cm))
      case atStart => exact ⟨0, 0, _, _, _, _, rfl, rfl, ⟨Int.le_refl _, Int.natCast_nonneg _, rfl, Int.le_refl _, Int.le_refl _, Int.le_refl _⟩, ⟨rfl, rfl, rfl, rfl, rfl, rfl⟩, HTI, HS⟩
      case round =>
        clear HS HTI
        obtain ⟨now, i, s, ns, cm, b, rfl, rfl, HK, HC, HT, HS⟩ := hrel
        by_cases c : i < (l1.length : Int)
        · have cb1 : decide (i < (l1.length : Int)) = true := decide_eq_true c
          obtain ⟨x, hx⟩ : ∃ x, x = rd_T33 l1 i := ⟨_, rfl⟩
          obtain ⟨ad, ea, y0, y1, y2, y3⟩ := at_T33 HR1.out i HK.out.1 c
          cases ea
          rw [← hx] at y0 y1 y2 y3
          have HX := Aside0.mk (show x ∈ l1 from hx ▸ mem33 l1 i HK.out.1 c)
          obtain ⟨ad2, ea, yn⟩ := Kd.at_int HR2.out i HK.out.1 (by have := HLL.out; omega)
          cases ea
          obtain ⟨n, hn⟩ : ∃ n, n = rd l2 i := ⟨_, rfl⟩
          rw [← hn] at yn
          have HYN := Aside0.mk yn
          replace y0 := (HS.out.HB.cell (World.block_lt_of_cell? w _ y0)).trans y0
          replace y1 := (HS.out.HB.cell (World.block_lt_of_cell? w _ y1)).trans y1
          replace y2 := (HS.out.HB.cell (World.block_lt_of_cell? w _ y2)).trans y2
          replace y3 := (HS.out.HB.cell (World.block_lt_of_cell? w _ y3)).trans y3
          have HCI := Aside0.mk c
          have p1 : (0 ≤ i) = True := eq_true HK.out.1
          have p2 : (i < (l1.length : Int)) = True := eq_true c
          have p3 : (i < (l2.length : Int)) = True := eq_true (by have := HLL.out; omega)
          clear hx hn c yn
          go_upto_region 10 with (fail)
          have HO := Aside0.mk (blk_new wr (Obj.cells #[.int .i64 x.f0, .int .i64 x.f1, .int .i64 x.f2, .string x.f3] 33 (0, 0)))
          have n0_ := Aside0.mk (HS.out.alloc (Obj.cells #[.int .i64 x.f0, .int .i64 x.f1, .int .i64 x.f2, .string x.f3] 33 (0, 0)))
          have HS0 := HS
          clear HS y0 y1 y2 y3
          generalize (wr.alloc (Obj.cells #[.int .i64 x.f0, .int .i64 x.f1, .int .i64 x.f2, .string x.f3] 33 (0, 0))) = W1 at HO n0_ ⊢
          have HNE := Aside0.mk (show wr.heap.size ≠ cb from Nat.ne_of_gt (blk_lt HS0.out.HC))
          clear HS0
          generalize wr.heap.size = ob at HO HNE ⊢
          have HS := n0_
          clear n0_
          have yn := (HS.out.HB.cell (World.block_lt_of_cell? w _ HYN.out)).trans HYN.out
          by_cases c3 : n < 0
          · have e3 : decide (n < 0) = true := decide_eq_true c3
            clear c3
            go_upto_region 11 with (fail)
            clear yn
            have HZ := Aside0.mk HS.out.HZ
            have hz0 : W1.cell? ⟨w.heap.size + 1, 0, none⟩ = some (.int .i64 0) := (blk_cell HZ.out 0).trans rfl; have hz1 : W1.cell? ⟨w.heap.size + 1, 1, none⟩ = some (.int .i64 0) := (blk_cell HZ.out 1).trans rfl; have hz2 : W1.cell? ⟨w.heap.size + 1, 2, none⟩ = some (.int .i64 0) := (blk_cell HZ.out 2).trans rfl; have hz3 : W1.cell? ⟨w.heap.size + 1, 3, none⟩ = some (.string (⟨#[]⟩ : ByteArray)) := (blk_cell HZ.out 3).trans rfl
            have hq0 : W1.frozen? ⟨w.heap.size + 1, 0, none⟩ = false := blk_frozen HZ.out 0
            have hq1 : W1.frozen? ⟨w.heap.size + 1, 1, none⟩ = false := blk_frozen HZ.out 1
            have hq2 : W1.frozen? ⟨w.heap.size + 1, 2, none⟩ = false := blk_frozen HZ.out 2
            have hq3 : W1.frozen? ⟨w.heap.size + 1, 3, none⟩ = false := blk_frozen HZ.out 3
            go_wp2
            have HZ9 := Aside0.mk (show (((((W1.setCell ⟨w.heap.size + 1, 0, none⟩ (.int .i64 0)).setCell ⟨w.heap.size + 1, 1, none⟩ (.int .i64 0)).setCell ⟨w.heap.size + 1, 2, none⟩ (.int .i64 0)).setCell ⟨w.heap.size + 1, 3, none⟩ (.string (⟨#[]⟩ : ByteArray)))).heap[w.heap.size + 1]? = some (.cells #[.int .i64 0, .int .i64 0, .int .i64 0, .string (⟨#[]⟩ : ByteArray)] 33 (0, 0)) from (blk_put (blk_put (blk_put (blk_put HZ.out 0 _ rfl) 1 _ rfl) 2 _ rfl) 3 _ rfl))
            have HB9 := Aside0.mk (show Below w.heap.size w ((((W1.setCell ⟨w.heap.size + 1, 0, none⟩ (.int .i64 0)).setCell ⟨w.heap.size + 1, 1, none⟩ (.int .i64 0)).setCell ⟨w.heap.size + 1, 2, none⟩ (.int .i64 0)).setCell ⟨w.heap.size + 1, 3, none⟩ (.string (⟨#[]⟩ : ByteArray))) from (below_set (below_set (below_set (below_set (HS.out.HB) (Nat.le_succ _)) (Nat.le_succ _)) (Nat.le_succ _)) (Nat.le_succ _)))
            generalize ((((W1.setCell ⟨w.heap.size + 1, 0, none⟩ (.int .i64 0)).setCell ⟨w.heap.size + 1, 1, none⟩ (.int .i64 0)).setCell ⟨w.heap.size + 1, 2, none⟩ (.int .i64 0)).setCell ⟨w.heap.size + 1, 3, none⟩ (.string (⟨#[]⟩ : ByteArray))) = W9 at HZ9 HB9 ⊢
            have h9_0 : W9.cell? ⟨w.heap.size + 1, 0, none⟩ = some (.int .i64 0) := (blk_cell HZ9.out 0).trans rfl; have h9_1 : W9.cell? ⟨w.heap.size + 1, 1, none⟩ = some (.int .i64 0) := (blk_cell HZ9.out 1).trans rfl; have h9_2 : W9.cell? ⟨w.heap.size + 1, 2, none⟩ = some (.int .i64 0) := (blk_cell HZ9.out 2).trans rfl; have h9_3 : W9.cell? ⟨w.heap.size + 1, 3, none⟩ = some (.string (⟨#[]⟩ : ByteArray)) := (blk_cell HZ9.out 3).trans rfl
            refine bodyPost_ret (results_list (rs := [.tmp 6, .tmp 7, .cell 8 33, .tmp 9]) rfl (by simp) (.tmp (.tmp (.cell (w.heap.size + 1) 33 #[.int .i64 0, .int .i64 0, .int .i64 0, .string (⟨#[]⟩ : ByteArray)] (0, 0) _ rfl HZ9.out hu rfl (by kernel_rfl) (.tmp .nil))))) rfl ?_
            exact ⟨HB9.out, Or.inl rfl⟩
          · have e3 : decide (n < 0) = false := decide_eq_false c3
            by_cases c4 : 20 < n
            · have e4 : decide (20 < n) = true := decide_eq_true c4
              clear c3 c4
              go_upto_region 11 with (fail)
              clear yn
              have HZ := Aside0.mk HS.out.HZ
              have hz0 : W1.cell? ⟨w.heap.size + 1, 0, none⟩ = some (.int .i64 0) := (blk_cell HZ.out 0).trans rfl; have hz1 : W1.cell? ⟨w.heap.size + 1, 1, none⟩ = some (.int .i64 0) := (blk_cell HZ.out 1).trans rfl; have hz2 : W1.cell? ⟨w.heap.size + 1, 2, none⟩ = some (.int .i64 0) := (blk_cell HZ.out 2).trans rfl; have hz3 : W1.cell? ⟨w.heap.size + 1, 3, none⟩ = some (.string (⟨#[]⟩ : ByteArray)) := (blk_cell HZ.out 3).trans rfl
              have hq0 : W1.frozen? ⟨w.heap.size + 1, 0, none⟩ = false := blk_frozen HZ.out 0
              have hq1 : W1.frozen? ⟨w.heap.size + 1, 1, none⟩ = false := blk_frozen HZ.out 1
              have hq2 : W1.frozen? ⟨w.heap.size + 1, 2, none⟩ = false := blk_frozen HZ.out 2
              have hq3 : W1.frozen? ⟨w.heap.size + 1, 3, none⟩ = false := blk_frozen HZ.out 3
              go_wp2
              have HZ9 := Aside0.mk (show (((((W1.setCell ⟨w.heap.size + 1, 0, none⟩ (.int .i64 0)).setCell ⟨w.heap.size + 1, 1, none⟩ (.int .i64 0)).setCell ⟨w.heap.size + 1, 2, none⟩ (.int .i64 0)).setCell ⟨w.heap.size + 1, 3, none⟩ (.string (⟨#[]⟩ : ByteArray)))).heap[w.heap.size + 1]? = some (.cells #[.int .i64 0, .int .i64 0, .int .i64 0, .string (⟨#[]⟩ : ByteArray)] 33 (0, 0)) from (blk_put (blk_put (blk_put (blk_put HZ.out 0 _ rfl) 1 _ rfl) 2 _ rfl) 3 _ rfl))
              have HB9 := Aside0.mk (show Below w.heap.size w ((((W1.setCell ⟨w.heap.size + 1, 0, none⟩ (.int .i64 0)).setCell ⟨w.heap.size + 1, 1, none⟩ (.int .i64 0)).setCell ⟨w.heap.size + 1, 2, none⟩ (.int .i64 0)).setCell ⟨w.heap.size + 1, 3, none⟩ (.string (⟨#[]⟩ : ByteArray))) from (below_set (below_set (below_set (below_set (HS.out.HB) (Nat.le_succ _)) (Nat.le_succ _)) (Nat.le_succ _)) (Nat.le_succ _)))
              generalize ((((W1.setCell ⟨w.heap.size + 1, 0, none⟩ (.int .i64 0)).setCell ⟨w.heap.size + 1, 1, none⟩ (.int .i64 0)).setCell ⟨w.heap.size + 1, 2, none⟩ (.int .i64 0)).setCell ⟨w.heap.size + 1, 3, none⟩ (.string (⟨#[]⟩ : ByteArray))) = W9 at HZ9 HB9 ⊢
              have h9_0 : W9.cell? ⟨w.heap.size + 1, 0, none⟩ = some (.int .i64 0) := (blk_cell HZ9.out 0).trans rfl; have h9_1 : W9.cell? ⟨w.heap.size + 1, 1, none⟩ = some (.int .i64 0) := (blk_cell HZ9.out 1).trans rfl; have h9_2 : W9.cell? ⟨w.heap.size + 1, 2, none⟩ = some (.int .i64 0) := (blk_cell HZ9.out 2).trans rfl; have h9_3 : W9.cell? ⟨w.heap.size + 1, 3, none⟩ = some (.string (⟨#[]⟩ : ByteArray)) := (blk_cell HZ9.out 3).trans rfl
              refine bodyPost_ret (results_list (rs := [.tmp 6, .tmp 7, .cell 8 33, .tmp 9]) rfl (by simp) (.tmp (.tmp (.cell (w.heap.size + 1) 33 #[.int .i64 0, .int .i64 0, .int .i64 0, .string (⟨#[]⟩ : ByteArray)] (0, 0) _ rfl HZ9.out hu rfl (by kernel_rfl) (.tmp .nil))))) rfl ?_
              exact ⟨HB9.out, Or.inl rfl⟩
            · have e4 : decide (20 < n) = false := decide_eq_false c4
              have HN := Aside0.mk (show 0 ≤ n ∧ n ≤ 20 from ⟨Int.not_lt.mp c3, Int.not_lt.mp c4⟩)
              clear c3 c4
              go_upto_region 12 with (fail)
              clear yn
              obtain ⟨Km, hKm⟩ := HPM.out x HX.out
              have hcs := HC.out
              have HMT := Aside0.mk (show match_Match.f Km s.id s.km s.inv x.f0 x.f1 x.f2 x.f3 = some (mt x) from by
                rw [hcs.1, hcs.2.1, hcs.2.2.1]
                exact hKm)
              obtain ⟨d, hd, b1, hT1⟩ := HT.out.hear hcs.2.2.2.2.1 (by rw [hcs.2.2.2.1]; exact HPD.out) HPS.out HK.out.2.2.2.1 (by have h1 := HK.out; have h2 := HLN.out; omega) x HX.out
              have HDF := Aside0.mk hd
              have HT1 := Aside0.mk hT1
              have HC1 := Aside0.mk (hear_c s now (frS x) (mt x) d _ _ _ _ _ _ hcs)
              have HW := Aside0.mk (w_in now HK.out.2.2.2.1 (by have h1 := HK.out; have h2 := HLN.out; omega))
              clear hKm hcs hd hT1
              have ho0 : W1.cell? ⟨ob, 0, none⟩ = some (.int .i64 x.f0) := (blk_cell HO.out 0).trans rfl; have ho1 : W1.cell? ⟨ob, 1, none⟩ = some (.int .i64 x.f1) := (blk_cell HO.out 1).trans rfl; have ho2 : W1.cell? ⟨ob, 2, none⟩ = some (.int .i64 x.f2) := (blk_cell HO.out 2).trans rfl; have ho3 : W1.cell? ⟨ob, 3, none⟩ = some (.string x.f3) := (blk_cell HO.out 3).trans rfl
              have HHE := Aside0.mk (hears_ok Km (cb + 1) g s x.f0 x.f1 x.f2 x.f3 (mt x) W1 HS.out.HA HMT.out)
              go_upto_if 61 with (go_at_call 15; (with_reducible refine HHE.out.mono ?_); rintro e w3 ⟨rfl, hb⟩; have n0_ := Aside0.mk (HS.out.call hb); have n1_ := Aside0.mk (blk_below HO.out hb); clear HS HO HHE hb ho0 ho1 ho2 ho3; have HS := n0_; have HO := n1_; clear n0_ n1_)
              go_cut [61, 90, 91, 92, 93] from 62 (fun v61 v90 v91 v92 v93 wd => v90 = undef ∧ v91 = undef ∧ v92 = undef ∧ v93 = undef ∧ Aside0 (StT w wd g (w.heap.size + 1) cb s u12 ns (if mt x = true then x else cm)) ∧ Aside0 (wd.heap[ob]? = some (.cells #[.int .i64 x.f0, .int .i64 x.f1, .int .i64 x.f2, .string x.f3] 33 (0, 0))))
              case first =>
                have ho0 : w3.cell? ⟨ob, 0, none⟩ = some (.int .i64 x.f0) := (blk_cell HO.out 0).trans rfl; have ho1 : w3.cell? ⟨ob, 1, none⟩ = some (.int .i64 x.f1) := (blk_cell HO.out 1).trans rfl; have ho2 : w3.cell? ⟨ob, 2, none⟩ = some (.int .i64 x.f2) := (blk_cell HO.out 2).trans rfl; have ho3 : w3.cell? ⟨ob, 3, none⟩ = some (.string x.f3) := (blk_cell HO.out 3).trans rfl
                have HCB := Aside0.mk HS.out.HC
                have hc0 : w3.cell? ⟨cb, 0, none⟩ = some (.int .i64 cm.f0) := (blk_cell HCB.out 0).trans rfl; have hc1 : w3.cell? ⟨cb, 1, none⟩ = some (.int .i64 cm.f1) := (blk_cell HCB.out 1).trans rfl; have hc2 : w3.cell? ⟨cb, 2, none⟩ = some (.int .i64 cm.f2) := (blk_cell HCB.out 2).trans rfl; have hc3 : w3.cell? ⟨cb, 3, none⟩ = some (.string cm.f3) := (blk_cell HCB.out 3).trans rfl
                have hf0 : w3.frozen? ⟨cb, 0, none⟩ = false := blk_frozen HCB.out 0
                have hf1 : w3.frozen? ⟨cb, 1, none⟩ = false := blk_frozen HCB.out 1
                have hf2 : w3.frozen? ⟨cb, 2, none⟩ = false := blk_frozen HCB.out 2
                have hf3 : w3.frozen? ⟨cb, 3, none⟩ = false := blk_frozen HCB.out 3
                clear HCB
                cases hmt : mt x with
                | true =>
                  go_wp2
                  go_meet
                  exact ⟨rfl, rfl, rfl, rfl, ⟨by rw [if_pos hmt]; exact HS.out.came x⟩, ⟨blk_far (blk_far (blk_far (blk_far HO.out HNE.out _) HNE.out _) HNE.out _) HNE.out _⟩⟩
                | false =>
                  go_wp2
                  go_meet
                  exact ⟨rfl, rfl, rfl, rfl, ⟨by rw [if_neg (by rw [hmt]; decide)]; exact HS.out⟩, HO⟩
              case rest =>
                clear HS HO
                obtain ⟨rfl, rfl, rfl, rfl, HS, HO⟩ := hcut
                have ho0 : wc.cell? ⟨ob, 0, none⟩ = some (.int .i64 x.f0) := (blk_cell HO.out 0).trans rfl; have ho1 : wc.cell? ⟨ob, 1, none⟩ = some (.int .i64 x.f1) := (blk_cell HO.out 1).trans rfl; have ho2 : wc.cell? ⟨ob, 2, none⟩ = some (.int .i64 x.f2) := (blk_cell HO.out 2).trans rfl; have ho3 : wc.cell? ⟨ob, 3, none⟩ = some (.string x.f3) := (blk_cell HO.out 3).trans rfl
                have HHQ := Aside0.mk (hear_q Km (cb + 1) g s now now x (mt x) d wc (blk_lt HS.out.HC) HS.out.HA.lt HS.out.HA HMT.out HW.out HDF.out)
                go_upto_if 70 with (go_at_call 10; (with_reducible refine HHQ.out.mono ?_); rintro e w4 ⟨y, td, rfl, hy, hA, hK⟩; have HY := Aside0.mk hy; have n0_ := Aside0.mk (HS.out.wk hA hK); clear HS HHQ hy hA hK ho0 ho1 ho2 ho3; have HS := n0_; clear n0_)
                have HNB := Aside0.mk (blk_new w4 (Obj.cells #[.int .i64 y.f0, .int .i64 y.f1, .int .i64 y.f2.f0, .int .i64 y.f2.f1, .int .i64 y.f2.f2, .string y.f2.f3, .int .i64 y.f3] 35 (0, 0)))
                have n0_ := Aside0.mk (HS.out.alloc (Obj.cells #[.int .i64 y.f0, .int .i64 y.f1, .int .i64 y.f2.f0, .int .i64 y.f2.f1, .int .i64 y.f2.f2, .string y.f2.f3, .int .i64 y.f3] 35 (0, 0)))
                clear HS
                generalize (w4.alloc (Obj.cells #[.int .i64 y.f0, .int .i64 y.f1, .int .i64 y.f2.f0, .int .i64 y.f2.f1, .int .i64 y.f2.f2, .string y.f2.f3, .int .i64 y.f3] 35 (0, 0))) = W9 at HNB n0_ ⊢
                generalize w4.heap.size = nb at HNB ⊢
                have HS := n0_
                clear n0_
                go_cut [12, 18, 90, 91, 92, 93] from 63 (fun v12 v18 v90 v91 v92 v93 wd => v90 = undef ∧ v91 = undef ∧ v92 = undef ∧ v93 = undef ∧ Aside0 (StT w wd g (w.heap.size + 1) cb (hearS s now (frS x) (mt x) d).2 v12 (ns ++ (if (hearS s now (frS x) (mt x) d).1 = true then [(⟨1, wrap64 s.id, x, now⟩ : S35)] else [])) (if mt x = true then x else cm)))
                case first =>
                  cases td with
                  | true =>
                    have HY1 := Aside0.mk HY.out.1.symm
                    have HY2 := Aside0.mk (HY.out.2 rfl)
                    clear HY
                    have hn0 : W9.cell? ⟨nb, 0, none⟩ = some (.int .i64 y.f0) := (blk_cell HNB.out 0).trans rfl; have hn1 : W9.cell? ⟨nb, 1, none⟩ = some (.int .i64 y.f1) := (blk_cell HNB.out 1).trans rfl; have hn2 : W9.cell? ⟨nb, 2, none⟩ = some (.int .i64 y.f2.f0) := (blk_cell HNB.out 2).trans rfl; have hn3 : W9.cell? ⟨nb, 3, none⟩ = some (.int .i64 y.f2.f1) := (blk_cell HNB.out 3).trans rfl; have hn4 : W9.cell? ⟨nb, 4, none⟩ = some (.int .i64 y.f2.f2) := (blk_cell HNB.out 4).trans rfl; have hn5 : W9.cell? ⟨nb, 5, none⟩ = some (.string y.f2.f3) := (blk_cell HNB.out 5).trans rfl; have hn6 : W9.cell? ⟨nb, 6, none⟩ = some (.int .i64 y.f3) := (blk_cell HNB.out 6).trans rfl
                    go_wp2_with (first | ((with_reducible refine gate_builtin (b := .append) (xs := #[.tmp 71, .tmp 73]) rfl ?_); at_builtin; refine Kd.R_append k35 (w0 := w) (W := W9) w.heap.size rfl (.tmp 71) (.tmp 73) 39 35 (.agg #[.int .i64 0, .int .i64 0, .int .i64 0, .int .i64 0, .int .i64 0, .string ⟨#[]⟩, .int .i64 0]) 64 rfl Try.underlying39 infoN rfl (by decide) (by omega) u12 ns (y : S35) [.int .i64 y.f0, .int .i64 y.f1, .int .i64 y.f2.f0, .int .i64 y.f2.f1, .int .i64 y.f2.f2, .string y.f2.f3, .int .i64 y.f3] (fun _ => True) (fun _ => False) (by first | (go_simp; done) | (go_simp; rfl)) (by first | (go_simp; done) | (go_simp; rfl)) ?aP (fun _ hk => hk.elim) ?aF ?aO ?aB ?aS ?aL ?_; (case aP => exact k35_mkM _ _ _ y); (case aF => exact fun k_ hk => trivial); (case aO => exact Kd.R_mono HS.out.HR (fun _ _ => trivial)); (case aB => exact HS.out.HB); (case aS => exact below_size HS.out.HB); (case aL => have h1 := HK.out; have h2 := HCI.out; have h3 := HLN.out; omega); intro v13 w14 ho hbo hg hat; have n0_ := Aside0.mk (HS.out.app ho hg hbo); clear HS ho hbo hg hat; have HS := n0_; clear n0_))
                    go_meet
                    exact ⟨rfl, rfl, rfl, rfl, ⟨by
                      rw [if_pos HY1.out, ← HY2.out]
                      exact HS.out⟩⟩
                  | false =>
                    have HY1 := Aside0.mk HY.out.1.symm
                    clear HY
                    go_wp2
                    go_meet
                    exact ⟨rfl, rfl, rfl, rfl, ⟨by
                      rw [if_neg (by rw [HY1.out]; decide), List.append_nil]
                      exact HS.out⟩⟩
                case rest =>
                  clear HS HNB HY
                  obtain ⟨rfl, rfl, rfl, rfl, HS⟩ := hcut
                  have HL1 := Aside0.mk (len_hear ns (hearS s now (frS x) (mt x) d).1 ⟨1, wrap64 s.id, x, now⟩)
                  have yn := (HS.out.HB.cell (World.block_lt_of_cell? w _ HYN.out)).trans HYN.out
                  generalize (ns ++ (if (hearS s now (frS x) (mt x) d).1 = true then [(⟨1, wrap64 s.id, x, now⟩ : S35)] else [])) = ns1 at HS HT1 HL1
                  generalize (hearS s now (frS x) (mt x) d).2 = s1 at HS HT1 HC1
                  generalize (if mt x = true then x else cm) = cm1 at HS HT1
                  clear HT HC HDF HMT HW HO
                  go_wp2
                  obtain ⟨gko, hgko⟩ : ∃ k, k = gk := ⟨_, rfl⟩
                  have HGO := Aside0.mk hgko
                  clear hgko yn
                  go_loopg [12, 14, 79] 30 (fun kq v12 v14 v79 w' => ∃ (nw j : Int) (s : WS) (ns : List S35) (b : Option S35), v14 = .int .i64 nw ∧ v79 = .int .i64 j ∧ Aside0 (0 ≤ j ∧ j ≤ n ∧ (kq : Int) + j = 30 ∧ nw = now + j ∧ (ns.length : Int) ≤ i + 1 + 2 * nw) ∧ Aside0 (s.id = id ∧ s.km = km ∧ s.inv = inv ∧ s.wmk = mk ∧ s.thr = thr ∧ s.sil = sil) ∧ Aside0 (TI l1 mt df thr s ns cm1 nw b) ∧ Aside0 (StT w w' g (w.heap.size + 1) cb s v12 ns cm1))
                  case atStart => exact ⟨now, 0, s1, ns1, b1, rfl, rfl, ⟨Int.le_refl _, HN.out.1, rfl, (Int.add_zero _).symm, by have h1 := HL1.out; have h2 := HK.out; omega⟩, HC1, HT1, HS⟩
                  case round =>
                    clear HS HT1 HC1
                    obtain ⟨nw, j, s, ns, b, rfl, rfl, HJ, HC, HT, HS⟩ := hrel
                    by_cases cj : j < n
                    · have cb2 : decide (j < n) = true := decide_eq_true cj
                      have HCJ := Aside0.mk cj
                      have en : wrap64 (nw + 1) = nw + 1 := by
                        have h1 := HJ.out
                        have h2 := HK.out
                        have h3 := HCI.out
                        have h4 := HLN.out
                        have h5 := HN.out
                        unfold wrap64
                        omega
                      have ej : wrap64 (j + 1) = j + 1 := by
                        have h1 := HJ.out
                        have h5 := HN.out
                        unfold wrap64
                        omega
                      have HNN := Aside0.mk (show 0 ≤ nw + 1 ∧ nw + 1 ≤ 1000000 from by
                        have h1 := HJ.out
                        have h2 := HK.out
                        have h3 := HCI.out
                        have h4 := HLN.out
                        have h5 := HN.out
                        omega)
                      clear cj
                      obtain ⟨b2, hT2⟩ := HT.out.tick HC.out.2.2.2.2.1 HPS.out (show nw ≤ nw + 1 by omega) HNN.out.1 HNN.out.2
                      have HT2 := Aside0.mk hT2
                      clear hT2
                      have HYL := Aside0.mk (len_tick s (nw + 1))
                      have HTC := Aside0.mk (tick_c s (nw + 1) _ _ _ _ _ _ HC.out)
                      have HTI := Aside0.mk (tick_ok (cb + 1) g s (nw + 1) (nw + 1) wr (blk_lt HS.out.HC) HS.out.HA.lt HS.out.HA (w_in _ HNN.out.1 HNN.out.2))
                      obtain ⟨ys, hys⟩ : ∃ ys, ys = (dueL s (nw + 1) (due s (nw + 1)) ++ (if silB s (nw + 1) = true then [(⟨2, wrap64 s.id, (⟨0, 0, 0, ⟨#[]⟩⟩ : S33), nw + 1⟩ : S35)] else [])) := ⟨_, rfl⟩
                      have HYS := Aside0.mk hys
                      rw [← hys] at HYL HT2
                      clear hys
                      go_wp2_with (first | (go_at_call 12; (with_reducible refine HTI.out.mono ?_); rintro e w5 ⟨v5, rfl, hT⟩; have hT' : Kd.R k35 35 w5 (min (cb + 1) g) (fun k_ => wr.heap.size ≤ k_) v5 ys := HYS.out ▸ hT.1; obtain ⟨A5, c5, e5, hc5, hC5⟩ := NR.of hT'; subst e5; have HC5 := Aside0.mk hC5; have n0_ := Aside0.mk (HS.out.wk hT.2.1 hT.2.2); clear HS HTI hT hT' hC5; have HS := n0_; clear n0_) | ((with_reducible refine gate_builtin (b := .append) (xs := #[.tmp 83, .tmp 86]) rfl ?_); at_builtin; refine Kd.R_append_rows k35 (w0 := w) (W := w5) w.heap.size rfl (.tmp 83) (.tmp 86) 39 35 (.agg #[.int .i64 0, .int .i64 0, .int .i64 0, .int .i64 0, .int .i64 0, .string ⟨#[]⟩, .int .i64 0]) 64 rfl Try.underlying39 infoN rfl (by decide) (by omega) u12 ns ys A5 ys.length c5 (fun _ => True) (fun _ => False) (by first | (go_simp; done) | (go_simp; rfl)) (by first | (go_simp; done) | (go_simp; rfl)) ?aO HC5.out ?aP (fun _ hk => hk.elim) ?aF ?aB ?aS ?aL ?_; (case aP => exact k35_KM _ _ _); (case aF => exact fun k_ hk => trivial); (case aO => exact Kd.R_mono HS.out.HR (fun _ _ => trivial)); (case aB => exact HS.out.HB); (case aS => exact below_size HS.out.HB); (case aL => have h1 := HJ.out; have h2 := HCI.out; have h3 := HLN.out; have h4 := HYL.out; have h5 := HN.out; have h6 := HK.out; omega); intro v13 w14 ho hbo hg hat; have n0_ := Aside0.mk (HS.out.app ho hg hbo); clear HS ho hbo hg hat; have HS := n0_; clear n0_))
                      go_roundg (gk - 1)
                      case measure =>
                        have h1 := HJ.out
                        have h2 := HCJ.out
                        have h3 := HN.out
                        omega
                      case rel => exact ⟨nw + 1, j + 1, _, _, b2, (by first | rfl | rw [en]), (by first | rfl | rw [ej]), ⟨by
                        have h1 := HJ.out
                        have h2 := HCJ.out
                        have h3 := HN.out
                        have h4 := HYL.out
                        rw [List.length_append]
                        omega⟩, HTC, HT2, HS⟩
                    · have cb2 : decide (j < n) = false := decide_eq_false cj
                      have hjn : j = n := by have h1 := HJ.out; omega
                      have ei : wrap64 (i + 1) = i + 1 := by
                        have h2 := HK.out
                        have h4 := HLN.out
                        unfold wrap64
                        omega
                      have HJN := Aside0.mk hjn
                      clear cj hjn
                      go_wp2
                      go_roundg (gko - 1)
                      case measure =>
                        have h0 := HGO.out
                        have h1 := HK.out
                        have h2 := HCI.out
                        have h3 := HLN.out
                        omega
                      case rel => exact ⟨nw, i + 1, s, ns, cm1, b, rfl, (by first | rfl | rw [ei]), ⟨by
                        have h0 := HGO.out
                        have h1 := HK.out
                        have h2 := HCI.out
                        have h3 := HLN.out
                        have h4 := HJ.out
                        have h5 := HN.out
                        have h6 := HJN.out
                        omega⟩, HC, HT, HS⟩
        · have cb1 : decide (i < (l1.length : Int)) = false := decide_eq_false c
          clear c
          have HCB := Aside0.mk HS.out.HC
          have HZB := Aside0.mk HS.out.HZ
          have hne : cb ≠ w.heap.size + 1 := fun e => HS.out.hne e.symm
          have hc0 : wr.cell? ⟨cb, 0, none⟩ = some (.int .i64 cm.f0) := (blk_cell HCB.out 0).trans rfl; have hc1 : wr.cell? ⟨cb, 1, none⟩ = some (.int .i64 cm.f1) := (blk_cell HCB.out 1).trans rfl; have hc2 : wr.cell? ⟨cb, 2, none⟩ = some (.int .i64 cm.f2) := (blk_cell HCB.out 2).trans rfl; have hc3 : wr.cell? ⟨cb, 3, none⟩ = some (.string cm.f3) := (blk_cell HCB.out 3).trans rfl
          have hz0 : wr.cell? ⟨w.heap.size + 1, 0, none⟩ = some (.int .i64 0) := (blk_cell HZB.out 0).trans rfl; have hz1 : wr.cell? ⟨w.heap.size + 1, 1, none⟩ = some (.int .i64 0) := (blk_cell HZB.out 1).trans rfl; have hz2 : wr.cell? ⟨w.heap.size + 1, 2, none⟩ = some (.int .i64 0) := (blk_cell HZB.out 2).trans rfl; have hz3 : wr.cell? ⟨w.heap.size + 1, 3, none⟩ = some (.string (⟨#[]⟩ : ByteArray)) := (blk_cell HZB.out 3).trans rfl
          have hq0 : wr.frozen? ⟨w.heap.size + 1, 0, none⟩ = false := blk_frozen HZB.out 0
          have hq1 : wr.frozen? ⟨w.heap.size + 1, 1, none⟩ = false := blk_frozen HZB.out 1
          have hq2 : wr.frozen? ⟨w.heap.size + 1, 2, none⟩ = false := blk_frozen HZB.out 2
          have hq3 : wr.frozen? ⟨w.heap.size + 1, 3, none⟩ = false := blk_frozen HZB.out 3
          go_upto_region 23 with (fail)
          go_region_with (fail)
          go_wp2
          have HD9 := Aside0.mk (HS.out.done HRC.out cm)
          generalize ((((wr.setCell ⟨w.heap.size + 1, 0, none⟩ (.int .i64 cm.f0)).setCell ⟨w.heap.size + 1, 1, none⟩ (.int .i64 cm.f1)).setCell ⟨w.heap.size + 1, 2, none⟩ (.int .i64 cm.f2)).setCell ⟨w.heap.size + 1, 3, none⟩ (.string cm.f3)) = W9 at HD9 ⊢
          have HZ9 := Aside0.mk HD9.out.2.2.2
          refine bodyPost_ret (results_list (rs := [.tmp 6, .tmp 7, .cell 8 33, .tmp 9]) rfl (by simp) (.tmp (.tmp (.cell (w.heap.size + 1) 33 #[.int .i64 cm.f0, .int .i64 cm.f1, .int .i64 cm.f2, .string cm.f3] (0, 0) _ rfl HZ9.out hu rfl (by kernel_rfl) (.tmp .nil))))) rfl ?_
          exact ⟨below_drew1 HD9.out.1, Or.inr ⟨_, g, _, s, ns, cm, now, b, rfl, rfl, HD9.out.2.1.call (below_drew1 (Below.refl _ _)), HD9.out.2.2.1.call (below_drew1 (Below.refl _ _)), HC.out, HT.out, by
            have h1 := HK.out
            have h2 := HLN.out
            omega⟩⟩
  · subst hr0
    clear HPF
    go_upto_region 3 with (go_at_call 9; (with_reducible refine (new_bad 5 id km inv mk thr sil 0 _ HRR.out).mono ?_); rintro e w2 ⟨rfl, hb⟩; clear hj0 hj1 hj2 hj3 hj4 hj5; have n0_ := Aside0.mk (below_step HB.out hb); have n1_ := Aside0.mk (blk_below HZ.out hb); clear HB HJ HZ hb; have HB := n0_; have HZ := n1_; clear n0_ n1_)
    have hz0 : w2.cell? ⟨w.heap.size + 1, 0, none⟩ = some (.int .i64 0) := (blk_cell HZ.out 0).trans rfl; have hz1 : w2.cell? ⟨w.heap.size + 1, 1, none⟩ = some (.int .i64 0) := (blk_cell HZ.out 1).trans rfl; have hz2 : w2.cell? ⟨w.heap.size + 1, 2, none⟩ = some (.int .i64 0) := (blk_cell HZ.out 2).trans rfl; have hz3 : w2.cell? ⟨w.heap.size + 1, 3, none⟩ = some (.string (⟨#[]⟩ : ByteArray)) := (blk_cell HZ.out 3).trans rfl
    have hq0 : w2.frozen? ⟨w.heap.size + 1, 0, none⟩ = false := blk_frozen HZ.out 0
    have hq1 : w2.frozen? ⟨w.heap.size + 1, 1, none⟩ = false := blk_frozen HZ.out 1
    have hq2 : w2.frozen? ⟨w.heap.size + 1, 2, none⟩ = false := blk_frozen HZ.out 2
    have hq3 : w2.frozen? ⟨w.heap.size + 1, 3, none⟩ = false := blk_frozen HZ.out 3
    go_wp2
    have HZ9 := Aside0.mk (show (((((w2.setCell ⟨w.heap.size + 1, 0, none⟩ (.int .i64 0)).setCell ⟨w.heap.size + 1, 1, none⟩ (.int .i64 0)).setCell ⟨w.heap.size + 1, 2, none⟩ (.int .i64 0)).setCell ⟨w.heap.size + 1, 3, none⟩ (.string (⟨#[]⟩ : ByteArray)))).heap[w.heap.size + 1]? = some (.cells #[.int .i64 0, .int .i64 0, .int .i64 0, .string (⟨#[]⟩ : ByteArray)] 33 (0, 0)) from (blk_put (blk_put (blk_put (blk_put HZ.out 0 _ rfl) 1 _ rfl) 2 _ rfl) 3 _ rfl))
    have HB9 := Aside0.mk (show Below w.heap.size w ((((w2.setCell ⟨w.heap.size + 1, 0, none⟩ (.int .i64 0)).setCell ⟨w.heap.size + 1, 1, none⟩ (.int .i64 0)).setCell ⟨w.heap.size + 1, 2, none⟩ (.int .i64 0)).setCell ⟨w.heap.size + 1, 3, none⟩ (.string (⟨#[]⟩ : ByteArray))) from (below_set (below_set (below_set (below_set (HB.out) (Nat.le_succ _)) (Nat.le_succ _)) (Nat.le_succ _)) (Nat.le_succ _)))
    generalize ((((w2.setCell ⟨w.heap.size + 1, 0, none⟩ (.int .i64 0)).setCell ⟨w.heap.size + 1, 1, none⟩ (.int .i64 0)).setCell ⟨w.heap.size + 1, 2, none⟩ (.int .i64 0)).setCell ⟨w.heap.size + 1, 3, none⟩ (.string (⟨#[]⟩ : ByteArray))) = W9 at HZ9 HB9 ⊢
    have h9_0 : W9.cell? ⟨w.heap.size + 1, 0, none⟩ = some (.int .i64 0) := (blk_cell HZ9.out 0).trans rfl; have h9_1 : W9.cell? ⟨w.heap.size + 1, 1, none⟩ = some (.int .i64 0) := (blk_cell HZ9.out 1).trans rfl; have h9_2 : W9.cell? ⟨w.heap.size + 1, 2, none⟩ = some (.int .i64 0) := (blk_cell HZ9.out 2).trans rfl; have h9_3 : W9.cell? ⟨w.heap.size + 1, 3, none⟩ = some (.string (⟨#[]⟩ : ByteArray)) := (blk_cell HZ9.out 3).trans rfl
    refine bodyPost_ret (results_list (rs := [.tmp 6, .tmp 7, .cell 8 33, .tmp 9]) rfl (by simp) (.tmp (.tmp (.cell (w.heap.size + 1) 33 #[.int .i64 0, .int .i64 0, .int .i64 0, .string (⟨#[]⟩ : ByteArray)] (0, 0) _ rfl HZ9.out hu rfl (by kernel_rfl) (.tmp .nil))))) rfl ?_
    exact ⟨HB9.out, Or.inl rfl⟩

end Go.Proofs.Ytelplkdbjfkfmaa.PWatchThrottle
