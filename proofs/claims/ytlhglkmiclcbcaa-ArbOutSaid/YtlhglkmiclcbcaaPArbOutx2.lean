-- Laid by a program of the session over the kit's print. Not trusted: Lean checks it.
import Derived.Test.YtlhglkmiclcbcaaPArbOutx0
import Derived.Test.YtlhglkmiclcbcaaPArbOutx1
namespace Go.Proofs.Ytlhglkmiclcbcaa.PArbOut
open Go.RowKit Go.Proofs.YtlhglkmiclcbcaaW.PrintWords Go.Proofs.YtlhglkmiclcbcaaW.PrintLast Go.Proofs.YtlhglkmiclcbcaaW.PrintMore
attribute [local go_sem] max2_int min2_int max_two min_two max_three min_three max_four min_four   -- for this text's walks alone
set_option linter.unusedVariables false
set_option linter.unusedSimpArgs false

/-! ### arb_Race: function 13 -/
theorem bl_total : ∀ x y : List UInt8, (Op.bytesLess x y || x == y) = !(Op.bytesLess y x)
  | [], [] => by simp [Op.bytesLess]
  | [], b :: y => by simp [Op.bytesLess]
  | a :: x, [] => by simp [Op.bytesLess]
  | a :: x, b :: y => by
    have ih := bl_total x y
    have hlt : (a < b) = (a.toNat < b.toNat) := rfl
    have hgt : (b < a) = (b.toNat < a.toNat) := rfl
    by_cases h : a = b
    · subst h
      have hn : ¬ a < a := by rw [UInt8.lt_iff_toNat_lt]; omega
      simp only [Op.bytesLess, hn, decide_false, Bool.false_or, beq_self_eq_true, Bool.true_and, ← ih]
      simp
    · have hne : (a == b) = false := by simpa using h
      have hne2 : (b == a) = false := by simpa using (fun e => h (Eq.symm e))
      have h3 : (a :: x == b :: y) = false := by simp [h]
      simp only [Op.bytesLess, hne, hne2, h3, Bool.false_and, Bool.or_false]
      rw [Bool.eq_iff_iff]
      simp only [decide_eq_true_eq, Bool.not_eq_true', decide_eq_false_iff_not, hlt, hgt]
      have : a.toNat ≠ b.toNat := fun e => h (UInt8.toNat_inj.mp e)
      omega
theorem leq_str {P : Program} (t : TypeId) (a b : ByteArray) : ∀ W : World, (binOp .leq t (.string a) (.string b)).run P W = .ok (.bool (!(Op.bytesLess b.toList a.toList))) W := by
  intro W
  rw [← bl_total]
  unfold binOp
  simp [Op.stringOp]
/-- Does a text show a nought at a place? -/
def shw (s : ByteArray) (j : Nat) : Bool := decide (j < s.size) && (bt s (j : Int) == 48)
/-- Those of whom the texts show it. -/
def keepL (l : List ByteArray) (j : Nat) (L : List Int) : List Int := L.filter (fun i => shw (rdOf ByteArray.empty l i) j)
/-- The first numbers. -/
def iotaL : Nat → List Int
  | 0 => []
  | n + 1 => iotaL n ++ [(n : Int)]
theorem iotaL_len : ∀ n, (iotaL n).length = n
  | 0 => rfl
  | n + 1 => by simp [iotaL, iotaL_len n]
theorem iotaL_mem : ∀ (n : Nat) (x : Int), x ∈ iotaL n → 0 ≤ x ∧ x < n
  | 0, x, h => by simp [iotaL] at h
  | n + 1, x, h => by
    simp only [iotaL, List.mem_append, List.mem_singleton] at h
    rcases h with h | rfl
    · have := iotaL_mem n x h; omega
    · omega
/-- Who is left behind so many places. -/
def raceN (l : List ByteArray) : Nat → List Int
  | 0 => iotaL l.length
  | j + 1 => if keepL l j (raceN l j) = [] then raceN l j else keepL l j (raceN l j)
theorem keepL_mem (l : List ByteArray) (j : Nat) (L : List Int) (x : Int) (h : x ∈ keepL l j L) : x ∈ L := (List.mem_filter.mp h).1
theorem keepL_len (l : List ByteArray) (j : Nat) (L : List Int) : (keepL l j L).length ≤ L.length := List.length_filter_le _ _
theorem raceN_mem (l : List ByteArray) : ∀ (j : Nat) (x : Int), x ∈ raceN l j → 0 ≤ x ∧ x < l.length
  | 0, x, h => iotaL_mem _ x h
  | j + 1, x, h => by
    simp only [raceN] at h
    split at h
    · exact raceN_mem l j x h
    · exact raceN_mem l j x (keepL_mem l j _ x h)
theorem raceN_len (l : List ByteArray) : ∀ (j : Nat), (raceN l j).length ≤ l.length
  | 0 => by simp [raceN, iotaL_len]
  | j + 1 => by
    simp only [raceN]
    have h := raceN_len l j
    have h2 := keepL_len l j (raceN l j)
    split <;> omega
theorem keepL_take (l : List ByteArray) (j : Nat) (L : List Int) (i : Nat) (hi : i < L.length) (b : Bool) (hb : shw (rdOf ByteArray.empty l (rd L i)) j = b) : keepL l j (L.take (i + 1)) = if b = true then keepL l j (L.take i) ++ [rd L i] else keepL l j (L.take i) := by
  have e : rd L (i : Int) = L[i] := by unfold rd; simp [hi]
  rw [e] at hb ⊢
  rw [List.take_add_one, List.getElem?_eq_getElem hi]
  unfold keepL
  rw [List.filter_append]
  cases b with
  | true => simp [hb]
  | false => simp [hb]
theorem shows_eq (s : ByteArray) (j : Nat) : arb_shows.f s (j : Int) = some (shw s j) := by
  unfold arb_shows.f shw
  by_cases h : j < s.size
  · rw [if_pos (by omega), if_pos (by omega)]
    simp [h]
  · rw [if_neg (by omega)]
    simp [h]
theorem arb_Race.info : (Try.prog.info? 3).map (fun i => (i.zero, i.size, i.bytes)) = some (some (.int .i64 0), 1, 8) := by kernel_rfl
set_option maxRecDepth 1000000 in
set_option maxHeartbeats 8000000 in
theorem keep_any (g1 g3 g5 : Nat) (A0 : Option Addr) (c0 : Nat) (l0 : List ByteArray) (L : List Int) (v : Value) (j base : Nat) (okf : Nat → Prop) (w : World)
    (hB1 : w.heap[g1]? = some (.cells #[.slice A0 l0.length c0] 22 (0, 0))) (hB3 : w.heap[g3]? = some (.cells #[v] 28 (0, 0))) (hB5 : w.heap[g5]? = some (.cells #[.int .i64 j] 3 (0, 0)))
    (hl : Kd.C Kd.string w A0 l0.length l0) (hL : Kd.R (Kd.int .i64) 3 w base okf v L) (hin : ∀ x, x ∈ L → 0 ≤ x ∧ x < l0.length) (hlen : L.length < 17592186044416) :
    Calls Try.prog 26 #[.bool true, .pointer (some ⟨g3, 0, none⟩), .pointer (some ⟨g1, 0, none⟩), .pointer (some ⟨g5, 0, none⟩)] w fun e w' => ∃ v0_ : Value, e = .returned v0_ ∧ Kd.R (Kd.int .i64) 3 w' w.heap.size (fun _ => True) v0_ (keepL l0 j L) ∧ Below w.heap.size w w' := by
  obtain ⟨A, c, rfl, hcL, hC⟩ := Kd.R_reads hL
  clear hL
  have HR0 := Aside0.mk hl
  have HRL := Aside0.mk hC
  have HIN := Aside0.mk hin
  have HLE := Aside0.mk hlen
  have B1 := Aside0.mk hB1
  have B5 := Aside0.mk hB5
  have hc3 : w.cell? ⟨g3, 0, none⟩ = some (.slice A L.length c) := (blk_cell hB3 0).trans rfl
  have HB := Aside0.mk (Below.refl w.heap.size w)
  clear hl hC hin hlen hB1 hB3 hB5
  go_enter Try.func26, Try.ntmps26
  go_wp2
  clear hc3
  go_loopg [6, 11] (L.length + 1) (fun kq v6 v11 w' => ∃ i : Nat, v11 = .int .i64 i ∧ Aside0 (i ≤ L.length ∧ kq + i = L.length + 1) ∧ Aside0 (Kd.R (Kd.int .i64) 3 w' w.heap.size (fun _ => True) v6 (keepL l0 j (L.take i))) ∧ Aside0 (Below w.heap.size w w'))
  case atStart => exact ⟨0, rfl, ⟨by omega⟩, ⟨Kd.R_nil _ _ _ _ _⟩, HB⟩
  case round =>
    obtain ⟨i, rfl, HJ, HO, HB⟩ := hrel
    by_cases hi : i < L.length
    · have hi0 : 0 ≤ (i : Int) := by omega
      have hi1 : (i : Int) < (L.length : Int) := by omega
      obtain ⟨adi, ei, hxi⟩ := Kd.at_int HRL.out (i : Int) hi0 hi1
      cases ei
      have hmem : rd L (i : Int) ∈ L := by
        have e : rd L (i : Int) = L[i] := by unfold rd; simp [hi]
        rw [e]
        exact List.getElem_mem hi
      obtain ⟨hx0, hx1⟩ := HIN.out _ hmem
      have HK := Aside0.mk (keepL_take l0 j L i hi)
      obtain ⟨x, hx⟩ : ∃ x, rd L (i : Int) = x := ⟨_, rfl⟩
      rw [hx] at hxi hx0 hx1 HK
      clear hx hmem
      obtain ⟨ads, es, hxs⟩ := Kd.at_string HR0.out x hx0 hx1
      cases es
      replace hxi := (HB.out.cell (World.block_lt_of_cell? w _ hxi)).trans hxi
      rw [Int.toNat_natCast] at hxi
      replace hxs := (HB.out.cell (World.block_lt_of_cell? w _ hxs)).trans hxs
      have hc1 : wr.cell? ⟨g1, 0, none⟩ = some (.slice (some ads) l0.length c0) := (blk_cell (blk_below B1.out HB.out) 0).trans rfl
      have hc5 : wr.cell? ⟨g5, 0, none⟩ = some (.int .i64 j) := (blk_cell (blk_below B5.out HB.out) 0).trans rfl
      have HS := Aside0.mk (shows_eq (rdOf ByteArray.empty l0 x) j)
      go_wp2
      go_region_held3 (fun w' => w'.cell? ⟨g1, 0, none⟩ = some (.slice (some ads) l0.length c0) ∧ w'.cell? (ads.add x.toNat) = some (.string (rdOf ByteArray.empty l0 x)) ∧ w'.cell? ⟨g5, 0, none⟩ = some (.int .i64 j)) (first | exact ⟨hc1, hxs, hc5⟩ | go_keep) (first | (go_at_call 24; (with_reducible refine (arb_shows.calls (rdOf ByteArray.empty l0 x) j _ _ HS.out).mono ?_); rintro e w' ⟨rfl, ⟨nd, rfl⟩⟩))
      all_goals
        clear hc1 hc5 hxs hxi
        have HO1 := Aside0.mk (Kd.R_drewN HO.out (1 + nd))
        have HB1 := Aside0.mk (pw_below_drewN HB.out (1 + nd))
        clear HO HB
        generalize wr.drewN (1 + nd) = W at HO1 HB1 ⊢
        have hLb := HLE.out
        generalize hbv : shw (rdOf ByteArray.empty l0 x) j = b at ⊢
        have HK1 := Aside0.mk (HK.out b hbv)
        clear HK hbv
        cases b with
        | false =>
          have HO := Aside0.mk (show Kd.R (Kd.int .i64) 3 W w.heap.size (fun _ => True) u6 (keepL l0 j (L.take (i + 1))) by rw [HK1.out]; exact HO1.out)
          clear HO1
          go_wp2
          go_roundg (gk - 1)
          case measure => have := HJ.out; omega
          case rel => exact ⟨i + 1, by first | rfl | go_num, ⟨by have := HJ.out; omega⟩, HO, HB1⟩
        | true =>
          have HLn := Aside0.mk (show (keepL l0 j (L.take i)).length < 17592186044416 by have h1 := keepL_len l0 j (L.take i); rw [List.length_take] at h1; omega)
          go_wp2_with (first | ((with_reducible refine gate_builtin (b := .append) (xs := #[.tmp 23, .tmp 25]) rfl ?_); at_builtin; refine Kd.R_append (Kd.int .i64) (w0 := w) w.heap.size rfl (.tmp 23) (.tmp 25) 28 3 (.int .i64 0) 8 rfl Try.underlying28 arb_Race.info rfl (by decide) (by omega) u6 (keepL l0 j (L.take i)) x [.int .i64 x] (fun _ => True) (fun _ => False) rfl rfl ?aP (fun _ hk => hk.elim) ?aF ?aO ?aB ?aS ?aL ?_; (case aP => exact rfl); (case aB => exact HB1.out); (case aF => exact (fun _ _ => trivial)); (case aO => exact HO1.out); (case aS => exact (below_size HB1.out)); (case aL => have := HLn.out; omega); intro v174 w13 ho hb hg hat; rw [show keepL l0 j (L.take i) ++ [x] = keepL l0 j (L.take (i + 1)) from HK1.out.symm] at ho; have n0_ := Aside0.mk (hb); have n1_ := Aside0.mk (ho); clear HB1; clear HO1; have HB := n0_; have HO := n1_; clear n0_ n1_; clear ho hb hg hat))
          go_roundg (gk - 1)
          case measure => have := HJ.out; omega
          case rel => exact ⟨i + 1, by first | rfl | go_num, ⟨by have := HJ.out; omega⟩, HO, HB⟩
    · have hie : i = L.length := by have := HJ.out; omega
      subst hie
      have HO2 := HO.out
      rw [List.take_length] at HO2
      have HO3 := Aside0.mk HO2
      clear HO2
      go_wp2
      go_ret
      exact ⟨_, rfl, HO3.out, HB.out⟩
def arb_Race.f (k : Nat) (l0 : List ByteArray) : Option (List Int) := (arb_longest.f k l0).bind fun n => if l0.length < 17592186044416 then (if 0 ≤ n ∧ n ≤ 9223372036854775806 then some (raceN l0 n.toNat) else none) else none
theorem arb_Race.mono : ∀ l0 k, LeO (arb_Race.f k l0) (arb_Race.f (k + 1) l0) := by
  intro l0 k
  unfold arb_Race.f
  exact LeO.bind (arb_longest.mono _ k) (fun _ => LeO.refl _)
def RaceJ (A0 : Option Addr) (c0 : Nat) (l0 : List ByteArray) (N : Nat) (w : World) (a' : Act) (w' : World) : Prop :=
  ∃ (j : Nat) (v : Value) (g3 g5 : Nat) (u4 u7 u8 u9 u10 u11 u12 u13 u14 u15 u16 u17 u18 u19 u20 u21 u22 u23 u24 u25 u26 u27 u28 u29 u30 u31 u32 u33 : Value), a' = { tmps := #[.slice A0 l0.length c0, .pointer (some ⟨w.heap.size, 0, none⟩), .slice none 0 0, .pointer (some ⟨g3, 0, none⟩), u4, .pointer (some ⟨g5, 0, none⟩), .int .i64 N, u7, u8, u9, u10, u11, u12, u13, u14, u15, u16, u17, u18, u19, u20, u21, u22, u23, u24, u25, u26, u27, u28, u29, u30, u31, u32, u33], defers := [] } ∧ j ≤ N ∧ w'.heap[w.heap.size]? = some (.cells #[.slice A0 l0.length c0] 22 (0, 0)) ∧ w'.heap[g3]? = some (.cells #[v] 28 (0, 0)) ∧ w'.heap[g5]? = some (.cells #[.int .i64 j] 3 (0, 0)) ∧ Kd.R (Kd.int .i64) 3 w' w.heap.size (fun k => k ≠ g5) v (raceN l0 j) ∧ Below w.heap.size w w' ∧ w.heap.size < g3 ∧ g3 < g5
def cellInt (w : World) : Value → Int
  | .pointer (some ad) => match w.cell? ad with
    | some (.int _ q) => q
    | _ => 0
  | _ => 0
theorem cellInt_of {w : World} {ad : Addr} {k : IntKind} {q : Int} (h : w.cell? ad = some (.int k q)) : cellInt w (.pointer (some ad)) = q := by
  simp only [cellInt, h]
set_option maxRecDepth 1000000 in
set_option maxHeartbeats 8000000 in
theorem arb_Race.calls (k : Nat) (A0 : Option Addr) (c0 : Nat) (l0 : List ByteArray) (r : List Int) (w : World) (hr0 : Kd.C Kd.string w A0 l0.length l0) (hc0 : l0.length ≤ c0) (h : arb_Race.f k l0 = some r) :
    Calls Try.prog 13 #[.slice A0 l0.length c0] w fun e w' => ∃ v0_ : Value, e = .returned (v0_) ∧ Kd.R (Kd.int .i64) 3 w' w.heap.size (fun _ => True) v0_ r ∧ Below w.heap.size w w' := by
  obtain ⟨n, hn, h1⟩ := Option.bind_eq_some_iff.mp h
  by_cases hlb : l0.length < 17592186044416
  case neg => rw [if_neg hlb] at h1; exact absurd h1 (by simp)
  rw [if_pos hlb] at h1
  by_cases hn0 : 0 ≤ n ∧ n ≤ 9223372036854775806
  case neg => rw [if_neg hn0] at h1; exact absurd h1 (by simp)
  rw [if_pos hn0] at h1
  obtain ⟨hn0, hnb⟩ := hn0
  obtain ⟨N, rfl⟩ : ∃ N : Nat, n = N := ⟨n.toNat, by omega⟩
  rw [Int.toNat_natCast] at h1
  obtain rfl := Option.some.inj h1
  have HN := Aside0.mk hn
  have HL := Aside0.mk hlb
  have HC := Aside0.mk hc0
  have HR0 := Aside0.mk hr0
  clear h h1 hn hlb hn0 hc0 hr0
  go_enter Try.func13, Try.ntmps13
  go_wp2
  have B1 := Aside0.mk (blk_new w (Obj.cells #[.slice A0 l0.length c0] 22 (0, 0)))
  have HB := Aside0.mk (below_alloc (Below.refl w.heap.size w) (Obj.cells #[.slice A0 l0.length c0] 22 (0, 0)))
  have HZ := Aside0.mk (show (w.alloc (Obj.cells #[.slice A0 l0.length c0] 22 (0, 0))).heap.size = w.heap.size + 1 by simp)
  generalize w.alloc (Obj.cells #[.slice A0 l0.length c0] 22 (0, 0)) = W1 at B1 HB HZ ⊢
  have ht3 : ∀ q, q ∈ 3 :: (Kd.int .i64).E → q ≠ 28 := by
    intro q hq
    rcases List.mem_cons.mp hq with rfl | h
    · decide
    · cases h
  have HT := Aside0.mk ht3
  clear ht3
  have HNB := Aside0.mk (show N ≤ 9223372036854775806 by omega)
  clear hnb
  refine wp_scope_jumps 0 (RaceJ A0 c0 l0 N w) (fun a' w' => ((N : Int) - cellInt w' (a'.tmps.getD 5 undef)).toNat) rfl ?_ ?_
  · have hc1 : (W1.alloc (Obj.cells #[.slice none 0 0] 28 (0, 0))).cell? ⟨w.heap.size, 0, none⟩ = some (.slice A0 l0.length c0) := (blk_cell (blk_alloc B1.out _) 0).trans rfl
    have B1' := Aside0.mk (blk_alloc B1.out (Obj.cells #[.slice none 0 0] 28 (0, 0)))
    have B3 := Aside0.mk (blk_new W1 (Obj.cells #[.slice none 0 0] 28 (0, 0)))
    have HB' := Aside0.mk (below_alloc HB.out (Obj.cells #[.slice none 0 0] 28 (0, 0)))
    have HG := Aside0.mk (show w.heap.size < W1.heap.size by have := HZ.out; omega)
    go_wp2
    clear hc1
    generalize W1.alloc (Obj.cells #[.slice none 0 0] 28 (0, 0)) = W2 at B1' B3 HB' ⊢
    generalize W1.heap.size = g3 at B3 HG ⊢
    clear B1 HB HZ
    go_loopg [11] (l0.length + 1) (fun kq v11 w' => ∃ (i : Nat) (v : Value), v11 = .int .i64 i ∧ Aside0 (i ≤ l0.length ∧ kq + i = l0.length + 1) ∧ Aside0 (w'.heap[w.heap.size]? = some (.cells #[.slice A0 l0.length c0] 22 (0, 0))) ∧ Aside0 (w'.heap[g3]? = some (.cells #[v] 28 (0, 0))) ∧ Aside0 (Kd.R (Kd.int .i64) 3 w' w.heap.size (fun _ => True) v (iotaL i)) ∧ Aside0 (Below w.heap.size w w'))
    case atStart => exact ⟨0, _, rfl, ⟨by omega⟩, B1', B3, ⟨Kd.R_nil _ _ _ _ _⟩, HB'⟩
    case round =>
      clear B1' B3 HB'
      obtain ⟨i, v, rfl, HJ, B1, B3, HO, HB⟩ := hrel
      by_cases hi : i < l0.length
      · have hc3 : wr.cell? ⟨g3, 0, none⟩ = some v := (blk_cell B3.out 0).trans rfl
        have HLn := Aside0.mk (show (iotaL i).length < 17592186044416 by have := HL.out; rw [iotaL_len]; omega)
        have hlb := HL.out
        go_wp2_with (first | ((with_reducible refine gate_builtin (b := .append) (xs := #[.tmp 14, .tmp 16]) rfl ?_); at_builtin; refine Kd.R_append (Kd.int .i64) (w0 := w) w.heap.size rfl (.tmp 14) (.tmp 16) 28 3 (.int .i64 0) 8 rfl Try.underlying28 arb_Race.info rfl (by decide) (by omega) v (iotaL i) (i : Int) [.int .i64 i] (fun _ => True) (fun _ => False) rfl rfl ?aP (fun _ hk => hk.elim) ?aF ?aO ?aB ?aS ?aL ?_; (case aP => exact rfl); (case aB => exact HB.out); (case aF => exact (fun _ _ => trivial)); (case aO => exact HO.out); (case aS => exact (below_size HB.out)); (case aL => have := HLn.out; omega); intro v174 w13 ho hb hg hat; obtain ⟨n9, A9, c9, rfl⟩ : (∃ (n9 : Nat) (A9 : Option Addr) (c9 : Nat), v174 = Value.slice A9 n9 c9) := (by obtain ⟨A, c, h⟩ := Kd.R_slice ho; exact ⟨_, A, c, h⟩); have n0_ := Aside0.mk (hb); have n1_ := Aside0.mk (ho); have n2_ := Aside0.mk (blk_grown B1.out hg (Kd.R_ne HO.out B1.out (by decide))); have n3_ := Aside0.mk (blk_grown B3.out hg (Kd.R_ne HO.out B3.out (by decide))); have hd3 : w13.cell? ⟨g3, 0, none⟩ = some v := ((blk_cell n3_.out 0).trans rfl); have hf3 := blk_frozen n3_.out 0; clear HB HO B1 B3; have HB := n0_; have HO := n1_; have B1 := n2_; have B3 := n3_; clear n0_ n1_ n2_ n3_; clear ho hb hg hat hc3))
        have HB2 := Aside0.mk (below_set (j := 0) (v := Value.slice A9 n9 c9) HB.out (Nat.le_of_lt HG.out))
        have HO2 := Aside0.mk (Kd.R_set HO.out B3.out HT.out 0 (Value.slice A9 n9 c9))
        have B12 := Aside0.mk (blk_far B1.out (p := ⟨g3, 0, none⟩) (show w.heap.size ≠ g3 by have := HG.out; omega) (Value.slice A9 n9 c9))
        have B32 := Aside0.mk (blk_put B3.out 0 (Value.slice A9 n9 c9) rfl)
        clear hd3 hf3
        go_roundg (gk - 1)
        case measure => have := HJ.out; omega
        case rel => exact ⟨i + 1, _, by first | rfl | go_num, ⟨by have := HJ.out; omega⟩, B12, B32, HO2, HB2⟩
      · have hie : i = l0.length := by have := HJ.out; omega
        subst hie
        have hc1 : wr.cell? ⟨w.heap.size, 0, none⟩ = some (.slice A0 l0.length c0) := (blk_cell B1.out 0).trans rfl
        go_wp2_with (first | (go_at_call 23; (with_reducible refine (arb_longest.calls k _ _ l0 N _ ?s1 ?s2 HN.out).mono ?_); (case s1 => exact Kd.C_below HR0.out HB.out); (case s2 => exact HC.out); rintro e w4 ⟨rfl, hb4⟩; have n0_ := Aside0.mk (below_step HB.out hb4); have n1_ := Aside0.mk (blk_below B1.out hb4); have n2_ := Aside0.mk (blk_below B3.out hb4); have n3_ := Aside0.mk (Kd.R_below HO.out hb4); clear HB B1 B3 HO hb4; have HB := n0_; have B1 := n1_; have B3 := n2_; have HO := n3_; clear n0_ n1_ n2_ n3_; clear hc1))
        have B5 := Aside0.mk (blk_new w4 (Obj.cells #[.int .i64 0] 3 (0, 0)))
        have n0_ := Aside0.mk (below_alloc HB.out (Obj.cells #[.int .i64 0] 3 (0, 0)))
        have n1_ := Aside0.mk (blk_alloc B1.out (Obj.cells #[.int .i64 0] 3 (0, 0)))
        have n2_ := Aside0.mk (blk_alloc B3.out (Obj.cells #[.int .i64 0] 3 (0, 0)))
        have n3_ := Aside0.mk (Kd.R_mono (Kd.R_alloc (Kd.R_elderB HO.out w4.heap.size (Nat.le_refl _)) (Obj.cells #[.int .i64 0] 3 (0, 0))) (fun _ hk => hk.2) : Kd.R (Kd.int .i64) 3 _ w.heap.size (fun k => k ≠ w4.heap.size) v (iotaL l0.length))
        have hg35 : g3 < w4.heap.size := blk_lt B3.out
        clear HB B1 B3 HO
        have HB := n0_
        have B1 := n1_
        have B3 := n2_
        have HO := n3_
        clear n0_ n1_ n2_ n3_
        go_step3
        generalize w4.alloc (Obj.cells #[.int .i64 0] 3 (0, 0)) = W at B1 B3 B5 HO HB ⊢
        generalize w4.heap.size = g5 at B5 HO hg35 ⊢
        obtain ⟨j, hj0⟩ : ∃ j : Nat, j = 0 := ⟨0, rfl⟩
        have hjN : j ≤ N := by omega
        replace B5 := Aside0.mk (show W.heap[g5]? = some (.cells #[.int .i64 (j : Int)] 3 (0, 0)) by rw [hj0]; exact B5.out)
        replace HO := Aside0.mk (show Kd.R (Kd.int .i64) 3 W w.heap.size (fun k => k ≠ g5) v (raceN l0 j) by rw [hj0]; exact HO.out)
        clear hj0
        have HG2 := Aside0.mk (show g3 < g5 from hg35)
        by_cases hje : j = N
        · have hc5 : W.cell? ⟨g5, 0, none⟩ = some (.int .i64 (j : Int)) := (blk_cell B5.out 0).trans rfl
          have hc3 : W.cell? ⟨g3, 0, none⟩ = some v := (blk_cell B3.out 0).trans rfl
          have hcv : (j : Int) = (N : Int) := by omega
          have HO2 := Aside0.mk (Kd.R_mono HO.out (fun _ _ => trivial) : Kd.R (Kd.int .i64) 3 W w.heap.size (fun _ => True) v (raceN l0 j))
          rw [hje] at HO2
          clear HO
          go_wp2
          (try simp only [Exit.jump])
          go_ret
          exact ⟨_, rfl, HO2.out, HB.out⟩
        · have hc5 : W.cell? ⟨g5, 0, none⟩ = some (.int .i64 (j : Int)) := (blk_cell B5.out 0).trans rfl
          have hne : ¬ (j : Int) = (N : Int) := by omega
          have HK := Aside0.mk (keep_any w.heap.size g3 g5 A0 c0 l0 (raceN l0 j) v j w.heap.size (fun k => k ≠ g5) W B1.out B3.out B5.out (Kd.C_below HR0.out HB.out) HO.out (raceN_mem l0 j) (Nat.lt_of_le_of_lt (raceN_len l0 j) HL.out))
          have hlt : j < N := by omega
          by_cases hke : keepL l0 j (raceN l0 j) = []
          · go_upto_region 14 with (first | (go_at_call 26; (with_reducible refine (HK.out).mono ?_); rintro e w6 ⟨v6, rfl, ho6, hb6⟩; obtain ⟨n6, A6, c6, rfl, hn6⟩ : (∃ (n6 : Nat) (A6 : Option Addr) (c6 : Nat), v6 = Value.slice A6 n6 c6 ∧ n6 = (keepL l0 j (raceN l0 j)).length) := (by obtain ⟨A, c, h⟩ := Kd.R_slice ho6; exact ⟨_, A, c, h, rfl⟩); (have hp6 : n6 = 0 := by simp [hn6, hke]); subst hp6; have n0_ := Aside0.mk (below_step HB.out hb6); have n1_ := Aside0.mk (blk_below B1.out hb6); have n2_ := Aside0.mk (blk_below B3.out hb6); have n5_ := Aside0.mk (blk_below B5.out hb6); have n3_ := Aside0.mk (Kd.R_below HO.out hb6); have n4_ := Aside0.mk (Kd.R_lower (Kd.R_mono (Kd.R_newB ho6 B5.out) (fun _ hk => hk.2)) (below_size HB.out) : Kd.R (Kd.int .i64) 3 w6 w.heap.size (fun k => k ≠ g5) (Value.slice A6 0 c6) (keepL l0 j (raceN l0 j))); have hc3 : w6.cell? ⟨g3, 0, none⟩ = some v := ((blk_cell n2_.out 0).trans rfl); have hf3 := blk_frozen n2_.out 0; clear HB B1 B3 B5 HO hb6 ho6 hn6; have HB := n0_; have B1 := n1_; have B3 := n2_; have B5 := n5_; have HO := n3_; have HO6 := n4_; clear n0_ n1_ n2_ n3_ n4_ n5_; clear hc5))
            clear hc3 hf3 HO6
            have n0_ := Aside0.mk (below_set (j := 0) (v := Value.int .i64 ((j : Int) + 1)) HB.out (show w.heap.size ≤ g5 by have := HG.out; have := HG2.out; omega))
            have n1_ := Aside0.mk (blk_far B1.out (p := ⟨g5, 0, none⟩) (show w.heap.size ≠ g5 by have := HG.out; have := HG2.out; omega) (Value.int .i64 ((j : Int) + 1)))
            have n2_ := Aside0.mk (blk_far B3.out (p := ⟨g5, 0, none⟩) (show g3 ≠ g5 by have := HG2.out; omega) (Value.int .i64 ((j : Int) + 1)))
            have n3_ := Aside0.mk (blk_put (cs' := #[Value.int .i64 ((j + 1 : Nat) : Int)]) B5.out 0 (Value.int .i64 ((j : Int) + 1)) rfl)
            have n4_ := Aside0.mk (Kd.R_far HO.out (p := ⟨g5, 0, none⟩) (fun k hk => hk) (Value.int .i64 ((j : Int) + 1)))
            have n5_ := Aside0.mk ((blk_cell n3_.out 0).trans rfl : (_ : World).cell? ⟨g5, 0, none⟩ = some (.int .i64 ((j + 1 : Nat) : Int)))
            have hc5 : w6.cell? ⟨g5, 0, none⟩ = some (.int .i64 (j : Int)) := (blk_cell B5.out 0).trans rfl
            have hf5 := blk_frozen B5.out 0
            have hnb := HNB.out
            go_wp2
            go_step3
            exact ⟨rfl, ⟨j + 1, _, g3, g5, _, _, _, _, _, _, _, _, _, _, _, _, _, _, _, _, _, _, _, _, _, _, _, _, _, _, _, _, rfl, by omega, n1_.out, n2_.out, n3_.out, by rw [raceN, if_pos hke]; exact n4_.out, n0_.out, HG.out, HG2.out⟩⟩
          · go_upto_region 14 with (first | (go_at_call 26; (with_reducible refine (HK.out).mono ?_); rintro e w6 ⟨v6, rfl, ho6, hb6⟩; obtain ⟨n6, A6, c6, rfl, hn6⟩ : (∃ (n6 : Nat) (A6 : Option Addr) (c6 : Nat), v6 = Value.slice A6 n6 c6 ∧ n6 = (keepL l0 j (raceN l0 j)).length) := (by obtain ⟨A, c, h⟩ := Kd.R_slice ho6; exact ⟨_, A, c, h, rfl⟩); (have hp6 : (0 : Int) < (n6 : Int) := by have := List.length_pos_iff.mpr hke; omega); have n0_ := Aside0.mk (below_step HB.out hb6); have n1_ := Aside0.mk (blk_below B1.out hb6); have n2_ := Aside0.mk (blk_below B3.out hb6); have n5_ := Aside0.mk (blk_below B5.out hb6); have n3_ := Aside0.mk (Kd.R_below HO.out hb6); have n4_ := Aside0.mk (Kd.R_lower (Kd.R_mono (Kd.R_newB ho6 B5.out) (fun _ hk => hk.2)) (below_size HB.out) : Kd.R (Kd.int .i64) 3 w6 w.heap.size (fun k => k ≠ g5) (Value.slice A6 n6 c6) (keepL l0 j (raceN l0 j))); have hc3 : w6.cell? ⟨g3, 0, none⟩ = some v := ((blk_cell n2_.out 0).trans rfl); have hf3 := blk_frozen n2_.out 0; clear HB B1 B3 B5 HO hb6 ho6 hn6; have HB := n0_; have B1 := n1_; have B3 := n2_; have B5 := n5_; have HO := n3_; have HO6 := n4_; clear n0_ n1_ n2_ n3_ n4_ n5_; clear hc5))
            clear hc3 hf3 HO
            have n0_ := Aside0.mk (below_set (j := 0) (v := Value.slice A6 n6 c6) HB.out (Nat.le_of_lt HG.out))
            have n1_ := Aside0.mk (blk_far B1.out (p := ⟨g3, 0, none⟩) (show w.heap.size ≠ g3 by have := HG.out; omega) (Value.slice A6 n6 c6))
            have n2_ := Aside0.mk (blk_put (cs' := #[Value.slice A6 n6 c6]) B3.out 0 (Value.slice A6 n6 c6) rfl)
            have n3_ := Aside0.mk (blk_far B5.out (p := ⟨g3, 0, none⟩) (show g5 ≠ g3 by have := HG2.out; omega) (Value.slice A6 n6 c6))
            have n4_ := Aside0.mk (Kd.R_set HO6.out B3.out HT.out 0 (Value.slice A6 n6 c6))
            clear HB B1 B3 B5 HO6
            have HB := n0_
            have B1 := n1_
            have B3 := n2_
            have B5 := n3_
            have HO := n4_
            clear n0_ n1_ n2_ n3_ n4_
            generalize w6.setCell ⟨g3, 0, none⟩ (Value.slice A6 n6 c6) = W7 at HB B1 B3 B5 HO ⊢
            have n0_ := Aside0.mk (below_set (j := 0) (v := Value.int .i64 ((j : Int) + 1)) HB.out (show w.heap.size ≤ g5 by have := HG.out; have := HG2.out; omega))
            have n1_ := Aside0.mk (blk_far B1.out (p := ⟨g5, 0, none⟩) (show w.heap.size ≠ g5 by have := HG.out; have := HG2.out; omega) (Value.int .i64 ((j : Int) + 1)))
            have n2_ := Aside0.mk (blk_far B3.out (p := ⟨g5, 0, none⟩) (show g3 ≠ g5 by have := HG2.out; omega) (Value.int .i64 ((j : Int) + 1)))
            have n3_ := Aside0.mk (blk_put (cs' := #[Value.int .i64 ((j + 1 : Nat) : Int)]) B5.out 0 (Value.int .i64 ((j : Int) + 1)) rfl)
            have n4_ := Aside0.mk (Kd.R_far HO.out (p := ⟨g5, 0, none⟩) (fun k hk => hk) (Value.int .i64 ((j : Int) + 1)))
            have n5_ := Aside0.mk ((blk_cell n3_.out 0).trans rfl : (_ : World).cell? ⟨g5, 0, none⟩ = some (.int .i64 ((j + 1 : Nat) : Int)))
            have hc5 : W7.cell? ⟨g5, 0, none⟩ = some (.int .i64 (j : Int)) := (blk_cell B5.out 0).trans rfl
            have hf5 := blk_frozen B5.out 0
            have hnb := HNB.out
            go_wp2
            go_step3
            exact ⟨rfl, ⟨j + 1, _, g3, g5, _, _, _, _, _, _, _, _, _, _, _, _, _, _, _, _, _, _, _, _, _, _, _, _, _, _, _, _, rfl, by omega, n1_.out, n2_.out, n3_.out, by rw [raceN, if_neg hke]; exact n4_.out, n0_.out, HG.out, HG2.out⟩⟩
  · rintro a' W ⟨j, v, g3, g5, u4, u7, u8, u9, u10, u11, u12, u13, u14, u15, u16, u17, u18, u19, u20, u21, u22, u23, u24, u25, u26, u27, u28, u29, u30, u31, u32, u33, rfl, hjN, hb1, hb3, hb5, hR, hB, hg1, hg2⟩
    have B1 := Aside0.mk hb1
    have B3 := Aside0.mk hb3
    have B5 := Aside0.mk hb5
    have HO := Aside0.mk hR
    have HB := Aside0.mk hB
    have HG := Aside0.mk hg1
    have HC0 := Aside0.mk ((blk_cell hb5 0).trans rfl : W.cell? ⟨g5, 0, none⟩ = some (.int .i64 (j : Int)))
    clear hb1 hb3 hb5 hR hB hg1
    have HG2 := Aside0.mk (show g3 < g5 from hg2)
    by_cases hje : j = N
    · have hc5 : W.cell? ⟨g5, 0, none⟩ = some (.int .i64 (j : Int)) := (blk_cell B5.out 0).trans rfl
      have hc3 : W.cell? ⟨g3, 0, none⟩ = some v := (blk_cell B3.out 0).trans rfl
      have hcv : (j : Int) = (N : Int) := by omega
      have HO2 := Aside0.mk (Kd.R_mono HO.out (fun _ _ => trivial) : Kd.R (Kd.int .i64) 3 W w.heap.size (fun _ => True) v (raceN l0 j))
      rw [hje] at HO2
      clear HO
      go_wp2
      (try simp only [Exit.jump])
      go_ret
      exact ⟨_, rfl, HO2.out, HB.out⟩
    · have hc5 : W.cell? ⟨g5, 0, none⟩ = some (.int .i64 (j : Int)) := (blk_cell B5.out 0).trans rfl
      have hne : ¬ (j : Int) = (N : Int) := by omega
      have HK := Aside0.mk (keep_any w.heap.size g3 g5 A0 c0 l0 (raceN l0 j) v j w.heap.size (fun k => k ≠ g5) W B1.out B3.out B5.out (Kd.C_below HR0.out HB.out) HO.out (raceN_mem l0 j) (Nat.lt_of_le_of_lt (raceN_len l0 j) HL.out))
      have hlt : j < N := by omega
      by_cases hke : keepL l0 j (raceN l0 j) = []
      · go_upto_region 14 with (first | (go_at_call 26; (with_reducible refine (HK.out).mono ?_); rintro e w6 ⟨v6, rfl, ho6, hb6⟩; obtain ⟨n6, A6, c6, rfl, hn6⟩ : (∃ (n6 : Nat) (A6 : Option Addr) (c6 : Nat), v6 = Value.slice A6 n6 c6 ∧ n6 = (keepL l0 j (raceN l0 j)).length) := (by obtain ⟨A, c, h⟩ := Kd.R_slice ho6; exact ⟨_, A, c, h, rfl⟩); (have hp6 : n6 = 0 := by simp [hn6, hke]); subst hp6; have n0_ := Aside0.mk (below_step HB.out hb6); have n1_ := Aside0.mk (blk_below B1.out hb6); have n2_ := Aside0.mk (blk_below B3.out hb6); have n5_ := Aside0.mk (blk_below B5.out hb6); have n3_ := Aside0.mk (Kd.R_below HO.out hb6); have n4_ := Aside0.mk (Kd.R_lower (Kd.R_mono (Kd.R_newB ho6 B5.out) (fun _ hk => hk.2)) (below_size HB.out) : Kd.R (Kd.int .i64) 3 w6 w.heap.size (fun k => k ≠ g5) (Value.slice A6 0 c6) (keepL l0 j (raceN l0 j))); have hc3 : w6.cell? ⟨g3, 0, none⟩ = some v := ((blk_cell n2_.out 0).trans rfl); have hf3 := blk_frozen n2_.out 0; clear HB B1 B3 B5 HO hb6 ho6 hn6; have HB := n0_; have B1 := n1_; have B3 := n2_; have B5 := n5_; have HO := n3_; have HO6 := n4_; clear n0_ n1_ n2_ n3_ n4_ n5_; clear hc5))
        clear hc3 hf3 HO6
        have n0_ := Aside0.mk (below_set (j := 0) (v := Value.int .i64 ((j : Int) + 1)) HB.out (show w.heap.size ≤ g5 by have := HG.out; have := HG2.out; omega))
        have n1_ := Aside0.mk (blk_far B1.out (p := ⟨g5, 0, none⟩) (show w.heap.size ≠ g5 by have := HG.out; have := HG2.out; omega) (Value.int .i64 ((j : Int) + 1)))
        have n2_ := Aside0.mk (blk_far B3.out (p := ⟨g5, 0, none⟩) (show g3 ≠ g5 by have := HG2.out; omega) (Value.int .i64 ((j : Int) + 1)))
        have n3_ := Aside0.mk (blk_put (cs' := #[Value.int .i64 ((j + 1 : Nat) : Int)]) B5.out 0 (Value.int .i64 ((j : Int) + 1)) rfl)
        have n4_ := Aside0.mk (Kd.R_far HO.out (p := ⟨g5, 0, none⟩) (fun k hk => hk) (Value.int .i64 ((j : Int) + 1)))
        have n5_ := Aside0.mk ((blk_cell n3_.out 0).trans rfl : (_ : World).cell? ⟨g5, 0, none⟩ = some (.int .i64 ((j + 1 : Nat) : Int)))
        have hc5 : w6.cell? ⟨g5, 0, none⟩ = some (.int .i64 (j : Int)) := (blk_cell B5.out 0).trans rfl
        have hf5 := blk_frozen B5.out 0
        have hnb := HNB.out
        go_wp2
        go_step3
        exact ⟨rfl, ⟨j + 1, _, g3, g5, _, _, _, _, _, _, _, _, _, _, _, _, _, _, _, _, _, _, _, _, _, _, _, _, _, _, _, _, rfl, by omega, n1_.out, n2_.out, n3_.out, by rw [raceN, if_pos hke]; exact n4_.out, n0_.out, HG.out, HG2.out⟩, by (show ((N : Int) - cellInt _ (.pointer (some ⟨g5, 0, none⟩))).toNat < ((N : Int) - cellInt W (.pointer (some ⟨g5, 0, none⟩))).toNat); rw [cellInt_of n5_.out, cellInt_of HC0.out]; omega⟩
      · go_upto_region 14 with (first | (go_at_call 26; (with_reducible refine (HK.out).mono ?_); rintro e w6 ⟨v6, rfl, ho6, hb6⟩; obtain ⟨n6, A6, c6, rfl, hn6⟩ : (∃ (n6 : Nat) (A6 : Option Addr) (c6 : Nat), v6 = Value.slice A6 n6 c6 ∧ n6 = (keepL l0 j (raceN l0 j)).length) := (by obtain ⟨A, c, h⟩ := Kd.R_slice ho6; exact ⟨_, A, c, h, rfl⟩); (have hp6 : (0 : Int) < (n6 : Int) := by have := List.length_pos_iff.mpr hke; omega); have n0_ := Aside0.mk (below_step HB.out hb6); have n1_ := Aside0.mk (blk_below B1.out hb6); have n2_ := Aside0.mk (blk_below B3.out hb6); have n5_ := Aside0.mk (blk_below B5.out hb6); have n3_ := Aside0.mk (Kd.R_below HO.out hb6); have n4_ := Aside0.mk (Kd.R_lower (Kd.R_mono (Kd.R_newB ho6 B5.out) (fun _ hk => hk.2)) (below_size HB.out) : Kd.R (Kd.int .i64) 3 w6 w.heap.size (fun k => k ≠ g5) (Value.slice A6 n6 c6) (keepL l0 j (raceN l0 j))); have hc3 : w6.cell? ⟨g3, 0, none⟩ = some v := ((blk_cell n2_.out 0).trans rfl); have hf3 := blk_frozen n2_.out 0; clear HB B1 B3 B5 HO hb6 ho6 hn6; have HB := n0_; have B1 := n1_; have B3 := n2_; have B5 := n5_; have HO := n3_; have HO6 := n4_; clear n0_ n1_ n2_ n3_ n4_ n5_; clear hc5))
        clear hc3 hf3 HO
        have n0_ := Aside0.mk (below_set (j := 0) (v := Value.slice A6 n6 c6) HB.out (Nat.le_of_lt HG.out))
        have n1_ := Aside0.mk (blk_far B1.out (p := ⟨g3, 0, none⟩) (show w.heap.size ≠ g3 by have := HG.out; omega) (Value.slice A6 n6 c6))
        have n2_ := Aside0.mk (blk_put (cs' := #[Value.slice A6 n6 c6]) B3.out 0 (Value.slice A6 n6 c6) rfl)
        have n3_ := Aside0.mk (blk_far B5.out (p := ⟨g3, 0, none⟩) (show g5 ≠ g3 by have := HG2.out; omega) (Value.slice A6 n6 c6))
        have n4_ := Aside0.mk (Kd.R_set HO6.out B3.out HT.out 0 (Value.slice A6 n6 c6))
        clear HB B1 B3 B5 HO6
        have HB := n0_
        have B1 := n1_
        have B3 := n2_
        have B5 := n3_
        have HO := n4_
        clear n0_ n1_ n2_ n3_ n4_
        generalize w6.setCell ⟨g3, 0, none⟩ (Value.slice A6 n6 c6) = W7 at HB B1 B3 B5 HO ⊢
        have n0_ := Aside0.mk (below_set (j := 0) (v := Value.int .i64 ((j : Int) + 1)) HB.out (show w.heap.size ≤ g5 by have := HG.out; have := HG2.out; omega))
        have n1_ := Aside0.mk (blk_far B1.out (p := ⟨g5, 0, none⟩) (show w.heap.size ≠ g5 by have := HG.out; have := HG2.out; omega) (Value.int .i64 ((j : Int) + 1)))
        have n2_ := Aside0.mk (blk_far B3.out (p := ⟨g5, 0, none⟩) (show g3 ≠ g5 by have := HG2.out; omega) (Value.int .i64 ((j : Int) + 1)))
        have n3_ := Aside0.mk (blk_put (cs' := #[Value.int .i64 ((j + 1 : Nat) : Int)]) B5.out 0 (Value.int .i64 ((j : Int) + 1)) rfl)
        have n4_ := Aside0.mk (Kd.R_far HO.out (p := ⟨g5, 0, none⟩) (fun k hk => hk) (Value.int .i64 ((j : Int) + 1)))
        have n5_ := Aside0.mk ((blk_cell n3_.out 0).trans rfl : (_ : World).cell? ⟨g5, 0, none⟩ = some (.int .i64 ((j + 1 : Nat) : Int)))
        have hc5 : W7.cell? ⟨g5, 0, none⟩ = some (.int .i64 (j : Int)) := (blk_cell B5.out 0).trans rfl
        have hf5 := blk_frozen B5.out 0
        have hnb := HNB.out
        go_wp2
        go_step3
        exact ⟨rfl, ⟨j + 1, _, g3, g5, _, _, _, _, _, _, _, _, _, _, _, _, _, _, _, _, _, _, _, _, _, _, _, _, _, _, _, _, rfl, by omega, n1_.out, n2_.out, n3_.out, by rw [raceN, if_neg hke]; exact n4_.out, n0_.out, HG.out, HG2.out⟩, by (show ((N : Int) - cellInt _ (.pointer (some ⟨g5, 0, none⟩))).toNat < ((N : Int) - cellInt W (.pointer (some ⟨g5, 0, none⟩))).toNat); rw [cellInt_of n5_.out, cellInt_of HC0.out]; omega⟩

/-! ### crc_Bits: function 27 -/
mutual
def crc_Bits.j0 : Nat → Int → Int → Bool → Option (ByteArray)
  | 0, _, _, _ => none
  | k + 1, x0, x1, x16 => if x16 = true then (some (⟨#[]⟩ : ByteArray)) else (crc_Bits.l0 k x0 x1 ([] : List Int) x1 0)
def crc_Bits.l0 : Nat → Int → Int → List Int → Int → Int → Option (ByteArray)
  | 0, _, _, _, _, _ => none
  | k + 1, x0, x1, x5, x17, x18 => if x18 < x17 then (if 0 ≤ (wrap64 ((wrap64 (x1 - 1)) - x18)) then (if x5.length < 140737488355328 then (crc_Bits.l0 k x0 x1 (x5 ++ [(48 + ((Go.bits .and .i64 (shr .i64 x0 (wrap64 ((wrap64 (x1 - 1)) - x18))) 1) % 256)) % 256]) x17 (wrap64 (x18 + 1))) else (none)) else (none)) else (some (strOfNums x5))
end
def crc_Bits.f (k : Nat) (a0 : Int) (a1 : Int) : Option (ByteArray) := if a0 < 0 then (crc_Bits.j0 k a0 a1 true) else (if a1 < 0 then (crc_Bits.j0 k a0 a1 true) else (crc_Bits.j0 k a0 a1 (decide (a1 > 60))))
theorem crc_Bits.mono_l : ∀ k, (∀ y0 y1 y2, LeO (crc_Bits.j0 k y0 y1 y2) (crc_Bits.j0 (k + 1) y0 y1 y2)) ∧ (∀ y0 y1 y2 y3 y4, LeO (crc_Bits.l0 k y0 y1 y2 y3 y4) (crc_Bits.l0 (k + 1) y0 y1 y2 y3 y4))
  | 0 => ⟨fun _ _ _ r h => by simp [crc_Bits.j0] at h, fun _ _ _ _ _ r h => by simp [crc_Bits.l0] at h⟩
  | k + 1 => by
    obtain ⟨ih0, ih1⟩ := crc_Bits.mono_l k
    refine ⟨?_, ?_⟩
    · intro y0 y1 y2
      unfold crc_Bits.j0
      repeat' first
      | (with_reducible exact ih0 _ _ _)
      | (with_reducible exact ih1 _ _ _ _ _)
      | (with_reducible exact LeO.refl _)
      | (with_reducible exact LeO.none _)
      | (with_reducible refine LeO.ite ?_ ?_)
      | (with_reducible refine LeO.bind ?_ (fun _ => ?_))
      | exact ih0 _ _ _
      | exact ih1 _ _ _ _ _
      | exact LeO.none _
      | refine LeO.ite ?_ ?_
      | refine LeO.bind ?_ (fun _ => ?_)
    · intro y0 y1 y2 y3 y4
      unfold crc_Bits.l0
      repeat' first
      | (with_reducible exact ih0 _ _ _)
      | (with_reducible exact ih1 _ _ _ _ _)
      | (with_reducible exact LeO.refl _)
      | (with_reducible exact LeO.none _)
      | (with_reducible refine LeO.ite ?_ ?_)
      | (with_reducible refine LeO.bind ?_ (fun _ => ?_))
      | exact ih0 _ _ _
      | exact ih1 _ _ _ _ _
      | exact LeO.none _
      | refine LeO.ite ?_ ?_
      | refine LeO.bind ?_ (fun _ => ?_)
theorem crc_Bits.mono : ∀ a0 a1 k, LeO (crc_Bits.f k a0 a1) (crc_Bits.f (k + 1) a0 a1) := by
  intro a0 a1 k
  obtain ⟨ih0, ih1⟩ := crc_Bits.mono_l k
  unfold crc_Bits.f
  repeat' first
      | (with_reducible exact ih0 _ _ _)
      | (with_reducible exact ih1 _ _ _ _ _)
      | (with_reducible exact LeO.refl _)
      | (with_reducible exact LeO.none _)
      | (with_reducible refine LeO.ite ?_ ?_)
      | (with_reducible refine LeO.bind ?_ (fun _ => ?_))
      | exact ih0 _ _ _
      | exact ih1 _ _ _ _ _
      | exact LeO.none _
      | refine LeO.ite ?_ ?_
      | refine LeO.bind ?_ (fun _ => ?_)
set_option maxHeartbeats 8000000 in
set_option maxRecDepth 100000 in
theorem crc_Bits.calls (k : Nat) (a0 : Int) (a1 : Int) (r : ByteArray) (w : World) (h : crc_Bits.f k a0 a1 = some r) :
    Calls Try.prog 27 #[.int .i64 a0, .int .i64 a1] w fun e w' => e = .returned (.string r) ∧ Below w.heap.size w w' := by
  have HB := Aside0.mk (Below.refl w.heap.size w)
  have H : (if a0 < 0 then (crc_Bits.j0 k a0 a1 true) else (if a1 < 0 then (crc_Bits.j0 k a0 a1 true) else (crc_Bits.j0 k a0 a1 (decide (a1 > 60))))) = some r := h
  clear h
  have HC3 := Aside0.mk H
  clear H
  go_enter Try.func27, Try.ntmps27
  go_upto_region 1 with (fail)
  go_cut [16] (fun v16 wc => ∃ (kq : Nat) (x16_2 : Bool), v16 = .bool x16_2 ∧ Aside0 (crc_Bits.j0 kq a0 a1 x16_2 = some r) ∧ Aside0 (kq ≤ k) ∧ Aside0 (Below w.heap.size w wc))
  case first =>
    have H := HC3.out
    clear HC3
    by_cases c4 : a0 < 0
    · rw [if_pos c4] at H
      have c4b0 : decide (a0 < 0) = true := decide_eq_true c4
      clear c4
      (first | rw [c4b0] | (simp only [i64_w, i32_w]; rw [c4b0]) | skip)
      have H' := Aside0.mk H
      clear H
      go_wp2
      go_meet
      case rel => exact ⟨_, (true), (by first | rfl | (simp; done) | (simp [*]; done)), H', ⟨by first | omega | exact Nat.le_refl _⟩, ⟨by repeat (first | (with_reducible first | exact HB.out | apply below_alloc | apply pw_below_drewN | apply below_drew1) | exact HB.out)⟩⟩
    · rw [if_neg c4] at H
      have c4b0 : decide (a0 < 0) = false := decide_eq_false c4
      clear c4
      (first | rw [c4b0] | (simp only [i64_w, i32_w]; rw [c4b0]) | skip)
      by_cases c5 : a1 < 0
      · rw [if_pos c5] at H
        have c5b0 : decide (a1 < 0) = true := decide_eq_true c5
        clear c5
        have H' := Aside0.mk H
        clear H
        go_wp2
        go_meet
        case rel => exact ⟨_, (true), (by first | rfl | (simp; done) | (simp [*]; done)), H', ⟨by first | omega | exact Nat.le_refl _⟩, ⟨by repeat (first | (with_reducible first | exact HB.out | apply below_alloc | apply pw_below_drewN | apply below_drew1) | exact HB.out)⟩⟩
      · rw [if_neg c5] at H
        have c5b0 : decide (a1 < 0) = false := decide_eq_false c5
        clear c5
        have H' := Aside0.mk H
        clear H
        go_wp2
        go_meet
        case rel => exact ⟨_, (decide (a1 > 60)), (by first | rfl | (simp; done) | (simp [*]; done)), H', ⟨by first | omega | exact Nat.le_refl _⟩, ⟨by repeat (first | (with_reducible first | exact HB.out | apply below_alloc | apply pw_below_drewN | apply below_drew1) | exact HB.out)⟩⟩
  case rest =>
    clear HC3
    try clear c2
    try clear p2
    try clear c4
    try clear c4b0
    try clear c5
    try clear c5b0
    try clear HA
    try clear HJ2
    try clear HB
    obtain ⟨kq, x16_2, rfl, HA, HJ2, HB⟩ := hcut
    cases kq with
    | zero => exact absurd HA.out (by simp [crc_Bits.j0])
    | succ kj2 =>
      have H := HA.out
      clear HA
      simp only [crc_Bits.j0] at H
      by_cases c6 : x16_2 = true
      · subst c6
        have H1 : (some (⟨#[]⟩ : ByteArray)) = some r := by rw [if_pos rfl] at H; exact H
        clear H
        have H := H1
        clear H1
        obtain rfl := Option.some.inj H
        go_wp2
        go_ret
        exact ⟨by first | rfl | (simp [errW_none, errW_some] <;> rfl) | (simp [*, errW_none, errW_some] <;> rfl), by repeat (first | (with_reducible first | exact HB.out | apply below_alloc | apply pw_below_drewN | apply below_drew1) | exact HB.out)⟩
      · replace c6 := Bool.eq_false_iff.mpr c6
        subst c6
        have H1 : (crc_Bits.l0 kj2 a0 a1 ([] : List Int) a1 0) = some r := by rw [if_neg (show ¬ (false = true) by decide)] at H; exact H
        clear H
        have H := H1
        clear H1
        have H' := Aside0.mk H
        clear H
        go_wp2
        go_loopg [5, 18] kj2 (fun kq v5 v18 w' => ∃ (x5_2 : List Int) (x18_2 : Int), v18 = .int .i64 x18_2 ∧ Aside0 (crc_Bits.l0 kq a0 a1 x5_2 a1 x18_2 = some r) ∧ Aside0 (kq ≤ kj2) ∧ Aside0 (Kd.R (Kd.int .u8) 5 w' w.heap.size (fun _ => True) v5 x5_2) ∧ Aside0 (Below w.heap.size w w'))
        case atStart => exact ⟨(([] : List Int)), (0), (by first | rfl | (simp; done) | (simp [*]; done)), H', ⟨Nat.le_refl _⟩, ⟨by first | exact Kd.R_nil _ _ _ _ _ | exact Kd.N_nil _ _ _ _ _ | exact Kd.V_nil _ _ _ _ _ | exact Kd.Q_nil _ _ _ _ _ | exact Kd.S_nil _ _ _ _ _⟩, ⟨by repeat (first | (with_reducible first | exact HB.out | apply below_alloc | apply pw_below_drewN | apply below_drew1) | exact HB.out)⟩⟩
        case round =>
          clear H'
          try clear c2
          try clear p2
          try clear c4
          try clear c4b0
          try clear c5
          try clear c5b0
          try clear c6
          try clear p2
          obtain ⟨x5_2, x18_2, rfl, HA, HK2, HO_5, HB⟩ := hrel
          cases gk with
          | zero => exact absurd HA.out (by simp [crc_Bits.l0])
          | succ k2 =>
            have H := HA.out
            clear HA
            simp only [crc_Bits.l0] at H
            by_cases c7 : x18_2 < a1
            · rw [if_pos c7] at H
              have c7b0 : decide (x18_2 < a1) = true := decide_eq_true c7
              clear c7
              obtain ⟨ji8, hji8⟩ : ∃ j_ : Int, (wrap64 ((wrap64 (a1 - 1)) - x18_2)) = j_ := ⟨_, rfl⟩
              replace H : (if 0 ≤ (ji8) then (if x5_2.length < 140737488355328 then (crc_Bits.l0 k2 a0 a1 (x5_2 ++ [(48 + ((Go.bits .and .i64 (shr .i64 a0 (ji8)) 1) % 256)) % 256]) a1 (wrap64 (x18_2 + 1))) else (none)) else (none)) = some r := by first | (rw [hji8] at H; exact H) | (simp only [hji8] at H ⊢; exact H)
              have hji8w : (IntKind.i64.wrap ((wrap64 (a1 - 1)) - x18_2)) = ji8 := (i64_w _).trans hji8
              by_cases c9 : 0 ≤ (ji8)
              · rw [if_pos c9] at H
                have c9b0 := eq_true c9
                have c9b1 : decide (0 ≤ (ji8)) = true := decide_eq_true c9
                clear c9
                obtain ⟨ji10, hji10⟩ : ∃ j_ : Int, (shr .i64 a0 (ji8)) = j_ := ⟨_, rfl⟩
                replace H : (if x5_2.length < 140737488355328 then (crc_Bits.l0 k2 a0 a1 (x5_2 ++ [(48 + ((Go.bits .and .i64 (ji10) 1) % 256)) % 256]) a1 (wrap64 (x18_2 + 1))) else (none)) = some r := by first | (rw [hji10] at H; exact H) | (simp only [hji10] at H ⊢; exact H)
                have hji10_ : (a0 / 2 ^ min (ji8).toNat 64) = ji10 := hji10
                have hji10z : (ji8) ≤ 64 → (a0 / 2 ^ (ji8).toNat) = ji10 := shr_small hji10
                by_cases c11 : x5_2.length < 140737488355328
                · rw [if_pos c11] at H
                  have LMc11 := Aside0.mk c11
                  clear c11
                  obtain ⟨y111, hy111⟩ : ∃ y_ : List Int, y_ = (x5_2 ++ [(48 + ((Go.bits .and .i64 (ji10) 1) % 256)) % 256]) := ⟨_, rfl⟩
                  replace H : (crc_Bits.l0 k2 a0 a1 y111 a1 (wrap64 (x18_2 + 1))) = some r := by first | (rw [hy111]; with_reducible exact H) | (have H2_ := (Option.bind_some _ _).symm.trans H; rw [hy111]; with_reducible exact H2_) | (have H2_ := (Option.bind_some _ _).symm.trans H; with_reducible exact H2_) | with_reducible exact H | (rw [hy111]; exact H) | exact H
                  have Ny111 := Aside0.mk hy111
                  rw [Int.add_emod_emod] at Ny111
                  clear hy111
                  have H' := Aside0.mk H
                  clear H
                  go_wp2_with (first | ((with_reducible refine gate_builtin (b := .append) (xs := #[.tmp 21, .tmp 31]) rfl ?_); at_builtin; refine Kd.R_append (Kd.int .u8) (w0 := w) w.heap.size rfl (.tmp 21) (.tmp 31) 44 5 (.int .u8 0) 1 rfl Try.underlying44 info5 rfl (by decide) (by omega) u5 x5_2 ((48 + (Go.bits .and .i64 (ji10) 1)) % 256) [.int .u8 ((48 + (Go.bits .and .i64 (ji10) 1)) % 256)] (fun _ => True) (fun _ => False) rfl rfl ?aP (fun _ hk => hk.elim) ?aF ?aO ?aB ?aS ?aL ?_; (case aP => exact rfl); (case aB => exact (by repeat (first | (with_reducible first | exact HB.out | apply below_alloc | apply pw_below_drewN | apply below_drew1) | exact HB.out))); (case aF => exact (fun _ _ => trivial)); (case aO => exact (by (with_reducible repeat (first | apply Kd.R_alloc | apply Kd.R_drewN | apply Kd.R_drew)); exact HO_5.out)); (case aS => exact (below_size (by repeat (first | (with_reducible first | exact HB.out | apply below_alloc | apply pw_below_drewN | apply below_drew1) | exact HB.out)))); (case aL => have := LMc11.out; omega); intro v112 w12 ho hb hg hat; rw [← Ny111.out] at ho; have n0_ := Aside0.mk (hb); have n1_ := Aside0.mk (ho); clear HB; clear HO_5; have HB := n0_; have HO113 := n1_; clear n0_ n1_; clear ho hb hg hat))
                  go_roundg k2
                  case measure => have := HJ2.out; have := HK2.out; omega
                  case rel => exact ⟨(y111), (wrap64 (x18_2 + 1)), (by first | rfl | (simp; done) | (simp [*]; done)), H', ⟨by have := HJ2.out; have := HK2.out; omega⟩, ⟨by (with_reducible repeat (first | apply Kd.R_alloc | apply Kd.R_drewN | apply Kd.R_drew)); exact HO113.out⟩, ⟨by repeat (first | (with_reducible first | exact HB.out | apply below_alloc | apply pw_below_drewN | apply below_drew1) | exact HB.out)⟩⟩
                · rw [if_neg c11] at H
                  exact absurd H (by simp)
              · rw [if_neg c9] at H
                exact absurd H (by simp)
            · rw [if_neg c7] at H
              have c7b0 : decide (x18_2 < a1) = false := decide_eq_false c7
              clear c7
              obtain rfl := Option.some.inj H
              have hcv13 := own_string (P := Try.prog) Try.underlying44 Try.underlying5 Try.underlying9 (Kd.own_of_R HO_5.out)
              go_wp2
              go_ret
              exact ⟨by first | rfl | (simp [errW_none, errW_some] <;> rfl) | (simp [*, errW_none, errW_some] <;> rfl), by repeat (first | (with_reducible first | exact HB.out | apply below_alloc | apply pw_below_drewN | apply below_drew1) | exact HB.out)⟩

/-! ### frame_has: function 34 -/
def frame_has.f (a0_0 : Int) (a0_1 : Int) (a0_2 : Int) (a0_3 : ByteArray) (a1 : Int) : Option (Bool) := some ((Go.bits .and .i64 a0_1 a1) != 0)
set_option maxHeartbeats 8000000 in
set_option maxRecDepth 100000 in
theorem frame_has.calls (a0_0 : Int) (a0_1 : Int) (a0_2 : Int) (a0_3 : ByteArray) (a1 : Int) (r : Bool) (w : World) (h : frame_has.f a0_0 a0_1 a0_2 a0_3 a1 = some r) :
    Calls Try.prog 34 #[.agg #[.int .i64 a0_0, .int .i64 a0_1, .int .i64 a0_2, .string a0_3], .int .i64 a1] w fun e w' => e = .returned (.bool r) ∧ Below w.heap.size w w' := by
  have hu33 := Try.underlying33
  have HB := Aside0.mk (Below.refl w.heap.size w)
  have H : (some ((Go.bits .and .i64 a0_1 a1) != 0)) = some r := h
  clear h
  obtain rfl := Option.some.inj H
  go_enter Try.func34, Try.ntmps34
  go_wp2_with (first | ((with_reducible refine gate_dst (N := 2) rfl ?_); refine box_event ?hg (N := 2) ?hd (cs := #[.int .i64 a0_0, .int .i64 a0_1, .int .i64 a0_2, .string a0_3]) (t := 33) ?hr ?_; (case hd => rfl); (case hg => rfl); (case hr => first | (go_simp; done) | (go_simp; rfl)); intro gb114 hg w3 hbox hb; have n0_ := Aside0.mk (below_step (by repeat (first | (with_reducible first | exact HB.out | apply below_alloc | apply pw_below_drewN | apply below_drew1) | exact HB.out)) hb); have n1_ := Aside0.mk (hbox); have n2_ := Aside0.mk ((by rw [hg]; exact (below_size (by repeat (first | (with_reducible first | exact HB.out | apply below_alloc | apply pw_below_drewN | apply below_drew1) | exact HB.out))) : w.heap.size ≤ gb114)); have n3_ := Aside0.mk ((by rw [hg]; exact (below_size (by repeat (first | (with_reducible first | exact HB.out | apply below_alloc | apply pw_below_drewN | apply below_drew1) | exact HB.out))) : w.heap.size ≤ gb114)); clear HB; have HB := n0_; have BK114 := n1_; have GW114 := n2_; have GE114 := n3_; clear n0_ n1_ n2_ n3_; clear hb hbox hg; have hcz4_0 : w3.cell? ⟨gb114, 0, none⟩ = some (.int .i64 a0_0) := (blk_cell BK114.out 0).trans rfl; have hcz4_1 : w3.cell? ⟨gb114, 1, none⟩ = some (.int .i64 a0_1) := (blk_cell BK114.out 1).trans rfl; have hcz4_2 : w3.cell? ⟨gb114, 2, none⟩ = some (.int .i64 a0_2) := (blk_cell BK114.out 2).trans rfl; have hcz4_3 : w3.cell? ⟨gb114, 3, none⟩ = some (.string a0_3) := (blk_cell BK114.out 3).trans rfl; have hfz4_0 := blk_frozen BK114.out 0; have hfz4_1 := blk_frozen BK114.out 1; have hfz4_2 := blk_frozen BK114.out 2; have hfz4_3 := blk_frozen BK114.out 3))
  go_ret
  exact ⟨by first | rfl | (simp [errW_none, errW_some] <;> rfl) | (simp [*, errW_none, errW_some] <;> rfl), by repeat (first | (with_reducible first | exact HB.out | apply below_alloc | apply pw_below_drewN | apply below_drew1 | refine below_set ?_ GE114.out) | exact HB.out)⟩

/-! ### frame_flags: function 38 -/
def frame_flags.j0 : Nat → Bool → Int → Int → Int → ByteArray → Option (Bool)
  | 0, _, _, _, _, _ => none
  | k + 1, x3, x116000, x116001, x116002, x116003 => if x3 = true then (some false) else ((frame_has.f x116000 x116001 x116002 x116003 4).bind fun t116 => (if t116 = true then (some (x116001 == 4)) else ((frame_has.f x116000 x116001 x116002 x116003 8).bind fun t117 => (if t117 = true then ((frame_has.f x116000 x116001 x116002 x116003 2).bind fun t118 => (some (!t118))) else ((frame_has.f x116000 x116001 x116002 x116003 48).bind fun t119 => (some (!t119)))))))
def frame_flags.f (k : Nat) (a0_0 : Int) (a0_1 : Int) (a0_2 : Int) (a0_3 : ByteArray) : Option (Bool) := if a0_1 < 0 then (frame_flags.j0 k true a0_0 a0_1 a0_2 a0_3) else (frame_flags.j0 k (decide (a0_1 > 63)) a0_0 a0_1 a0_2 a0_3)
theorem frame_flags.mono_l : ∀ k, (∀ y0 y1 y2 y3 y4, LeO (frame_flags.j0 k y0 y1 y2 y3 y4) (frame_flags.j0 (k + 1) y0 y1 y2 y3 y4))
  | 0 => fun _ _ _ _ _ r h => by simp [frame_flags.j0] at h
  | k + 1 => by
    have ih0 := frame_flags.mono_l k
    · intro y0 y1 y2 y3 y4
      unfold frame_flags.j0
      repeat' first
      | (with_reducible exact ih0 _ _ _ _ _)
      | (with_reducible exact LeO.refl _)
      | (with_reducible exact LeO.none _)
      | (with_reducible refine LeO.ite ?_ ?_)
      | (with_reducible refine LeO.bind ?_ (fun _ => ?_))
      | exact ih0 _ _ _ _ _
      | exact LeO.none _
      | refine LeO.ite ?_ ?_
      | refine LeO.bind ?_ (fun _ => ?_)
theorem frame_flags.mono : ∀ a0 a1 a2 a3 k, LeO (frame_flags.f k a0 a1 a2 a3) (frame_flags.f (k + 1) a0 a1 a2 a3) := by
  intro a0 a1 a2 a3 k
  have ih0 := frame_flags.mono_l k
  unfold frame_flags.f
  repeat' first
      | (with_reducible exact ih0 _ _ _ _ _)
      | (with_reducible exact LeO.refl _)
      | (with_reducible exact LeO.none _)
      | (with_reducible refine LeO.ite ?_ ?_)
      | (with_reducible refine LeO.bind ?_ (fun _ => ?_))
      | exact ih0 _ _ _ _ _
      | exact LeO.none _
      | refine LeO.ite ?_ ?_
      | refine LeO.bind ?_ (fun _ => ?_)
set_option maxHeartbeats 8000000 in
set_option maxRecDepth 100000 in
theorem frame_flags.calls (k : Nat) (a0_0 : Int) (a0_1 : Int) (a0_2 : Int) (a0_3 : ByteArray) (r : Bool) (w : World) (h : frame_flags.f k a0_0 a0_1 a0_2 a0_3 = some r) :
    Calls Try.prog 38 #[.agg #[.int .i64 a0_0, .int .i64 a0_1, .int .i64 a0_2, .string a0_3]] w fun e w' => e = .returned (.bool r) ∧ Below w.heap.size w w' := by
  have hu33 := Try.underlying33
  have HB := Aside0.mk (Below.refl w.heap.size w)
  have H : (if a0_1 < 0 then (frame_flags.j0 k true a0_0 a0_1 a0_2 a0_3) else (frame_flags.j0 k (decide (a0_1 > 63)) a0_0 a0_1 a0_2 a0_3)) = some r := h
  clear h
  have HC2 := Aside0.mk H
  clear H
  go_enter Try.func38, Try.ntmps38
  go_upto_region 1 with (first | ((with_reducible refine gate_dst (N := 1) rfl ?_); refine box_event ?hg (N := 1) ?hd (cs := #[.int .i64 a0_0, .int .i64 a0_1, .int .i64 a0_2, .string a0_3]) (t := 33) ?hr ?_; (case hd => rfl); (case hg => rfl); (case hr => first | (go_simp; done) | (go_simp; rfl)); intro gb115 hg w3 hbox hb; have n0_ := Aside0.mk (below_step (by repeat (first | (with_reducible first | exact HB.out | apply below_alloc | apply pw_below_drewN | apply below_drew1) | exact HB.out)) hb); have n1_ := Aside0.mk (hbox); have n2_ := Aside0.mk ((by rw [hg]; exact (below_size (by repeat (first | (with_reducible first | exact HB.out | apply below_alloc | apply pw_below_drewN | apply below_drew1) | exact HB.out))) : w.heap.size ≤ gb115)); have n3_ := Aside0.mk ((by rw [hg]; exact (below_size (by repeat (first | (with_reducible first | exact HB.out | apply below_alloc | apply pw_below_drewN | apply below_drew1) | exact HB.out))) : w.heap.size ≤ gb115)); clear HB; have HB := n0_; have BK115 := n1_; have GW115 := n2_; have GE115 := n3_; clear n0_ n1_ n2_ n3_; clear hb hbox hg))
  (try simp only [Act.put, List.setIfInBounds_toArray, List.set_cons_zero, List.set_cons_succ])
  go_cut [3] (fun v3 wc => ∃ (kq : Nat) (x3_1 : Bool), v3 = .bool x3_1 ∧ Aside0 (frame_flags.j0 kq x3_1 a0_0 a0_1 a0_2 a0_3 = some r) ∧ Aside0 (kq ≤ k) ∧ Aside0 (wc.heap[gb115]? = some (.cells #[.int .i64 a0_0, .int .i64 a0_1, .int .i64 a0_2, .string a0_3] 33 (0, 0))) ∧ Aside0 (Below w.heap.size w wc))
  case first =>
    have H := HC2.out
    clear HC2
    by_cases c4 : a0_1 < 0
    · rw [if_pos c4] at H
      have c4b0 : decide (a0_1 < 0) = true := decide_eq_true c4
      clear c4
      (first | rw [c4b0] | (simp only [i64_w, i32_w]; rw [c4b0]) | skip)
      have H' := Aside0.mk H
      clear H
      have hcz5_0 : w3.cell? ⟨gb115, 0, none⟩ = some (.int .i64 a0_0) := (blk_cell BK115.out 0).trans rfl
      have hcz5_1 : w3.cell? ⟨gb115, 1, none⟩ = some (.int .i64 a0_1) := (blk_cell BK115.out 1).trans rfl
      have hcz5_2 : w3.cell? ⟨gb115, 2, none⟩ = some (.int .i64 a0_2) := (blk_cell BK115.out 2).trans rfl
      have hcz5_3 : w3.cell? ⟨gb115, 3, none⟩ = some (.string a0_3) := (blk_cell BK115.out 3).trans rfl
      have hfz5_0 := blk_frozen BK115.out 0
      have hfz5_1 := blk_frozen BK115.out 1
      have hfz5_2 := blk_frozen BK115.out 2
      have hfz5_3 := blk_frozen BK115.out 3
      go_wp2
      go_meet
      case rel => exact ⟨_, (true), (by first | rfl | (simp; done) | (simp [*]; done)), H', ⟨by first | omega | exact Nat.le_refl _⟩, ⟨by (with_reducible repeat (first | refine blk_drewN ?_ _ | refine blk_drew ?_ | refine blk_alloc ?_ _)); exact BK115.out⟩, ⟨by repeat (first | (with_reducible first | exact HB.out | apply below_alloc | apply pw_below_drewN | apply below_drew1 | refine below_set ?_ GE115.out) | exact HB.out)⟩⟩
    · rw [if_neg c4] at H
      have c4b0 : decide (a0_1 < 0) = false := decide_eq_false c4
      clear c4
      (first | rw [c4b0] | (simp only [i64_w, i32_w]; rw [c4b0]) | skip)
      have H' := Aside0.mk H
      clear H
      have hcz6_0 : w3.cell? ⟨gb115, 0, none⟩ = some (.int .i64 a0_0) := (blk_cell BK115.out 0).trans rfl
      have hcz6_1 : w3.cell? ⟨gb115, 1, none⟩ = some (.int .i64 a0_1) := (blk_cell BK115.out 1).trans rfl
      have hcz6_2 : w3.cell? ⟨gb115, 2, none⟩ = some (.int .i64 a0_2) := (blk_cell BK115.out 2).trans rfl
      have hcz6_3 : w3.cell? ⟨gb115, 3, none⟩ = some (.string a0_3) := (blk_cell BK115.out 3).trans rfl
      have hfz6_0 := blk_frozen BK115.out 0
      have hfz6_1 := blk_frozen BK115.out 1
      have hfz6_2 := blk_frozen BK115.out 2
      have hfz6_3 := blk_frozen BK115.out 3
      go_wp2
      go_meet
      case rel => exact ⟨_, (decide (a0_1 > 63)), (by first | rfl | (simp; done) | (simp [*]; done)), H', ⟨by first | omega | exact Nat.le_refl _⟩, ⟨by (with_reducible repeat (first | refine blk_drewN ?_ _ | refine blk_drew ?_ | refine blk_alloc ?_ _)); exact BK115.out⟩, ⟨by repeat (first | (with_reducible first | exact HB.out | apply below_alloc | apply pw_below_drewN | apply below_drew1 | refine below_set ?_ GE115.out) | exact HB.out)⟩⟩
  case rest =>
    clear HC2
    try clear p2
    try clear c3
    try clear c4
    try clear c4b0
    try clear hcz5_0
    try clear hcz5_1
    try clear hcz5_2
    try clear hcz5_3
    try clear hcz6_0
    try clear hcz6_1
    try clear hcz6_2
    try clear hcz6_3
    try clear hfz5_0
    try clear hfz5_1
    try clear hfz5_2
    try clear hfz5_3
    try clear hfz6_0
    try clear hfz6_1
    try clear hfz6_2
    try clear hfz6_3
    try clear HA
    try clear HJ1
    try clear BK115
    try clear HB
    obtain ⟨kq, x3_1, rfl, HA, HJ1, BK115, HB⟩ := hcut
    cases kq with
    | zero => exact absurd HA.out (by simp [frame_flags.j0])
    | succ kj1 =>
      have H := HA.out
      clear HA
      simp only [frame_flags.j0] at H
      by_cases c7 : x3_1 = true
      · subst c7
        have H1 : (some false) = some r := by rw [if_pos rfl] at H; exact H
        clear H
        have H := H1
        clear H1
        obtain rfl := Option.some.inj H
        go_wp2
        go_ret
        exact ⟨by first | rfl | (simp [errW_none, errW_some] <;> rfl) | (simp [*, errW_none, errW_some] <;> rfl), by repeat (first | (with_reducible first | exact HB.out | apply below_alloc | apply pw_below_drewN | apply below_drew1 | refine below_set ?_ GE115.out) | exact HB.out)⟩
      · replace c7 := Bool.eq_false_iff.mpr c7
        subst c7
        have H1 : ((frame_has.f a0_0 a0_1 a0_2 a0_3 4).bind fun t116 => (if t116 = true then (some (a0_1 == 4)) else ((frame_has.f a0_0 a0_1 a0_2 a0_3 8).bind fun t117 => (if t117 = true then ((frame_has.f a0_0 a0_1 a0_2 a0_3 2).bind fun t118 => (some (!t118))) else ((frame_has.f a0_0 a0_1 a0_2 a0_3 48).bind fun t119 => (some (!t119))))))) = some r := by rw [if_neg (show ¬ (false = true) by decide)] at H; exact H
        clear H
        have H := H1
        clear H1
        replace H := Option.bind_eq_some_iff.mp H
        obtain ⟨t116, A80, H⟩ := H
        replace H : (if t116 = true then (some (a0_1 == 4)) else ((frame_has.f a0_0 a0_1 a0_2 a0_3 8).bind fun t117 => (if t117 = true then ((frame_has.f a0_0 a0_1 a0_2 a0_3 2).bind fun t118 => (some (!t118))) else ((frame_has.f a0_0 a0_1 a0_2 a0_3 48).bind fun t119 => (some (!t119)))))) = some r := H
        have A8 := Aside0.mk A80
        clear A80
        by_cases c9 : t116 = true
        · subst c9
          have H1 : (some (a0_1 == 4)) = some r := by rw [if_pos rfl] at H; exact H
          clear H
          have H := H1
          clear H1
          obtain rfl := Option.some.inj H
          have hcz10_0 : wc.cell? ⟨gb115, 0, none⟩ = some (.int .i64 a0_0) := (blk_cell BK115.out 0).trans rfl
          have hcz10_1 : wc.cell? ⟨gb115, 1, none⟩ = some (.int .i64 a0_1) := (blk_cell BK115.out 1).trans rfl
          have hcz10_2 : wc.cell? ⟨gb115, 2, none⟩ = some (.int .i64 a0_2) := (blk_cell BK115.out 2).trans rfl
          have hcz10_3 : wc.cell? ⟨gb115, 3, none⟩ = some (.string a0_3) := (blk_cell BK115.out 3).trans rfl
          have hfz10_0 := blk_frozen BK115.out 0
          have hfz10_1 := blk_frozen BK115.out 1
          have hfz10_2 := blk_frozen BK115.out 2
          have hfz10_3 := blk_frozen BK115.out 3
          go_wp2_with (first | ((with_reducible refine gate_callee (f := 34) rfl ?_); refine goesL_ (some 14) rfl rfl Try.func34 (by kernel_rfl) rfl #[.agg #[.int .i64 a0_0, .int .i64 a0_1, .int .i64 a0_2, .string a0_3], .int .i64 4] rfl (by (try simp only [List.map_toArray, List.map_cons, List.map_nil]); first | done | rfl | (simp only [List.length_drop, List.length_take]; rfl)) ?_; (with_reducible refine (frame_has.calls a0_0 a0_1 a0_2 a0_3 4 true _ A8.out).mono ?_); rintro e w11 ⟨rfl, hb⟩; refine ⟨_, rfl, ?_⟩; have n0_ := Aside0.mk (blk_below (g := gb115) (o := .cells #[.int .i64 a0_0, .int .i64 a0_1, .int .i64 a0_2, .string a0_3] 33 (0, 0)) (by (with_reducible repeat (first | refine blk_drewN ?_ _ | refine blk_drew ?_ | refine blk_alloc ?_ _)); exact BK115.out) hb); have n1_ := Aside0.mk (below_step (by repeat (first | (with_reducible first | exact HB.out | apply below_alloc | apply pw_below_drewN | apply below_drew1 | refine below_set ?_ GE115.out) | exact HB.out)) hb); clear BK115; clear HB; have BK115 := n0_; have HB := n1_; clear n0_ n1_; (try clear hb); (try clear hb2); (try clear hk); (try clear hi); have hcz12_0 : w11.cell? ⟨gb115, 0, none⟩ = some (.int .i64 a0_0) := (blk_cell BK115.out 0).trans rfl; have hcz12_1 : w11.cell? ⟨gb115, 1, none⟩ = some (.int .i64 a0_1) := (blk_cell BK115.out 1).trans rfl; have hcz12_2 : w11.cell? ⟨gb115, 2, none⟩ = some (.int .i64 a0_2) := (blk_cell BK115.out 2).trans rfl; have hcz12_3 : w11.cell? ⟨gb115, 3, none⟩ = some (.string a0_3) := (blk_cell BK115.out 3).trans rfl; have hfz12_0 := blk_frozen BK115.out 0; have hfz12_1 := blk_frozen BK115.out 1; have hfz12_2 := blk_frozen BK115.out 2; have hfz12_3 := blk_frozen BK115.out 3))
          go_ret
          exact ⟨by first | rfl | (simp [errW_none, errW_some] <;> rfl) | (simp [*, errW_none, errW_some] <;> rfl), by repeat (first | (with_reducible first | exact HB.out | apply below_alloc | apply pw_below_drewN | apply below_drew1 | refine below_set ?_ GE115.out) | exact HB.out)⟩
        · replace c9 := Bool.eq_false_iff.mpr c9
          subst c9
          have H1 : ((frame_has.f a0_0 a0_1 a0_2 a0_3 8).bind fun t117 => (if t117 = true then ((frame_has.f a0_0 a0_1 a0_2 a0_3 2).bind fun t118 => (some (!t118))) else ((frame_has.f a0_0 a0_1 a0_2 a0_3 48).bind fun t119 => (some (!t119))))) = some r := by rw [if_neg (show ¬ (false = true) by decide)] at H; exact H
          clear H
          have H := H1
          clear H1
          replace H := Option.bind_eq_some_iff.mp H
          obtain ⟨t117, A130, H⟩ := H
          replace H : (if t117 = true then ((frame_has.f a0_0 a0_1 a0_2 a0_3 2).bind fun t118 => (some (!t118))) else ((frame_has.f a0_0 a0_1 a0_2 a0_3 48).bind fun t119 => (some (!t119)))) = some r := H
          have A13 := Aside0.mk A130
          clear A130
          by_cases c14 : t117 = true
          · subst c14
            have H1 : ((frame_has.f a0_0 a0_1 a0_2 a0_3 2).bind fun t118 => (some (!t118))) = some r := by rw [if_pos rfl] at H; exact H
            clear H
            have H := H1
            clear H1
            replace H := Option.bind_eq_some_iff.mp H
            obtain ⟨t118, A150, H⟩ := H
            replace H : (some (!t118)) = some r := H
            have A15 := Aside0.mk A150
            clear A150
            obtain rfl := Option.some.inj H
            have hcz16_0 : wc.cell? ⟨gb115, 0, none⟩ = some (.int .i64 a0_0) := (blk_cell BK115.out 0).trans rfl
            have hcz16_1 : wc.cell? ⟨gb115, 1, none⟩ = some (.int .i64 a0_1) := (blk_cell BK115.out 1).trans rfl
            have hcz16_2 : wc.cell? ⟨gb115, 2, none⟩ = some (.int .i64 a0_2) := (blk_cell BK115.out 2).trans rfl
            have hcz16_3 : wc.cell? ⟨gb115, 3, none⟩ = some (.string a0_3) := (blk_cell BK115.out 3).trans rfl
            have hfz16_0 := blk_frozen BK115.out 0
            have hfz16_1 := blk_frozen BK115.out 1
            have hfz16_2 := blk_frozen BK115.out 2
            have hfz16_3 := blk_frozen BK115.out 3
            go_wp2_with (first | ((with_reducible refine gate_callee (f := 34) rfl ?_); refine goesL_ (some 14) rfl rfl Try.func34 (by kernel_rfl) rfl #[.agg #[.int .i64 a0_0, .int .i64 a0_1, .int .i64 a0_2, .string a0_3], .int .i64 4] rfl (by (try simp only [List.map_toArray, List.map_cons, List.map_nil]); first | done | rfl | (simp only [List.length_drop, List.length_take]; rfl)) ?_; (with_reducible refine (frame_has.calls a0_0 a0_1 a0_2 a0_3 4 false _ A8.out).mono ?_); rintro e w17 ⟨rfl, hb⟩; refine ⟨_, rfl, ?_⟩; have n0_ := Aside0.mk (blk_below (g := gb115) (o := .cells #[.int .i64 a0_0, .int .i64 a0_1, .int .i64 a0_2, .string a0_3] 33 (0, 0)) (by (with_reducible repeat (first | refine blk_drewN ?_ _ | refine blk_drew ?_ | refine blk_alloc ?_ _)); exact BK115.out) hb); have n1_ := Aside0.mk (below_step (by repeat (first | (with_reducible first | exact HB.out | apply below_alloc | apply pw_below_drewN | apply below_drew1 | refine below_set ?_ GE115.out) | exact HB.out)) hb); clear BK115; clear HB; have BK115 := n0_; have HB := n1_; clear n0_ n1_; (try clear hb); (try clear hb2); (try clear hk); (try clear hi); have hcz18_0 : w17.cell? ⟨gb115, 0, none⟩ = some (.int .i64 a0_0) := (blk_cell BK115.out 0).trans rfl; have hcz18_1 : w17.cell? ⟨gb115, 1, none⟩ = some (.int .i64 a0_1) := (blk_cell BK115.out 1).trans rfl; have hcz18_2 : w17.cell? ⟨gb115, 2, none⟩ = some (.int .i64 a0_2) := (blk_cell BK115.out 2).trans rfl; have hcz18_3 : w17.cell? ⟨gb115, 3, none⟩ = some (.string a0_3) := (blk_cell BK115.out 3).trans rfl; have hfz18_0 := blk_frozen BK115.out 0; have hfz18_1 := blk_frozen BK115.out 1; have hfz18_2 := blk_frozen BK115.out 2; have hfz18_3 := blk_frozen BK115.out 3) | ((with_reducible refine gate_callee (f := 34) rfl ?_); refine goesL_ (some 20) rfl rfl Try.func34 (by kernel_rfl) rfl #[.agg #[.int .i64 a0_0, .int .i64 a0_1, .int .i64 a0_2, .string a0_3], .int .i64 8] rfl (by (try simp only [List.map_toArray, List.map_cons, List.map_nil]); first | done | rfl | (simp only [List.length_drop, List.length_take]; rfl)) ?_; (with_reducible refine (frame_has.calls a0_0 a0_1 a0_2 a0_3 8 true _ A13.out).mono ?_); rintro e w19 ⟨rfl, hb⟩; refine ⟨_, rfl, ?_⟩; have n0_ := Aside0.mk (blk_below (g := gb115) (o := .cells #[.int .i64 a0_0, .int .i64 a0_1, .int .i64 a0_2, .string a0_3] 33 (0, 0)) (by (with_reducible repeat (first | refine blk_drewN ?_ _ | refine blk_drew ?_ | refine blk_alloc ?_ _)); exact BK115.out) hb); have n1_ := Aside0.mk (below_step (by repeat (first | (with_reducible first | exact HB.out | apply below_alloc | apply pw_below_drewN | apply below_drew1 | refine below_set ?_ GE115.out) | exact HB.out)) hb); clear BK115; clear HB; have BK115 := n0_; have HB := n1_; clear n0_ n1_; (try clear hb); (try clear hb2); (try clear hk); (try clear hi); have hcz20_0 : w19.cell? ⟨gb115, 0, none⟩ = some (.int .i64 a0_0) := (blk_cell BK115.out 0).trans rfl; have hcz20_1 : w19.cell? ⟨gb115, 1, none⟩ = some (.int .i64 a0_1) := (blk_cell BK115.out 1).trans rfl; have hcz20_2 : w19.cell? ⟨gb115, 2, none⟩ = some (.int .i64 a0_2) := (blk_cell BK115.out 2).trans rfl; have hcz20_3 : w19.cell? ⟨gb115, 3, none⟩ = some (.string a0_3) := (blk_cell BK115.out 3).trans rfl; have hfz20_0 := blk_frozen BK115.out 0; have hfz20_1 := blk_frozen BK115.out 1; have hfz20_2 := blk_frozen BK115.out 2; have hfz20_3 := blk_frozen BK115.out 3) | ((with_reducible refine gate_callee (f := 34) rfl ?_); refine goesL_ (some 22) rfl rfl Try.func34 (by kernel_rfl) rfl #[.agg #[.int .i64 a0_0, .int .i64 a0_1, .int .i64 a0_2, .string a0_3], .int .i64 2] rfl (by (try simp only [List.map_toArray, List.map_cons, List.map_nil]); first | done | rfl | (simp only [List.length_drop, List.length_take]; rfl)) ?_; (with_reducible refine (frame_has.calls a0_0 a0_1 a0_2 a0_3 2 t118 _ A15.out).mono ?_); rintro e w21 ⟨rfl, hb⟩; refine ⟨_, rfl, ?_⟩; have n0_ := Aside0.mk (blk_below (g := gb115) (o := .cells #[.int .i64 a0_0, .int .i64 a0_1, .int .i64 a0_2, .string a0_3] 33 (0, 0)) (by (with_reducible repeat (first | refine blk_drewN ?_ _ | refine blk_drew ?_ | refine blk_alloc ?_ _)); exact BK115.out) hb); have n1_ := Aside0.mk (below_step (by repeat (first | (with_reducible first | exact HB.out | apply below_alloc | apply pw_below_drewN | apply below_drew1 | refine below_set ?_ GE115.out) | exact HB.out)) hb); clear BK115; clear HB; have BK115 := n0_; have HB := n1_; clear n0_ n1_; (try clear hb); (try clear hb2); (try clear hk); (try clear hi)))
            go_ret
            exact ⟨by first | rfl | (simp [errW_none, errW_some] <;> rfl) | (simp [*, errW_none, errW_some] <;> rfl), by repeat (first | (with_reducible first | exact HB.out | apply below_alloc | apply pw_below_drewN | apply below_drew1 | refine below_set ?_ GE115.out) | exact HB.out)⟩
          · replace c14 := Bool.eq_false_iff.mpr c14
            subst c14
            have H1 : ((frame_has.f a0_0 a0_1 a0_2 a0_3 48).bind fun t119 => (some (!t119))) = some r := by rw [if_neg (show ¬ (false = true) by decide)] at H; exact H
            clear H
            have H := H1
            clear H1
            replace H := Option.bind_eq_some_iff.mp H
            obtain ⟨t119, A220, H⟩ := H
            replace H : (some (!t119)) = some r := H
            have A22 := Aside0.mk A220
            clear A220
            obtain rfl := Option.some.inj H
            have hcz23_0 : wc.cell? ⟨gb115, 0, none⟩ = some (.int .i64 a0_0) := (blk_cell BK115.out 0).trans rfl
            have hcz23_1 : wc.cell? ⟨gb115, 1, none⟩ = some (.int .i64 a0_1) := (blk_cell BK115.out 1).trans rfl
            have hcz23_2 : wc.cell? ⟨gb115, 2, none⟩ = some (.int .i64 a0_2) := (blk_cell BK115.out 2).trans rfl
            have hcz23_3 : wc.cell? ⟨gb115, 3, none⟩ = some (.string a0_3) := (blk_cell BK115.out 3).trans rfl
            have hfz23_0 := blk_frozen BK115.out 0
            have hfz23_1 := blk_frozen BK115.out 1
            have hfz23_2 := blk_frozen BK115.out 2
            have hfz23_3 := blk_frozen BK115.out 3
            go_wp2_with (first | ((with_reducible refine gate_callee (f := 34) rfl ?_); refine goesL_ (some 14) rfl rfl Try.func34 (by kernel_rfl) rfl #[.agg #[.int .i64 a0_0, .int .i64 a0_1, .int .i64 a0_2, .string a0_3], .int .i64 4] rfl (by (try simp only [List.map_toArray, List.map_cons, List.map_nil]); first | done | rfl | (simp only [List.length_drop, List.length_take]; rfl)) ?_; (with_reducible refine (frame_has.calls a0_0 a0_1 a0_2 a0_3 4 false _ A8.out).mono ?_); rintro e w24 ⟨rfl, hb⟩; refine ⟨_, rfl, ?_⟩; have n0_ := Aside0.mk (blk_below (g := gb115) (o := .cells #[.int .i64 a0_0, .int .i64 a0_1, .int .i64 a0_2, .string a0_3] 33 (0, 0)) (by (with_reducible repeat (first | refine blk_drewN ?_ _ | refine blk_drew ?_ | refine blk_alloc ?_ _)); exact BK115.out) hb); have n1_ := Aside0.mk (below_step (by repeat (first | (with_reducible first | exact HB.out | apply below_alloc | apply pw_below_drewN | apply below_drew1 | refine below_set ?_ GE115.out) | exact HB.out)) hb); clear BK115; clear HB; have BK115 := n0_; have HB := n1_; clear n0_ n1_; (try clear hb); (try clear hb2); (try clear hk); (try clear hi); have hcz25_0 : w24.cell? ⟨gb115, 0, none⟩ = some (.int .i64 a0_0) := (blk_cell BK115.out 0).trans rfl; have hcz25_1 : w24.cell? ⟨gb115, 1, none⟩ = some (.int .i64 a0_1) := (blk_cell BK115.out 1).trans rfl; have hcz25_2 : w24.cell? ⟨gb115, 2, none⟩ = some (.int .i64 a0_2) := (blk_cell BK115.out 2).trans rfl; have hcz25_3 : w24.cell? ⟨gb115, 3, none⟩ = some (.string a0_3) := (blk_cell BK115.out 3).trans rfl; have hfz25_0 := blk_frozen BK115.out 0; have hfz25_1 := blk_frozen BK115.out 1; have hfz25_2 := blk_frozen BK115.out 2; have hfz25_3 := blk_frozen BK115.out 3) | ((with_reducible refine gate_callee (f := 34) rfl ?_); refine goesL_ (some 20) rfl rfl Try.func34 (by kernel_rfl) rfl #[.agg #[.int .i64 a0_0, .int .i64 a0_1, .int .i64 a0_2, .string a0_3], .int .i64 8] rfl (by (try simp only [List.map_toArray, List.map_cons, List.map_nil]); first | done | rfl | (simp only [List.length_drop, List.length_take]; rfl)) ?_; (with_reducible refine (frame_has.calls a0_0 a0_1 a0_2 a0_3 8 false _ A13.out).mono ?_); rintro e w26 ⟨rfl, hb⟩; refine ⟨_, rfl, ?_⟩; have n0_ := Aside0.mk (blk_below (g := gb115) (o := .cells #[.int .i64 a0_0, .int .i64 a0_1, .int .i64 a0_2, .string a0_3] 33 (0, 0)) (by (with_reducible repeat (first | refine blk_drewN ?_ _ | refine blk_drew ?_ | refine blk_alloc ?_ _)); exact BK115.out) hb); have n1_ := Aside0.mk (below_step (by repeat (first | (with_reducible first | exact HB.out | apply below_alloc | apply pw_below_drewN | apply below_drew1 | refine below_set ?_ GE115.out) | exact HB.out)) hb); clear BK115; clear HB; have BK115 := n0_; have HB := n1_; clear n0_ n1_; (try clear hb); (try clear hb2); (try clear hk); (try clear hi); have hcz27_0 : w26.cell? ⟨gb115, 0, none⟩ = some (.int .i64 a0_0) := (blk_cell BK115.out 0).trans rfl; have hcz27_1 : w26.cell? ⟨gb115, 1, none⟩ = some (.int .i64 a0_1) := (blk_cell BK115.out 1).trans rfl; have hcz27_2 : w26.cell? ⟨gb115, 2, none⟩ = some (.int .i64 a0_2) := (blk_cell BK115.out 2).trans rfl; have hcz27_3 : w26.cell? ⟨gb115, 3, none⟩ = some (.string a0_3) := (blk_cell BK115.out 3).trans rfl; have hfz27_0 := blk_frozen BK115.out 0; have hfz27_1 := blk_frozen BK115.out 1; have hfz27_2 := blk_frozen BK115.out 2; have hfz27_3 := blk_frozen BK115.out 3) | ((with_reducible refine gate_callee (f := 34) rfl ?_); refine goesL_ (some 25) rfl rfl Try.func34 (by kernel_rfl) rfl #[.agg #[.int .i64 a0_0, .int .i64 a0_1, .int .i64 a0_2, .string a0_3], .int .i64 48] rfl (by (try simp only [List.map_toArray, List.map_cons, List.map_nil]); first | done | rfl | (simp only [List.length_drop, List.length_take]; rfl)) ?_; (with_reducible refine (frame_has.calls a0_0 a0_1 a0_2 a0_3 48 t119 _ A22.out).mono ?_); rintro e w28 ⟨rfl, hb⟩; refine ⟨_, rfl, ?_⟩; have n0_ := Aside0.mk (blk_below (g := gb115) (o := .cells #[.int .i64 a0_0, .int .i64 a0_1, .int .i64 a0_2, .string a0_3] 33 (0, 0)) (by (with_reducible repeat (first | refine blk_drewN ?_ _ | refine blk_drew ?_ | refine blk_alloc ?_ _)); exact BK115.out) hb); have n1_ := Aside0.mk (below_step (by repeat (first | (with_reducible first | exact HB.out | apply below_alloc | apply pw_below_drewN | apply below_drew1 | refine below_set ?_ GE115.out) | exact HB.out)) hb); clear BK115; clear HB; have BK115 := n0_; have HB := n1_; clear n0_ n1_; (try clear hb); (try clear hb2); (try clear hk); (try clear hi)))
            go_ret
            exact ⟨by first | rfl | (simp [errW_none, errW_some] <;> rfl) | (simp [*, errW_none, errW_some] <;> rfl), by repeat (first | (with_reducible first | exact HB.out | apply below_alloc | apply pw_below_drewN | apply below_drew1 | refine below_set ?_ GE115.out) | exact HB.out)⟩

/-! ### frame_most: function 39 -/
def frame_most.f (a0_0 : Int) (a0_1 : Int) (a0_2 : Int) (a0_3 : ByteArray) : Option (Int) := (frame_has.f a0_0 a0_1 a0_2 a0_3 5).bind fun t121 => (if t121 = true then (some 536870911) else (some 2047))
set_option maxHeartbeats 8000000 in
set_option maxRecDepth 100000 in
theorem frame_most.calls (a0_0 : Int) (a0_1 : Int) (a0_2 : Int) (a0_3 : ByteArray) (r : Int) (w : World) (h : frame_most.f a0_0 a0_1 a0_2 a0_3 = some r) :
    Calls Try.prog 39 #[.agg #[.int .i64 a0_0, .int .i64 a0_1, .int .i64 a0_2, .string a0_3]] w fun e w' => e = .returned (.int .i64 r) ∧ Below w.heap.size w w' := by
  have hu33 := Try.underlying33
  have HB := Aside0.mk (Below.refl w.heap.size w)
  have H : ((frame_has.f a0_0 a0_1 a0_2 a0_3 5).bind fun t121 => (if t121 = true then (some 536870911) else (some 2047))) = some r := h
  clear h
  replace H := Option.bind_eq_some_iff.mp H
  obtain ⟨t121, A20, H⟩ := H
  replace H : (if t121 = true then (some 536870911) else (some 2047)) = some r := H
  have A2 := Aside0.mk A20
  clear A20
  by_cases c3 : t121 = true
  · subst c3
    have H1 : (some 536870911) = some r := by rw [if_pos rfl] at H; exact H
    clear H
    have H := H1
    clear H1
    obtain rfl := Option.some.inj H
    go_enter Try.func39, Try.ntmps39
    go_wp2_with (first | ((with_reducible refine gate_dst (N := 1) rfl ?_); refine box_event ?hg (N := 1) ?hd (cs := #[.int .i64 a0_0, .int .i64 a0_1, .int .i64 a0_2, .string a0_3]) (t := 33) ?hr ?_; (case hd => rfl); (case hg => rfl); (case hr => first | (go_simp; done) | (go_simp; rfl)); intro gb120 hg w4 hbox hb; have n0_ := Aside0.mk (below_step (by repeat (first | (with_reducible first | exact HB.out | apply below_alloc | apply pw_below_drewN | apply below_drew1) | exact HB.out)) hb); have n1_ := Aside0.mk (hbox); have n2_ := Aside0.mk ((by rw [hg]; exact (below_size (by repeat (first | (with_reducible first | exact HB.out | apply below_alloc | apply pw_below_drewN | apply below_drew1) | exact HB.out))) : w.heap.size ≤ gb120)); have n3_ := Aside0.mk ((by rw [hg]; exact (below_size (by repeat (first | (with_reducible first | exact HB.out | apply below_alloc | apply pw_below_drewN | apply below_drew1) | exact HB.out))) : w.heap.size ≤ gb120)); clear HB; have HB := n0_; have BK120 := n1_; have GW120 := n2_; have GE120 := n3_; clear n0_ n1_ n2_ n3_; clear hb hbox hg; have hcz5_0 : w4.cell? ⟨gb120, 0, none⟩ = some (.int .i64 a0_0) := (blk_cell BK120.out 0).trans rfl; have hcz5_1 : w4.cell? ⟨gb120, 1, none⟩ = some (.int .i64 a0_1) := (blk_cell BK120.out 1).trans rfl; have hcz5_2 : w4.cell? ⟨gb120, 2, none⟩ = some (.int .i64 a0_2) := (blk_cell BK120.out 2).trans rfl; have hcz5_3 : w4.cell? ⟨gb120, 3, none⟩ = some (.string a0_3) := (blk_cell BK120.out 3).trans rfl; have hfz5_0 := blk_frozen BK120.out 0; have hfz5_1 := blk_frozen BK120.out 1; have hfz5_2 := blk_frozen BK120.out 2; have hfz5_3 := blk_frozen BK120.out 3) | ((with_reducible refine gate_callee (f := 34) rfl ?_); refine goesL_ (some 4) rfl rfl Try.func34 (by kernel_rfl) rfl #[.agg #[.int .i64 a0_0, .int .i64 a0_1, .int .i64 a0_2, .string a0_3], .int .i64 5] rfl (by (try simp only [List.map_toArray, List.map_cons, List.map_nil]); first | done | rfl | (simp only [List.length_drop, List.length_take]; rfl)) ?_; (with_reducible refine (frame_has.calls a0_0 a0_1 a0_2 a0_3 5 true _ A2.out).mono ?_); rintro e w6 ⟨rfl, hb⟩; refine ⟨_, rfl, ?_⟩; have n0_ := Aside0.mk (blk_below (g := gb120) (o := .cells #[.int .i64 a0_0, .int .i64 a0_1, .int .i64 a0_2, .string a0_3] 33 (0, 0)) (by (with_reducible repeat (first | refine blk_drewN ?_ _ | refine blk_drew ?_ | refine blk_alloc ?_ _)); exact BK120.out) hb); have n1_ := Aside0.mk (below_step (by repeat (first | (with_reducible first | exact HB.out | apply below_alloc | apply pw_below_drewN | apply below_drew1 | refine below_set ?_ GE120.out) | exact HB.out)) hb); clear BK120; clear HB; have BK120 := n0_; have HB := n1_; clear n0_ n1_; (try clear hb); (try clear hb2); (try clear hk); (try clear hi)))
    go_ret
    exact ⟨by first | rfl | (simp [errW_none, errW_some] <;> rfl) | (simp [*, errW_none, errW_some] <;> rfl), by repeat (first | (with_reducible first | exact HB.out | apply below_alloc | apply pw_below_drewN | apply below_drew1 | refine below_set ?_ GE120.out) | exact HB.out)⟩
  · replace c3 := Bool.eq_false_iff.mpr c3
    subst c3
    have H1 : (some 2047) = some r := by rw [if_neg (show ¬ (false = true) by decide)] at H; exact H
    clear H
    have H := H1
    clear H1
    obtain rfl := Option.some.inj H
    go_enter Try.func39, Try.ntmps39
    go_wp2_with (first | ((with_reducible refine gate_dst (N := 1) rfl ?_); refine box_event ?hg (N := 1) ?hd (cs := #[.int .i64 a0_0, .int .i64 a0_1, .int .i64 a0_2, .string a0_3]) (t := 33) ?hr ?_; (case hd => rfl); (case hg => rfl); (case hr => first | (go_simp; done) | (go_simp; rfl)); intro gb120 hg w7 hbox hb; have n0_ := Aside0.mk (below_step (by repeat (first | (with_reducible first | exact HB.out | apply below_alloc | apply pw_below_drewN | apply below_drew1) | exact HB.out)) hb); have n1_ := Aside0.mk (hbox); have n2_ := Aside0.mk ((by rw [hg]; exact (below_size (by repeat (first | (with_reducible first | exact HB.out | apply below_alloc | apply pw_below_drewN | apply below_drew1) | exact HB.out))) : w.heap.size ≤ gb120)); have n3_ := Aside0.mk ((by rw [hg]; exact (below_size (by repeat (first | (with_reducible first | exact HB.out | apply below_alloc | apply pw_below_drewN | apply below_drew1) | exact HB.out))) : w.heap.size ≤ gb120)); clear HB; have HB := n0_; have BK120 := n1_; have GW120 := n2_; have GE120 := n3_; clear n0_ n1_ n2_ n3_; clear hb hbox hg; have hcz8_0 : w7.cell? ⟨gb120, 0, none⟩ = some (.int .i64 a0_0) := (blk_cell BK120.out 0).trans rfl; have hcz8_1 : w7.cell? ⟨gb120, 1, none⟩ = some (.int .i64 a0_1) := (blk_cell BK120.out 1).trans rfl; have hcz8_2 : w7.cell? ⟨gb120, 2, none⟩ = some (.int .i64 a0_2) := (blk_cell BK120.out 2).trans rfl; have hcz8_3 : w7.cell? ⟨gb120, 3, none⟩ = some (.string a0_3) := (blk_cell BK120.out 3).trans rfl; have hfz8_0 := blk_frozen BK120.out 0; have hfz8_1 := blk_frozen BK120.out 1; have hfz8_2 := blk_frozen BK120.out 2; have hfz8_3 := blk_frozen BK120.out 3) | ((with_reducible refine gate_callee (f := 34) rfl ?_); refine goesL_ (some 4) rfl rfl Try.func34 (by kernel_rfl) rfl #[.agg #[.int .i64 a0_0, .int .i64 a0_1, .int .i64 a0_2, .string a0_3], .int .i64 5] rfl (by (try simp only [List.map_toArray, List.map_cons, List.map_nil]); first | done | rfl | (simp only [List.length_drop, List.length_take]; rfl)) ?_; (with_reducible refine (frame_has.calls a0_0 a0_1 a0_2 a0_3 5 false _ A2.out).mono ?_); rintro e w9 ⟨rfl, hb⟩; refine ⟨_, rfl, ?_⟩; have n0_ := Aside0.mk (blk_below (g := gb120) (o := .cells #[.int .i64 a0_0, .int .i64 a0_1, .int .i64 a0_2, .string a0_3] 33 (0, 0)) (by (with_reducible repeat (first | refine blk_drewN ?_ _ | refine blk_drew ?_ | refine blk_alloc ?_ _)); exact BK120.out) hb); have n1_ := Aside0.mk (below_step (by repeat (first | (with_reducible first | exact HB.out | apply below_alloc | apply pw_below_drewN | apply below_drew1 | refine below_set ?_ GE120.out) | exact HB.out)) hb); clear BK120; clear HB; have BK120 := n0_; have HB := n1_; clear n0_ n1_; (try clear hb); (try clear hb2); (try clear hk); (try clear hi)))
    go_ret
    exact ⟨by first | rfl | (simp [errW_none, errW_some] <;> rfl) | (simp [*, errW_none, errW_some] <;> rfl), by repeat (first | (with_reducible first | exact HB.out | apply below_alloc | apply pw_below_drewN | apply below_drew1 | refine below_set ?_ GE120.out) | exact HB.out)⟩

/-! ### frame_sizes: function 45 -/
/-- The lengths of Fd, in order. -/
def szL : List Int := [0, 1, 2, 3, 4, 5, 6, 7, 8, 12, 16, 20, 24, 32, 48, 64]
def szV : Value := .agg #[.int .i64 0, .int .i64 1, .int .i64 2, .int .i64 3, .int .i64 4, .int .i64 5, .int .i64 6, .int .i64 7, .int .i64 8, .int .i64 12, .int .i64 16, .int .i64 20, .int .i64 24, .int .i64 32, .int .i64 48, .int .i64 64]
/-- The first of a list of which something holds, and its place. -/
def frst (p : Int → Bool) : Int → List Int → Int × Int × Bool
  | _, [] => (0, 0, false)
  | i, x :: l => if p x = true then (i, x, true) else frst p (i + 1) l

set_option maxHeartbeats 8000000 in
theorem sizes_any (w : World) : Calls Try.prog 45 #[] w fun e w' => e = .returned szV ∧ Below w.heap.size w w' := by
  go_enter Try.func45, Try.ntmps45
  go_wp2
  refine bodyPost_ret (results_cell_row rfl _ _ w.heap.size 64 #[.int .i64 0, .int .i64 1, .int .i64 2, .int .i64 3, .int .i64 4, .int .i64 5, .int .i64 6, .int .i64 7, .int .i64 8, .int .i64 12, .int .i64 16, .int .i64 20, .int .i64 24, .int .i64 32, .int .i64 48, .int .i64 64] (0, 0) _ rfl (blk_new w _) Try.underlying64 rfl (by kernel_rfl)) rfl ?_
  exact ⟨rfl, below_alloc (Below.refl _ _) _⟩
def szAt (j : Nat) : Int := szL.getD j 0
theorem sz_index (j : Nat) (hj : j < 16) : ∀ w, (Instr.index 64 szV (.int .i64 (j : Int))).run Try.prog w = .ok (.int .i64 (szAt j)) w := by
  have hc : j = 0 ∨ j = 1 ∨ j = 2 ∨ j = 3 ∨ j = 4 ∨ j = 5 ∨ j = 6 ∨ j = 7 ∨ j = 8 ∨ j = 9 ∨ j = 10 ∨ j = 11 ∨ j = 12 ∨ j = 13 ∨ j = 14 ∨ j = 15 := by omega
  rcases hc with rfl | rfl | rfl | rfl | rfl | rfl | rfl | rfl | rfl | rfl | rfl | rfl | rfl | rfl | rfl | rfl <;> exact fun _ => by kernel_rfl
theorem frst_step (p : Int → Bool) (j : Nat) (hj : j < 16) : frst p j (szL.drop j) = if p (szAt j) = true then ((j : Int), szAt j, true) else frst p ((j + 1 : Nat) : Int) (szL.drop (j + 1)) := by
  have e : szL.drop j = szAt j :: szL.drop (j + 1) := by
    rw [List.drop_eq_getElem_cons (show j < szL.length from hj)]
    congr 1
    unfold szAt
    rw [List.getD_eq_getElem?_getD, List.getElem?_eq_getElem (show j < szL.length from hj)]
    rfl
  rw [e]
  rfl

end Go.Proofs.Ytlhglkmiclcbcaa.PArbOut
