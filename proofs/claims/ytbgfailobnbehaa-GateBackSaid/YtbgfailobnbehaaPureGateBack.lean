/- GateBack: turned by the same bits twice, a text is as it was; set by the same bits again, it does not change; both leave its length. Conditions: none beyond the statement's own. -/
import Derived.Test.YtbgfailobnbehaaPGateBackx5
namespace Go.Proofs.Ytbgfailobnbehaa.Pure
open Go.RowKit Go.Proofs.Ytbgfailobnbehaa.PGateBack Go.Proofs.YtbgfailobnbehaaW.PrintWords Go.Proofs.YtbgfailobnbehaaW.PrintLast
set_option linter.unusedVariables false
set_option linter.unusedSimpArgs false

/-- 'Option.bind_some' as an equation that simp carries along (not by 'rfl': else the kernel unfolds what is bound). -/
theorem ob {α β : Type} (a : α) (f : α → Option β) : (some a).bind f = f a := by
  have h : (some a).bind f = f a := rfl
  exact h.symm.symm

theorem bt_size {s : ByteArray} {i : Nat} (h : i < s.size) : bt s (i : Int) = (s.data.toList[i]'(by rw [Array.length_toList]; exact h)).toNat := by
  have e := bt_at s (i : Int) (by simpa using h)
  rw [← e]
  simp
  rfl
theorem bt_none {s : ByteArray} {i : Int} (h : (s.size : Int) ≤ i) : bt s i = 0 := by
  unfold bt
  rw [dif_neg (by omega)]
theorem bt_num (l : List Int) (hl : ∀ x ∈ l, 0 ≤ x ∧ x ≤ 255) (i : Nat) (h : i < l.length) : bt (strOfNums l) i = l[i] := by
  have hs : i < (strOfNums l).size := by rw [strOfNums_size]; exact h
  rw [bt_size hs]
  have hx := hl l[i] (List.getElem_mem h)
  have : (strOfNums l).data.toList[i]'(by rw [Array.length_toList]; exact hs) = UInt8.ofNat (l[i]).toNat := by
    simp [strOfNums]
  rw [this]
  simp
  omega
theorem bytes_ext {s t : ByteArray} (hz : s.size = t.size) (h : ∀ i : Nat, i < s.size → bt s i = bt t i) : s = t := by
  have : s.data.toList = t.data.toList := by
    apply List.ext_getElem
    · rw [Array.length_toList, Array.length_toList]; exact hz
    · intro i h1 h2
      rw [Array.length_toList] at h1 h2
      have e := h i h1
      rw [bt_size h1, bt_size (show i < t.size from h2)] at e
      have e2 : (s.data.toList[i]).toNat = (t.data.toList[i]).toNat := by exact_mod_cast e
      exact UInt8.toNat_inj.mp e2
  obtain ⟨a⟩ := s
  obtain ⟨b⟩ := t
  have : a.toList = b.toList := this
  rw [Array.toList_inj.mp this]
theorem toList_inj' {s t : ByteArray} : s.toList = t.toList ↔ s = t := by
  constructor
  · intro h
    rw [ByteArray.toList_eq, ByteArray.toList_eq] at h
    obtain ⟨a⟩ := s
    obtain ⟨b⟩ := t
    have h : a.toList = b.toList := h
    rw [Array.toList_inj.mp h]
  · intro h; rw [h]
theorem str_beq (s t : ByteArray) : (s.toList == t.toList) = decide (s = t) := by
  rw [Bool.eq_iff_iff]
  simp [toList_inj']
/-- The comparison of two texts as the print has it, without 'toList' (which the kernel had better not unfold). -/
theorem ite_tl {α : Type} (x y : ByteArray) (p q : α) : (if x.toList = y.toList then p else q) = if x = y then p else q := by
  by_cases h : x = y
  · rw [if_pos h, if_pos (by rw [h])]
  · rw [if_neg h, if_neg (fun e => h (toList_inj'.mp e))]
theorem ite_tl0 {α : Type} (x : ByteArray) (p q : α) : (if x.toList = ([] : List UInt8) then p else q) = if x = ⟨#[]⟩ then p else q := by
  have e : (⟨#[]⟩ : ByteArray).toList = [] := by rw [ByteArray.toList_eq]
  by_cases h : x = ⟨#[]⟩
  · rw [if_pos h, if_pos (by rw [h, e])]
  · rw [if_neg h, if_neg (fun e2 => h (toList_inj'.mp (by rw [e2, e])))]

/-- A text, the first bytes of which are turned by the ones beside them. -/
def tw (op : Int → Int → Int) (s t : ByteArray) : ByteArray := strOfNums (bth op s t (min s.size t.size))
theorem tw_size (op : Int → Int → Int) (s t : ByteArray) : (tw op s t).size = s.size := by unfold tw; rw [strOfNums_size, bth_len]
theorem bth_at (op : Int → Int → Int) (s t : ByteArray) (i : Nat) (hi : i < s.size) : ∀ n, (bth op s t n)[i]? = some (if i < n then op (bt s i) (bt t i) else bt s i)
  | 0 => by rw [bth_far op s t i hi 0 (Nat.zero_le _), if_neg (by omega)]
  | n + 1 => by
    have hl := bth_len op s t n
    by_cases h : i = n
    · subst h
      rw [bth, if_pos (by omega), List.getElem?_set_self (by omega)]
    · rw [bth, List.getElem?_set_ne (by omega), bth_at op s t i hi n]
      congr 1
      by_cases h2 : i < n
      · rw [if_pos h2, if_pos (by omega)]
      · rw [if_neg h2, if_neg (by omega)]
def okop (op : Int → Int → Int) : Prop := ∀ x y : Int, 0 ≤ x ∧ x ≤ 255 → 0 ≤ y ∧ y ≤ 255 → 0 ≤ op x y ∧ op x y ≤ 255
theorem bt_tw (op : Int → Int → Int) (ho : okop op) (s t : ByteArray) (i : Nat) (hi : i < s.size) : bt (tw op s t) i = if i < t.size then op (bt s i) (bt t i) else bt s i := by
  have hl := bth_len op s t (min s.size t.size)
  have ha : ∀ j (h : j < s.size), (bth op s t (min s.size t.size))[j]'(by omega) = if j < t.size then op (bt s j) (bt t j) else bt s j := by
    intro j h
    have e := bth_at op s t j h (min s.size t.size)
    rw [List.getElem?_eq_getElem (by omega)] at e
    have e := Option.some.inj e
    rw [e]
    by_cases h2 : j < t.size
    · rw [if_pos h2, if_pos (by omega)]
    · rw [if_neg h2, if_neg (by omega)]
  unfold tw
  rw [bt_num _ _ i (by omega)]
  · exact ha i hi
  · intro x hx
    obtain ⟨j, hj, rfl⟩ := List.getElem_of_mem hx
    rw [ha j (by omega)]
    split
    · exact ho _ _ (bt_range s _) (bt_range t _)
    · exact bt_range s _
def bor (x y : Int) : Int := ((x.toNat ||| y.toNat : Nat) : Int)
def bxo (x y : Int) : Int := ((x.toNat ^^^ y.toNat : Nat) : Int)
theorem bits_bor (x y : Int) (hx : 0 ≤ x ∧ x ≤ 255) (hy : 0 ≤ y ∧ y ≤ 255) : Go.bits .or .u8 x y = bor x y := by
  have h := (bits_nat .u8 8 (by decide) wraps_u8 x.toNat y.toNat (by omega) (by omega)).2
  rw [show ((x.toNat : Nat) : Int) = x by omega, show ((y.toNat : Nat) : Int) = y by omega] at h
  exact h
theorem xor8 (a b : Nat) (ha : a < 256) (hb : b < 256) : Go.bits .xor .u8 (a : Int) (b : Int) = ((a ^^^ b : Nat) : Int) := by
  have ha' : a % 2 ^ IntKind.u8.bits = a := Nat.mod_eq_of_lt ha
  have hb' : b % 2 ^ IntKind.u8.bits = b := Nat.mod_eq_of_lt hb
  simp only [Go.bits, BitVec.ofInt_natCast, BitVec.toNat_xor, BitVec.toNat_ofNat, ha', hb']
  exact wraps_u8 _ (Int.natCast_nonneg _) (by exact_mod_cast Nat.xor_lt_two_pow (n := 8) ha hb)
theorem bits_bxo (x y : Int) (hx : 0 ≤ x ∧ x ≤ 255) (hy : 0 ≤ y ∧ y ≤ 255) : Go.bits .xor .u8 x y = bxo x y := by
  have h := xor8 x.toNat y.toNat (by omega) (by omega)
  rw [show ((x.toNat : Nat) : Int) = x by omega, show ((y.toNat : Nat) : Int) = y by omega] at h
  exact h
theorem bor_range (x y : Int) (hx : 0 ≤ x ∧ x ≤ 255) (hy : 0 ≤ y ∧ y ≤ 255) : 0 ≤ bor x y ∧ bor x y ≤ 255 := by
  unfold bor
  have := Nat.or_lt_two_pow (n := 8) (x := x.toNat) (y := y.toNat) (by omega) (by omega)
  omega
theorem bxo_range (x y : Int) (hx : 0 ≤ x ∧ x ≤ 255) (hy : 0 ≤ y ∧ y ≤ 255) : 0 ≤ bxo x y ∧ bxo x y ≤ 255 := by
  unfold bxo
  have := Nat.xor_lt_two_pow (n := 8) (x := x.toNat) (y := y.toNat) (by omega) (by omega)
  omega
theorem okop_or : okop (Go.bits .or .u8) := fun x y hx hy => by rw [bits_bor x y hx hy]; exact bor_range x y hx hy
theorem okop_xo : okop (Go.bits .xor .u8) := fun x y hx hy => by rw [bits_bxo x y hx hy]; exact bxo_range x y hx hy
theorem or_eq (s t : ByteArray) (h : s.size ≤ 140737488351232) : gate_Or.f s t = some (tw (Go.bits .or .u8) s t) := by
  unfold gate_Or.f tw
  rw [if_pos (by omega)]
theorem xo_eq (s t : ByteArray) (h : s.size ≤ 140737488351232) : gate_Xor.f s t = some (tw (Go.bits .xor .u8) s t) := by
  unfold gate_Xor.f tw
  rw [if_pos (by omega)]
theorem tw_or (s t : ByteArray) (i : Nat) (hi : i < s.size) : bt (tw (Go.bits .or .u8) s t) i = if i < t.size then bor (bt s i) (bt t i) else bt s i := by
  rw [bt_tw _ okop_or s t i hi]
  split
  · exact bits_bor _ _ (bt_range s _) (bt_range t _)
  · rfl
theorem tw_xo (s t : ByteArray) (i : Nat) (hi : i < s.size) : bt (tw (Go.bits .xor .u8) s t) i = if i < t.size then bxo (bt s i) (bt t i) else bt s i := by
  rw [bt_tw _ okop_xo s t i hi]
  split
  · exact bits_bxo _ _ (bt_range s _) (bt_range t _)
  · rfl

theorem alive_k : ∃ K, ∀ k, K ≤ k → signalboxlaw34_alive.f k = some true :=
  Ev.of signalboxlaw34_alive.mono (k := 60) (by decide +kernel)

theorem bxo_twice (x y : Int) (hx : 0 ≤ x) : bxo (bxo x y) y = x := by
  unfold bxo
  rw [Int.toNat_natCast, Nat.xor_assoc, Nat.xor_self, Nat.xor_zero]
  omega
theorem bor_twice (x y : Int) : bor (bor x y) y = bor x y := by
  unfold bor
  rw [Int.toNat_natCast, Nat.or_assoc, Nat.or_self]
theorem bor_bxo (x y : Int) : bor (bxo x y) y = bor x y := by
  unfold bor bxo
  rw [Int.toNat_natCast]
  congr 1
  apply Nat.eq_of_testBit_eq
  intro i
  simp only [Nat.testBit_or, Nat.testBit_xor]
  cases x.toNat.testBit i <;> cases y.toNat.testBit i <;> rfl
theorem xo_twice (s t : ByteArray) : tw (Go.bits .xor .u8) (tw (Go.bits .xor .u8) s t) t = s := by
  have hz : (tw (Go.bits .xor .u8) s t).size = s.size := tw_size _ _ _
  refine bytes_ext (by rw [tw_size, hz]) (fun i hi => ?_)
  rw [tw_size, hz] at hi
  rw [tw_xo _ t i (by omega), tw_xo s t i hi]
  by_cases h : i < t.size
  · simp only [if_pos h]
    exact bxo_twice _ _ (bt_range s _).1
  · simp only [if_neg h]
theorem or_twice (s t : ByteArray) : tw (Go.bits .or .u8) (tw (Go.bits .or .u8) s t) t = tw (Go.bits .or .u8) s t := by
  have hz : (tw (Go.bits .or .u8) s t).size = s.size := tw_size _ _ _
  refine bytes_ext (by rw [tw_size]) (fun i hi => ?_)
  rw [tw_size, hz] at hi
  rw [tw_or _ t i (by omega), tw_or s t i hi]
  by_cases h : i < t.size
  · simp only [if_pos h]
    exact bor_twice _ _
  · simp only [if_neg h]
theorem or_xo (s t : ByteArray) : tw (Go.bits .or .u8) (tw (Go.bits .xor .u8) s t) t = tw (Go.bits .or .u8) s t := by
  have hz : (tw (Go.bits .xor .u8) s t).size = s.size := tw_size _ _ _
  refine bytes_ext (by rw [tw_size, tw_size, tw_size]) (fun i hi => ?_)
  rw [tw_size, hz] at hi
  rw [tw_or _ t i (by omega), tw_or s t i hi, tw_xo s t i hi]
  by_cases h : i < t.size
  · simp only [if_pos h]
    exact bor_bxo _ _
  · simp only [if_neg h]
theorem GateBackL : signalboxlaw34_GateBack.Pure := by
  intro s t hs ht
  obtain ⟨K, hal⟩ := alive_k
  obtain ⟨M, hM⟩ : ∃ M, M = K + 1 := ⟨_, rfl⟩
  refine ⟨M + 1, ?_⟩
  have ha := hal M (by omega)
  have ha2 := hal (M + 1) (by omega)
  have key : ∀ b, signalboxlaw34_GateBack.j0 (M + 1) s t b = some true := by
    intro b
    have hzx : (tw (Go.bits .xor .u8) s t).size = s.size := tw_size _ _ _
    have hzo : (tw (Go.bits .or .u8) s t).size = s.size := tw_size _ _ _
    have e1 := xo_eq s t hs
    have e2 := or_eq s t hs
    have e3 := xo_eq (tw (Go.bits .xor .u8) s t) t (by omega)
    have e4 := or_eq (tw (Go.bits .or .u8) s t) t (by omega)
    have e5 := or_eq (tw (Go.bits .xor .u8) s t) t (by omega)
    rw [xo_twice] at e3
    rw [or_twice] at e4
    rw [or_xo] at e5
    have q1 : ((tw (Go.bits .xor .u8) s t).size : Int) = (s.size : Int) := by omega
    have q2 : ((tw (Go.bits .or .u8) s t).size : Int) = (s.size : Int) := by omega
    cases b <;> simp only [signalboxlaw34_GateBack.j0, ob, ha, e1, e2, e3, e4, e5, q1, q2, if_true, if_false, Bool.false_eq_true]
  unfold signalboxlaw34_GateBack.f
  split
  · exact key _
  · exact key _

theorem GateBack : signalboxlaw34_GateBack.Pure := GateBackL

end Go.Proofs.Ytbgfailobnbehaa.Pure
