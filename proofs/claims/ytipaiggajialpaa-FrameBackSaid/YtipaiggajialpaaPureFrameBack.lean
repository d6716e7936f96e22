/- FrameBack: a frame's word, and its data, make the same frame again. Conditions: none beyond the statement's own. -/
import Derived.Test.YtipaiggajialpaaPFrameBackx5
namespace Go.Proofs.Ytipaiggajialpaa.Pure
open Go.RowKit Go.Proofs.Ytipaiggajialpaa.PFrameBack Go.Proofs.YtipaiggajialpaaW.PrintWords Go.Proofs.YtipaiggajialpaaW.PrintLast
set_option linter.unusedVariables false
set_option linter.unusedSimpArgs false

theorem wf_i64 {n : Int} (h : (Lit.int .i64 n).wf = true) : -9223372036854775808 ≤ n ∧ n ≤ 9223372036854775807 := by
  simp only [Lit.wf, Bool.and_eq_true, decide_eq_true_eq] at h
  exact h
theorem wf_u32 {n : Int} (h : (Lit.int .u32 n).wf = true) : 0 ≤ n ∧ n ≤ 4294967295 := by
  simp only [Lit.wf, Bool.and_eq_true, decide_eq_true_eq] at h
  exact h
theorem wf_i32 {n : Int} (h : (Lit.int .i32 n).wf = true) : -2147483648 ≤ n ∧ n ≤ 2147483647 := by
  simp only [Lit.wf, Bool.and_eq_true, decide_eq_true_eq] at h
  exact h
theorem w64 {n : Int} (h0 : -9223372036854775808 ≤ n) (h1 : n ≤ 9223372036854775807) : wrap64 n = n := by unfold wrap64; omega

theorem bt_size {s : ByteArray} {i : Nat} (h : i < s.size) : bt s (i : Int) = (s.data.toList[i]'(by rw [Array.length_toList]; exact h)).toNat := by
  have e := bt_at s (i : Int) (by simpa using h)
  rw [← e]
  simp
  rfl
theorem bt_none {s : ByteArray} {i : Int} (h : (s.size : Int) ≤ i) : bt s i = 0 := by
  unfold bt
  rw [dif_neg (by omega)]
theorem bt_num (l : List Int) (hl : ∀ x ∈ l, 0 ≤ x ∧ x ≤ 255) (i : Nat) (h : i < l.length) : bt (strOfNums l) i = l[i] := by
  have hs : i < (strOfNums l).size := by rw [strOfNums_size]; exact h
  rw [bt_size hs]
  have hx := hl l[i] (List.getElem_mem h)
  have : (strOfNums l).data.toList[i]'(by rw [Array.length_toList]; exact hs) = UInt8.ofNat (l[i]).toNat := by
    simp [strOfNums]
  rw [this]
  simp
  omega
theorem bytes_ext {s t : ByteArray} (hz : s.size = t.size) (h : ∀ i : Nat, i < s.size → bt s i = bt t i) : s = t := by
  have : s.data.toList = t.data.toList := by
    apply List.ext_getElem
    · rw [Array.length_toList, Array.length_toList]; exact hz
    · intro i h1 h2
      rw [Array.length_toList] at h1 h2
      have e := h i h1
      rw [bt_size h1, bt_size (show i < t.size from h2)] at e
      have e2 : (s.data.toList[i]).toNat = (t.data.toList[i]).toNat := by exact_mod_cast e
      exact UInt8.toNat_inj.mp e2
  obtain ⟨a⟩ := s
  obtain ⟨b⟩ := t
  have : a.toList = b.toList := this
  rw [Array.toList_inj.mp this]
theorem toList_inj' {s t : ByteArray} : s.toList = t.toList ↔ s = t := by
  constructor
  · intro h
    rw [ByteArray.toList_eq, ByteArray.toList_eq] at h
    obtain ⟨a⟩ := s
    obtain ⟨b⟩ := t
    have h : a.toList = b.toList := h
    rw [Array.toList_inj.mp h]
  · intro h; rw [h]
theorem str_beq (s t : ByteArray) : (s.toList == t.toList) = decide (s = t) := by
  rw [Bool.eq_iff_iff]
  simp [toList_inj']
/-- The comparison of two texts as the print has it, without 'toList' (which the kernel had better not unfold). -/
theorem ite_tl {α : Type} (x y : ByteArray) (p q : α) : (if x.toList = y.toList then p else q) = if x = y then p else q := by
  by_cases h : x = y
  · rw [if_pos h, if_pos (by rw [h])]
  · rw [if_neg h, if_neg (fun e => h (toList_inj'.mp e))]
theorem ite_tl0 {α : Type} (x : ByteArray) (p q : α) : (if x.toList = ([] : List UInt8) then p else q) = if x = ⟨#[]⟩ then p else q := by
  have e : (⟨#[]⟩ : ByteArray).toList = [] := by rw [ByteArray.toList_eq]
  by_cases h : x = ⟨#[]⟩
  · rw [if_pos h, if_pos (by rw [h, e])]
  · rw [if_neg h, if_neg (fun e2 => h (toList_inj'.mp (by rw [e2, e])))]

/-- 'Option.bind_some' as an equation that simp carries along (not by 'rfl': else the kernel unfolds what is bound). -/
theorem ob {α β : Type} (a : α) (f : α → Option β) : (some a).bind f = f a := by
  have h : (some a).bind f = f a := rfl
  exact h.symm.symm

/-! The flags of a frame, by number. -/
def fE (fl : Int) : Bool := decide (fl % 2 = 1)
def fR (fl : Int) : Bool := decide (fl / 2 % 2 = 1)
def fX (fl : Int) : Bool := decide (fl / 4 % 2 = 1)
def fD (fl : Int) : Bool := decide (fl / 8 % 2 = 1)
def fB (fl : Int) : Bool := decide (fl / 16 % 2 = 1)
def fS (fl : Int) : Bool := decide (fl / 32 % 2 = 1)
theorem has_all : ∀ x : Fin 64, ((Go.bits .and .i64 (x.val : Int) 1) != 0) = fE x.val ∧ ((Go.bits .and .i64 (x.val : Int) 2) != 0) = fR x.val ∧ ((Go.bits .and .i64 (x.val : Int) 4) != 0) = fX x.val ∧ ((Go.bits .and .i64 (x.val : Int) 8) != 0) = fD x.val
    ∧ ((Go.bits .and .i64 (x.val : Int) 48) != 0) = (fB x.val || fS x.val) ∧ ((Go.bits .and .i64 (x.val : Int) 5) != 0) = (fE x.val || fX x.val)
    ∧ ((x.val : Int) == 4) = (fX x.val && !fE x.val && !fR x.val && !fD x.val && !fB x.val && !fS x.val) := by decide +kernel
theorem has_fl (fl : Int) (h0 : 0 ≤ fl) (h1 : fl ≤ 63) : ((Go.bits .and .i64 fl 1) != 0) = fE fl ∧ ((Go.bits .and .i64 fl 2) != 0) = fR fl ∧ ((Go.bits .and .i64 fl 4) != 0) = fX fl ∧ ((Go.bits .and .i64 fl 8) != 0) = fD fl
    ∧ ((Go.bits .and .i64 fl 48) != 0) = (fB fl || fS fl) ∧ ((Go.bits .and .i64 fl 5) != 0) = (fE fl || fX fl) ∧ (fl == 4) = (fX fl && !fE fl && !fR fl && !fD fl && !fB fl && !fS fl) := by
  have := has_all ⟨fl.toNat, by omega⟩
  have e : (fl.toNat : Int) = fl := by omega
  simpa only [e] using this
/-- Has a length a code? -/
def isCode (len : Int) : Bool := (frst (fun x => x == len) 0 szL).2.2
def flg (fl : Int) : Bool := decide (0 ≤ fl ∧ fl ≤ 63) && (if fX fl = true then fl == 4 else if fD fl = true then !fR fl else !(fB fl || fS fl))
def mst (fl : Int) : Int := if (fE fl || fX fl) = true then 536870911 else 2047
def lng (fl len : Int) : Bool := if fX fl = true then len == 8 else if fD fl = true then isCode len else decide (0 ≤ len ∧ len ≤ 8)
/-- May a frame be? -/
def rgt (id fl len : Int) (d : ByteArray) : Bool := flg fl && decide (0 ≤ id ∧ id ≤ mst fl) && lng fl len && decide ((d.size : Int) = if fR fl = true then 0 else len)
theorem flags_eq (k : Nat) (hk : 1 ≤ k) (id fl len : Int) (d : ByteArray) : frame_flags.f k id fl len d = some (flg fl) := by
  obtain ⟨k, rfl⟩ : ∃ m, k = m + 1 := ⟨k - 1, by omega⟩
  simp only [frame_flags.f, frame_flags.j0, frame_has.f, ob, flg]
  by_cases h0 : fl < 0
  · rw [if_pos h0, if_pos trivial]
    have : ¬ (0 ≤ fl ∧ fl ≤ 63) := by omega
    simp [this]
  · rw [if_neg h0]
    by_cases h1 : fl > 63
    · rw [if_pos (by simpa using h1)]
      have : ¬ (0 ≤ fl ∧ fl ≤ 63) := by omega
      simp [this]
    · rw [if_neg (by simpa using h1)]
      have hh := has_fl fl (by omega) (by omega)
      have : 0 ≤ fl ∧ fl ≤ 63 := by omega
      rw [hh.2.1, hh.2.2.1, hh.2.2.2.1, hh.2.2.2.2.1]
      simp only [this, and_self, decide_true, Bool.true_and]
      split
      · rfl
      · split <;> rfl
theorem flg_range (fl : Int) (h : flg fl = true) : 0 ≤ fl ∧ fl ≤ 63 := by
  unfold flg at h
  simp only [Bool.and_eq_true, decide_eq_true_eq] at h
  exact h.1
theorem most_eq (id fl len : Int) (d : ByteArray) (h : flg fl = true) : frame_most.f id fl len d = some (mst fl) := by
  have hh := has_fl fl (flg_range fl h).1 (flg_range fl h).2
  simp only [frame_most.f, frame_has.f, ob, hh.2.2.2.2.2.1, mst]
  split <;> rfl
theorem long_eq (id fl len : Int) (d : ByteArray) (h : flg fl = true) : frame_long.f id fl len d = some (lng fl len) := by
  have hh := has_fl fl (flg_range fl h).1 (flg_range fl h).2
  simp only [frame_long.f, frame_has.f, ob, hh.2.2.1, hh.2.2.2.1, lng, frame_Code.f, isCode]
  split
  · rfl
  · split
    · rfl
    · by_cases h0 : len ≥ 0
      · rw [if_pos h0]
        congr 1
        simp
        omega
      · rw [if_neg h0]
        simp
        omega
theorem right_eq (k : Nat) (hk : 1 ≤ k) (id fl len : Int) (d : ByteArray) : frame_Right.f k id fl len d = some (if rgt id fl len d = true then 0 else 4) := by
  obtain ⟨k, rfl⟩ : ∃ m, k = m + 1 := ⟨k - 1, by omega⟩
  simp only [frame_Right.f, flags_eq (k + 1) (by omega), ob, frame_Right.j0]
  cases hf : flg fl with
  | false => simp [rgt, hf]
  | true =>
    have hh := has_fl fl (flg_range fl hf).1 (flg_range fl hf).2
    simp only [if_true, most_eq id fl len d hf, long_eq id fl len d hf, ob, frame_has.f, hh.2.1]
    by_cases h0 : id < 0
    · rw [if_pos h0]
      have : ¬ (0 ≤ id ∧ id ≤ mst fl) := by omega
      simp [rgt, this]
    · rw [if_neg h0]
      by_cases h1 : id > mst fl
      · rw [if_pos (by simpa using h1)]
        have : ¬ (0 ≤ id ∧ id ≤ mst fl) := by omega
        simp [rgt, this]
      · rw [if_neg (by simpa using h1)]
        have h2 : 0 ≤ id ∧ id ≤ mst fl := by omega
        cases hl : lng fl len with
        | false => simp [rgt, hl]
        | true =>
          simp only [rgt, hf, hl, h2, and_self, decide_true, Bool.true_and, if_true]
          cases hr : fR fl with
          | false =>
            simp only [Bool.false_eq_true, if_false, decide_eq_true_eq]
            split <;> rfl
          | true =>
            simp only [if_true, decide_eq_true_eq]
            split <;> rfl
theorem right0 (k : Nat) (hk : 1 ≤ k) (id fl len : Int) (d : ByteArray) (h : rgt id fl len d = true) : frame_Right.f k id fl len d = some 0 := by rw [right_eq k hk, if_pos h]
theorem right4 (k : Nat) (hk : 1 ≤ k) (id fl len : Int) (d : ByteArray) (h : rgt id fl len d = false) : frame_Right.f k id fl len d = some 4 := by rw [right_eq k hk, if_neg (by simp [h])]
theorem rgt_facts (id fl len : Int) (d : ByteArray) (h : rgt id fl len d = true) : flg fl = true ∧ 0 ≤ id ∧ id ≤ mst fl ∧ lng fl len = true ∧ ((d.size : Int) = if fR fl = true then 0 else len) := by
  unfold rgt at h
  simp only [Bool.and_eq_true, decide_eq_true_eq] at h
  exact ⟨h.1.1.1, h.1.1.2.1, h.1.1.2.2, h.1.2, h.2⟩
theorem mst_le (fl : Int) : mst fl ≤ 536870911 := by unfold mst; split <;> omega

theorem wraps_u32 (n : Int) (h₀ : 0 ≤ n) (h₁ : n < 2 ^ 32) : IntKind.u32.wrap n = n := by rw [IntKind.wrap_u32]; omega
theorem or_comm_u32 (x y : Int) : Go.bits .or .u32 x y = Go.bits .or .u32 y x := by simp [Go.bits, BitVec.or_comm]
/-- A frame's word. -/
def wrd (id fl : Int) : Int := id + (if fE fl = true then 2147483648 else 0) + (if fR fl = true then 1073741824 else 0) + (if fX fl = true then 536870912 else 0)
theorem or_31 (x : Int) (h0 : 0 ≤ x) (h1 : x < 2147483648) : Go.bits .or .u32 x 2147483648 = x + 2147483648 := by
  rw [or_comm_u32, bits_join .u32 32 (by decide) wraps_u32 31 2147483648 x (by decide) (by decide) (by decide) h0 h1 (by omega), Int.add_comm]
theorem or_30 (x : Int) (h0 : 0 ≤ x) (h1 : x < 1073741824) : Go.bits .or .u32 x 1073741824 = x + 1073741824 := by
  rw [or_comm_u32, bits_join .u32 32 (by decide) wraps_u32 30 1073741824 x (by decide) (by decide) (by decide) h0 h1 (by omega), Int.add_comm]
theorem or_29 (x : Int) (h0 : 0 ≤ x) (h1 : x < 536870912) : Go.bits .or .u32 x 536870912 = x + 536870912 := by
  rw [or_comm_u32, bits_join .u32 32 (by decide) wraps_u32 29 536870912 x (by decide) (by decide) (by decide) h0 h1 (by omega), Int.add_comm]
/-- A bit is set beside a number whose upper part is a multiple of twice it, and whose lower part is less than it. -/
theorem or_bit (i : Nat) (hi : i ≤ 30) (u x : Int) (hu : 0 ≤ u) (hu2 : u * 2 ^ (i + 1) + 2 ^ i + x < 4294967296) (hx : 0 ≤ x) (hx2 : x < 2 ^ i) : Go.bits .or .u32 (u * 2 ^ (i + 1) + x) (2 ^ i) = u * 2 ^ (i + 1) + x + 2 ^ i := by
  have hp : (0 : Int) < 2 ^ i := Int.pow_pos (by decide)
  have hp1 : (2 : Int) ^ (i + 1) = 2 ^ i * 2 := Int.pow_succ 2 i
  have hp32 : (2 : Int) ^ i ≤ 2 ^ 30 := by
    have := Nat.pow_le_pow_right (show 0 < 2 by decide) hi
    exact_mod_cast this
  have hm : 0 ≤ u * 2 ^ (i + 1) := Int.mul_nonneg hu (by omega)
  have e1 : Go.bits .or .u32 (u * 2 ^ (i + 1)) x = u * 2 ^ (i + 1) + x := bits_join .u32 32 (by decide) wraps_u32 (i + 1) _ _ hm (Int.mul_emod_left _ _) (by omega) hx (by omega) (by omega)
  have e2 : Go.bits .or .u32 (2 ^ i) x = 2 ^ i + x := bits_join .u32 32 (by decide) wraps_u32 i _ _ (by omega) (Int.emod_self) (by omega) hx hx2 (by omega)
  have e3 : Go.bits .or .u32 (u * 2 ^ (i + 1)) (2 ^ i + x) = u * 2 ^ (i + 1) + (2 ^ i + x) := bits_join .u32 32 (by decide) wraps_u32 (i + 1) _ _ hm (Int.mul_emod_left _ _) (by omega) (by omega) (by omega) (by omega)
  have rng : ∀ z : Int, 0 ≤ z → z < 4294967296 → ∃ n : Nat, z = n ∧ n < 2 ^ 32 := fun z h0 h1 => ⟨z.toNat, by omega, by omega⟩
  have key : ∀ a b c : Int, 0 ≤ a → a < 4294967296 → 0 ≤ b → b < 4294967296 → 0 ≤ c → c < 4294967296 → Go.bits .or .u32 (Go.bits .or .u32 a b) c = Go.bits .or .u32 a (Go.bits .or .u32 c b) := by
    intro a b c a0 a1 b0 b1 c0 c1
    obtain ⟨a, rfl, ha⟩ := rng a a0 a1
    obtain ⟨b, rfl, hb⟩ := rng b b0 b1
    obtain ⟨c, rfl, hc⟩ := rng c c0 c1
    rw [(bits_nat .u32 32 (by decide) wraps_u32 a b ha hb).2, (bits_nat .u32 32 (by decide) wraps_u32 c b hc hb).2, (bits_nat .u32 32 (by decide) wraps_u32 _ c (Nat.or_lt_two_pow ha hb) hc).2,
      (bits_nat .u32 32 (by decide) wraps_u32 a _ ha (Nat.or_lt_two_pow hc hb)).2, Nat.or_assoc, Nat.or_comm b c]
  rw [← e1, key _ _ _ hm (by omega) hx (by omega) (by omega) (by omega), e2, e3]
  omega
theorem word_eq (k : Nat) (hk : 1 ≤ k) (id fl len : Int) (d : ByteArray) (h : rgt id fl len d = true) : frame_Word.f k id fl len d = some (wrd id fl) := by
  obtain ⟨k, rfl⟩ : ∃ m, k = m + 1 := ⟨k - 1, by omega⟩
  obtain ⟨hf, i0, i1, _, _⟩ := rgt_facts id fl len d h
  have hm := mst_le fl
  have hh := has_fl fl (flg_range fl hf).1 (flg_range fl hf).2
  have e0 : id % 4294967296 = id := by omega
  simp only [frame_Word.f, right0 (k + 1) hk id fl len d h, ob, if_true, frame_has.f, hh.1, frame_Word.j0, hh.2.1, hh.2.2.1, e0, wrd]
  have o1 := or_31 id i0 (by omega)
  have o2 := or_30 id i0 (by omega)
  have o3 := or_29 id i0 (by omega)
  have o4 : Go.bits .or .u32 (id + 2147483648) 1073741824 = id + 2147483648 + 1073741824 := by
    have := or_bit 30 (by decide) 1 id (by decide) (by omega) i0 (by omega)
    rw [show (1 : Int) * 2 ^ (30 + 1) + id = id + 2147483648 by omega] at this
    exact this
  have o5 : Go.bits .or .u32 (id + 2147483648) 536870912 = id + 2147483648 + 536870912 := by
    have := or_bit 29 (by decide) 2 id (by decide) (by omega) i0 (by omega)
    rw [show (2 : Int) * 2 ^ (29 + 1) + id = id + 2147483648 by omega] at this
    exact this
  have o6 : Go.bits .or .u32 (id + 1073741824) 536870912 = id + 1073741824 + 536870912 := by
    have := or_bit 29 (by decide) 1 id (by decide) (by omega) i0 (by omega)
    rw [show (1 : Int) * 2 ^ (29 + 1) + id = id + 1073741824 by omega] at this
    exact this
  have o7 : Go.bits .or .u32 (id + 2147483648 + 1073741824) 536870912 = id + 2147483648 + 1073741824 + 536870912 := by
    have := or_bit 29 (by decide) 3 id (by decide) (by omega) i0 (by omega)
    rw [show (3 : Int) * 2 ^ (29 + 1) + id = id + 2147483648 + 1073741824 by omega] at this
    exact this
  cases fE fl <;> cases fR fl <;> cases fX fl <;> simp [o1, o2, o3, o4, o5, o6, o7]
theorem word_no (k : Nat) (hk : 1 ≤ k) (id fl len : Int) (d : ByteArray) (h : rgt id fl len d = false) : frame_Word.f k id fl len d = some 0 := by
  simp only [frame_Word.f, right4 k hk id fl len d h, ob]
  rw [if_neg (by decide)]

theorem ad (i : Nat) (hi : i ≤ 31) (w : Int) (h0 : 0 ≤ w) (h1 : w < 4294967296) : (Go.bits .and .u32 w (2 ^ i) = 0) = (w / 2 ^ i % 2 = 0) := by
  obtain ⟨n, rfl⟩ := Int.eq_ofNat_of_zero_le h0
  have hp : (2 : Nat) ^ i < 2 ^ 32 := Nat.pow_lt_pow_right (by decide) (by omega)
  have hp0 : 0 < (2 : Nat) ^ i := Nat.two_pow_pos i
  have hc : ((2 : Int) ^ i) = ((2 ^ i : Nat) : Int) := by simp
  have hk : n &&& 2 ^ i = 0 ↔ n / 2 ^ i % 2 = 0 := by
    have hb : n.testBit i = false ↔ n / 2 ^ i % 2 = 0 := by rw [Nat.testBit_eq_decide_div_mod_eq, decide_eq_false_iff_not]; omega
    rw [← hb]
    constructor
    · intro h
      have := congrArg (fun z => Nat.testBit z i) h
      simpa [Nat.testBit_and, Nat.testBit_two_pow] using this
    · intro h
      apply Nat.eq_of_testBit_eq
      intro j
      rw [Nat.testBit_and, Nat.testBit_two_pow, Nat.zero_testBit]
      by_cases e : i = j
      · subst e; rw [h]; rfl
      · rw [decide_eq_false e, Bool.and_false]
  rw [hc, (bits_nat .u32 32 (by decide) wraps_u32 n (2 ^ i) (by omega) hp).1]
  have hz : ((n : Int) / ((2 ^ i : Nat) : Int) % 2) = ((n / 2 ^ i % 2 : Nat) : Int) := by simp
  rw [hz]
  exact propext ⟨fun h => by have := hk.mp (by omega); omega, fun h => by have := hk.mpr (by omega); omega⟩
def ofl (w : Int) : Int := w / 2147483648 % 2 + 2 * (w / 1073741824 % 2) + 4 * (w / 536870912 % 2)
def ofd (w : Int) (a : ByteArray) : ByteArray := if w / 1073741824 % 2 = 0 then a else ⟨#[]⟩
theorem ors : Go.bits .or .i64 0 1 = 1 ∧ Go.bits .or .i64 0 2 = 2 ∧ Go.bits .or .i64 1 2 = 3 ∧ Go.bits .or .i64 0 4 = 4 ∧ Go.bits .or .i64 1 4 = 5 ∧ Go.bits .or .i64 2 4 = 6 ∧ Go.bits .or .i64 3 4 = 7 := by decide +kernel
theorem of_eq (k : Nat) (hk : 4 ≤ k) (w : Int) (h0 : 0 ≤ w) (h1 : w < 4294967296) (a : ByteArray) :
    frame_Of.f k w a = some (if rgt (w % 536870912) (ofl w) a.size (ofd w a) = true then (w % 536870912, ofl w, (a.size : Int), ofd w a, 0) else (0, 0, 0, ⟨#[]⟩, 4)) := by
  obtain ⟨k, rfl⟩ : ∃ m, k = m + 2 := ⟨k - 2, by omega⟩
  have m1 : Go.bits .and .u32 w 536870911 = w % 536870912 := bits_mask .u32 32 (by decide) wraps_u32 29 (by decide) w h0 h1
  have w1 : wrap64 (w % 536870912) = w % 536870912 := w64 (by omega) (by omega)
  have a31 : (Go.bits .and .u32 w 2147483648 = 0) = (w / 2147483648 % 2 = 0) := ad 31 (by decide) w h0 h1
  have a30 : (Go.bits .and .u32 w 1073741824 = 0) = (w / 1073741824 % 2 = 0) := ad 30 (by decide) w h0 h1
  have a29 : (Go.bits .and .u32 w 536870912 = 0) = (w / 536870912 % 2 = 0) := ad 29 (by decide) w h0 h1
  obtain ⟨o1, o2, o3, o4, o5, o6, o7⟩ := ors
  have hend : ∀ fl (d : ByteArray), (frame_Right.f k (w % 536870912) fl a.size d).bind (fun t144 => (if t144 = 0 then (some (w % 536870912, fl, (a.size : Int), d, 0)) else (some (0, 0, 0, (⟨#[]⟩ : ByteArray), t144)))) = some (if rgt (w % 536870912) fl a.size d = true then (w % 536870912, fl, (a.size : Int), d, 0) else (0, 0, 0, ⟨#[]⟩, 4)) := by
    intro fl d
    cases h : rgt (w % 536870912) fl a.size d with
    | true => rw [right0 k (by omega) _ _ _ _ h, ob]; rfl
    | false => rw [right4 k (by omega) _ _ _ _ h, ob]; rfl
  simp only [frame_Of.f, frame_Of.j0, frame_Of.j1, m1, w1, a31, a30, a29, o1, ofl, ofd]
  have c31 : w / 2147483648 % 2 = 0 ∨ w / 2147483648 % 2 = 1 := by omega
  have c30 : w / 1073741824 % 2 = 0 ∨ w / 1073741824 % 2 = 1 := by omega
  have c29 : w / 536870912 % 2 = 0 ∨ w / 536870912 % 2 = 1 := by omega
  rcases c31 with h31 | h31 <;> rcases c30 with h30 | h30 <;> rcases c29 with h29 | h29 <;> simp only [h31, h30, h29, if_true, if_neg (show ¬ (1 : Int) = 0 by decide), o2, o3, o4, o5, o6, o7] <;> exact hend _ _
theorem ofl_facts (w : Int) : fE (ofl w) = decide (w / 2147483648 % 2 = 1) ∧ fR (ofl w) = decide (w / 1073741824 % 2 = 1) ∧ fX (ofl w) = decide (w / 536870912 % 2 = 1) := by
  unfold ofl fE fR fX
  have c31 : w / 2147483648 % 2 = 0 ∨ w / 2147483648 % 2 = 1 := by omega
  have c30 : w / 1073741824 % 2 = 0 ∨ w / 1073741824 % 2 = 1 := by omega
  have c29 : w / 536870912 % 2 = 0 ∨ w / 536870912 % 2 = 1 := by omega
  rcases c31 with h31 | h31 <;> rcases c30 with h30 | h30 <;> rcases c29 with h29 | h29 <;> rw [h31, h30, h29] <;> decide
theorem wrd_range (id fl : Int) (h0 : 0 ≤ id) (h1 : id ≤ 536870911) : 0 ≤ wrd id fl ∧ wrd id fl < 4294967296 := by
  unfold wrd
  split <;> split <;> split <;> omega
theorem wrd_parts (id fl : Int) (h0 : 0 ≤ id) (h1 : id ≤ 536870911) : wrd id fl % 536870912 = id ∧ ofl (wrd id fl) = (if fE fl = true then 1 else 0) + 2 * (if fR fl = true then 1 else 0) + 4 * (if fX fl = true then 1 else 0) ∧ ((wrd id fl / 1073741824 % 2 = 0) ↔ fR fl = false) := by
  unfold wrd ofl
  cases fE fl <;> cases fR fl <;> cases fX fl <;> simp <;> omega

theorem alive_k : ∃ K, ∀ k, K ≤ k → signalboxlaw02_alive.f k = some true :=
  Ev.of signalboxlaw02_alive.mono (k := 20) (by decide +kernel)

theorem of_wrd (k : Nat) (hk : 4 ≤ k) (id fl len : Int) (d y : ByteArray) (h : rgt id fl len d = true) (h8 : fl < 8) (hy : (y.size : Int) = len) (hd : fR fl = true ∨ y = d) :
    frame_Of.f k (wrd id fl) y = some (id, fl, len, d, 0) := by
  obtain ⟨hf, i0, i1, hl, hz⟩ := rgt_facts id fl len d h
  have hm := mst_le fl
  have hr := wrd_range id fl i0 (by omega)
  obtain ⟨p1, p2, p3⟩ := wrd_parts id fl i0 (by omega)
  have hg := flg_range fl hf
  have p4 : ofl (wrd id fl) = fl := by
    rw [p2]
    unfold fE fR fX
    simp only [decide_eq_true_eq]
    split <;> split <;> split <;> omega
  have p5 : ofd (wrd id fl) y = d := by
    unfold ofd
    cases hR : fR fl with
    | false =>
      rw [if_pos (p3.mpr hR)]
      rcases hd with h | h
      · rw [hR] at h; exact absurd h (by decide)
      · exact h
    | true =>
      rw [if_neg (fun h => by rw [p3.mp h] at hR; exact absurd hR (by decide))]
      rw [hR, if_pos rfl] at hz
      obtain ⟨⟨l⟩⟩ := d
      have : ((l.length : Nat) : Int) = 0 := hz
      cases l with
      | nil => rfl
      | cons x l => simp at this; omega
  rw [of_eq k hk _ hr.1 hr.2, p1, p4, p5, hy, h, if_pos rfl]
theorem back_l0 (K : Nat) (id fl len : Int) (d : ByteArray) (h : rgt id fl len d = true) (h8 : fl < 8) (hA : ∀ k, K ≤ k → signalboxlaw02_alive.f k = some true) (n : Nat) : ∀ (k j : Nat) (x : ByteArray),
    j + n ≤ 8 → (x.size : Int) + n = len → (fR fl = true ∨ x = d) → (n = 0 ∨ fR fl = true) → K + n + 10 ≤ k → signalboxlaw02_FrameBack.l0 k x j id fl len d = some true := by
  induction n with
  | zero =>
    intro k j x hj hx hd hn hk
    obtain ⟨k, rfl⟩ : ∃ m, k = m + 1 := ⟨k - 1, by omega⟩
    simp only [signalboxlaw02_FrameBack.l0]
    rw [if_neg (by omega), word_eq k (by omega) id fl len d h, ob, of_wrd k (by omega) id fl len d x h h8 (by omega) hd, ob, hA k (by omega), ob]
    simp
  | succ n ih =>
    intro k j x hj hx hd hn hk
    obtain ⟨k, rfl⟩ : ∃ m, k = m + 1 := ⟨k - 1, by omega⟩
    have e : wrap64 ((j : Int) + 1) = ((j + 1 : Nat) : Int) := by rw [w64 (by omega) (by omega)]; omega
    have hR : fR fl = true := by rcases hn with h | h; omega; exact h
    have hz : ((x ++ (⟨#[120]⟩ : ByteArray)).size : Int) = x.size + 1 := by rw [ByteArray.size_append]; rfl
    simp only [signalboxlaw02_FrameBack.l0, e]
    obtain ⟨_, _, _, hl, _⟩ := rgt_facts id fl len d h
    have hl8 : x.size ≤ 100 := by
      have h3 : fD fl = false := by unfold fD; rw [decide_eq_false_iff_not]; have := flg_range fl (rgt_facts id fl len d h).1; omega
      unfold lng at hl
      rw [h3] at hl
      split at hl
      · have : len = 8 := by simpa using hl
        omega
      · simp at hl; omega
    rw [if_pos (by omega), if_pos (by omega), if_pos (by omega)]
    exact ih k (j + 1) _ (by omega) (by omega) (Or.inl hR) (Or.inr hR) (by omega)
theorem FrameBack : signalboxlaw02_FrameBack.Pure := by
  intro id fl len d hid hfl hlen hd
  obtain ⟨K, hK⟩ := alive_k
  obtain ⟨M, hM⟩ : ∃ M, M = K + 5000 := ⟨_, rfl⟩
  refine ⟨M + 1, ?_⟩
  have ha := hK M (by omega)
  simp only [signalboxlaw02_FrameBack.f, signalboxlaw02_FrameBack.j0]
  cases h : rgt id fl len d with
  | false => rw [right4 (M + 1) (by omega) _ _ _ _ h, ob, if_neg (by decide), if_pos trivial, ha]; rfl
  | true =>
    rw [right0 (M + 1) (by omega) _ _ _ _ h, ob, if_pos rfl]
    by_cases h8 : fl ≥ 8
    · rw [decide_eq_true h8, if_pos rfl, ha]; rfl
    · rw [decide_eq_false h8, if_neg (by decide)]
      obtain ⟨hf, i0, i1, hl, hz⟩ := rgt_facts id fl len d h
      have hg := flg_range fl hf
      have h3 : fD fl = false := by unfold fD; rw [decide_eq_false_iff_not]; omega
      have hl8 : 0 ≤ len ∧ len ≤ 8 := by
        unfold lng at hl
        rw [h3] at hl
        split at hl
        · have : len = 8 := by simpa using hl
          omega
        · simpa using hl
      cases hR : fR fl with
      | false =>
        rw [hR, if_neg (by decide)] at hz
        exact back_l0 K id fl len d h (by omega) hK 0 M 0 d (by omega) (by omega) (Or.inr rfl) (Or.inl rfl) (by omega)
      | true =>
        rw [hR, if_pos rfl] at hz
        exact back_l0 K id fl len d h (by omega) hK len.toNat M 0 d (by omega) (by omega) (Or.inr rfl) (Or.inr hR) (by omega)

end Go.Proofs.Ytipaiggajialpaa.Pure
