/- WireUnpacks: which frames any bytes are, one behind the other, or where none can be read, is as the document says; laid again they are those bytes. Conditions: none beyond the statement's own. -/
import Derived.Test.YtiljancboibbmaaPWireUnpacksx11
namespace Go.Proofs.Ytiljancboibbmaa.Pure
open Go.RowKit Go.Proofs.Ytiljancboibbmaa.PWireUnpacks Go.Proofs.YtiljancboibbmaaW.PrintWords Go.Proofs.YtiljancboibbmaaW.PrintLast
set_option linter.unusedVariables false
set_option linter.unusedSimpArgs false

theorem wf_i64 {n : Int} (h : (Lit.int .i64 n).wf = true) : -9223372036854775808 ≤ n ∧ n ≤ 9223372036854775807 := by
  simp only [Lit.wf, Bool.and_eq_true, decide_eq_true_eq] at h
  exact h
theorem wf_u32 {n : Int} (h : (Lit.int .u32 n).wf = true) : 0 ≤ n ∧ n ≤ 4294967295 := by
  simp only [Lit.wf, Bool.and_eq_true, decide_eq_true_eq] at h
  exact h
theorem wf_i32 {n : Int} (h : (Lit.int .i32 n).wf = true) : -2147483648 ≤ n ∧ n ≤ 2147483647 := by
  simp only [Lit.wf, Bool.and_eq_true, decide_eq_true_eq] at h
  exact h
theorem w64 {n : Int} (h0 : -9223372036854775808 ≤ n) (h1 : n ≤ 9223372036854775807) : wrap64 n = n := by unfold wrap64; omega

/-- 'Option.bind_some' as an equation that simp carries along (not by 'rfl': else the kernel unfolds what is bound). -/
theorem ob {α β : Type} (a : α) (f : α → Option β) : (some a).bind f = f a := by
  have h : (some a).bind f = f a := rfl
  exact h.symm.symm

theorem up1 (j : Nat) (h : j < 1000000000) : wrap64 ((j : Int) + 1) = ((j + 1 : Nat) : Int) := by rw [w64 (by omega) (by omega)]; omega

theorem bt_size {s : ByteArray} {i : Nat} (h : i < s.size) : bt s (i : Int) = (s.data.toList[i]'(by rw [Array.length_toList]; exact h)).toNat := by
  have e := bt_at s (i : Int) (by simpa using h)
  rw [← e]
  simp
  rfl
theorem bt_none {s : ByteArray} {i : Int} (h : (s.size : Int) ≤ i) : bt s i = 0 := by
  unfold bt
  rw [dif_neg (by omega)]
theorem bt_num (l : List Int) (hl : ∀ x ∈ l, 0 ≤ x ∧ x ≤ 255) (i : Nat) (h : i < l.length) : bt (strOfNums l) i = l[i] := by
  have hs : i < (strOfNums l).size := by rw [strOfNums_size]; exact h
  rw [bt_size hs]
  have hx := hl l[i] (List.getElem_mem h)
  have : (strOfNums l).data.toList[i]'(by rw [Array.length_toList]; exact hs) = UInt8.ofNat (l[i]).toNat := by
    simp [strOfNums]
  rw [this]
  simp
  omega
theorem bytes_ext {s t : ByteArray} (hz : s.size = t.size) (h : ∀ i : Nat, i < s.size → bt s i = bt t i) : s = t := by
  have : s.data.toList = t.data.toList := by
    apply List.ext_getElem
    · rw [Array.length_toList, Array.length_toList]; exact hz
    · intro i h1 h2
      rw [Array.length_toList] at h1 h2
      have e := h i h1
      rw [bt_size h1, bt_size (show i < t.size from h2)] at e
      have e2 : (s.data.toList[i]).toNat = (t.data.toList[i]).toNat := by exact_mod_cast e
      exact UInt8.toNat_inj.mp e2
  obtain ⟨a⟩ := s
  obtain ⟨b⟩ := t
  have : a.toList = b.toList := this
  rw [Array.toList_inj.mp this]
theorem toList_inj' {s t : ByteArray} : s.toList = t.toList ↔ s = t := by
  constructor
  · intro h
    rw [ByteArray.toList_eq, ByteArray.toList_eq] at h
    obtain ⟨a⟩ := s
    obtain ⟨b⟩ := t
    have h : a.toList = b.toList := h
    rw [Array.toList_inj.mp h]
  · intro h; rw [h]
theorem str_beq (s t : ByteArray) : (s.toList == t.toList) = decide (s = t) := by
  rw [Bool.eq_iff_iff]
  simp [toList_inj']
/-- The comparison of two texts as the print has it, without 'toList' (which the kernel had better not unfold). -/
theorem ite_tl {α : Type} (x y : ByteArray) (p q : α) : (if x.toList = y.toList then p else q) = if x = y then p else q := by
  by_cases h : x = y
  · rw [if_pos h, if_pos (by rw [h])]
  · rw [if_neg h, if_neg (fun e => h (toList_inj'.mp e))]
theorem ite_tl0 {α : Type} (x : ByteArray) (p q : α) : (if x.toList = ([] : List UInt8) then p else q) = if x = ⟨#[]⟩ then p else q := by
  have e : (⟨#[]⟩ : ByteArray).toList = [] := by rw [ByteArray.toList_eq]
  by_cases h : x = ⟨#[]⟩
  · rw [if_pos h, if_pos (by rw [h, e])]
  · rw [if_neg h, if_neg (fun e2 => h (toList_inj'.mp (by rw [e2, e])))]

theorem bt_appl (s t : ByteArray) (i : Nat) (h : i < s.size) : bt (s ++ t) i = bt s i := by
  have hz : (s ++ t).size = s.size + t.size := by simp
  rw [bt_size (by omega), bt_size h]
  congr 2
  simp only [ByteArray.data_append, Array.toList_append]
  rw [List.getElem_append_left]
theorem bt_appr (s t : ByteArray) (i : Nat) (h : s.size ≤ i) : bt (s ++ t) i = bt t ((i - s.size : Nat) : Int) := by
  have hz : (s ++ t).size = s.size + t.size := by simp
  by_cases h2 : i < s.size + t.size
  · rw [bt_size (by omega), bt_size (show i - s.size < t.size by omega)]
    congr 2
    simp only [ByteArray.data_append, Array.toList_append]
    rw [List.getElem_append_right (by rw [Array.length_toList]; exact h)]
    simp only [Array.length_toList]
    rfl
  · rw [bt_none (by omega), bt_none (by omega)]
theorem ext_size (s : ByteArray) (a b : Nat) : (s.extract a b).size = min b s.size - a := by simp
theorem bt_ext (s : ByteArray) (a b i : Nat) (h : i < min b s.size - a) : bt (s.extract a b) i = bt s ((a + i : Nat) : Int) := by
  rw [bt_size (by rw [ext_size]; exact h), bt_size (show a + i < s.size by omega)]
  congr 2
  simp only [ByteArray.data_extract, Array.toList_extract, List.extract_eq_take_drop]
  simp

theorem strOfNums_append (a b : List Int) : strOfNums a ++ strOfNums b = strOfNums (a ++ b) := by
  simp only [strOfNums, List.map_append]
  exact (ByteArray.ext (by simp)).symm

/-! The flags of a frame, by number. -/
def fE (fl : Int) : Bool := decide (fl % 2 = 1)
def fR (fl : Int) : Bool := decide (fl / 2 % 2 = 1)
def fX (fl : Int) : Bool := decide (fl / 4 % 2 = 1)
def fD (fl : Int) : Bool := decide (fl / 8 % 2 = 1)
def fB (fl : Int) : Bool := decide (fl / 16 % 2 = 1)
def fS (fl : Int) : Bool := decide (fl / 32 % 2 = 1)
theorem has_all : ∀ x : Fin 64, ((Go.bits .and .i64 (x.val : Int) 1) != 0) = fE x.val ∧ ((Go.bits .and .i64 (x.val : Int) 2) != 0) = fR x.val ∧ ((Go.bits .and .i64 (x.val : Int) 4) != 0) = fX x.val ∧ ((Go.bits .and .i64 (x.val : Int) 8) != 0) = fD x.val
    ∧ ((Go.bits .and .i64 (x.val : Int) 48) != 0) = (fB x.val || fS x.val) ∧ ((Go.bits .and .i64 (x.val : Int) 5) != 0) = (fE x.val || fX x.val)
    ∧ ((x.val : Int) == 4) = (fX x.val && !fE x.val && !fR x.val && !fD x.val && !fB x.val && !fS x.val) := by decide +kernel
theorem has_fl (fl : Int) (h0 : 0 ≤ fl) (h1 : fl ≤ 63) : ((Go.bits .and .i64 fl 1) != 0) = fE fl ∧ ((Go.bits .and .i64 fl 2) != 0) = fR fl ∧ ((Go.bits .and .i64 fl 4) != 0) = fX fl ∧ ((Go.bits .and .i64 fl 8) != 0) = fD fl
    ∧ ((Go.bits .and .i64 fl 48) != 0) = (fB fl || fS fl) ∧ ((Go.bits .and .i64 fl 5) != 0) = (fE fl || fX fl) ∧ (fl == 4) = (fX fl && !fE fl && !fR fl && !fD fl && !fB fl && !fS fl) := by
  have := has_all ⟨fl.toNat, by omega⟩
  have e : (fl.toNat : Int) = fl := by omega
  simpa only [e] using this
/-- Has a length a code? -/
def isCode (len : Int) : Bool := (frst (fun x => x == len) 0 szL).2.2
def flg (fl : Int) : Bool := decide (0 ≤ fl ∧ fl ≤ 63) && (if fX fl = true then fl == 4 else if fD fl = true then !fR fl else !(fB fl || fS fl))
def mst (fl : Int) : Int := if (fE fl || fX fl) = true then 536870911 else 2047
def lng (fl len : Int) : Bool := if fX fl = true then len == 8 else if fD fl = true then isCode len else decide (0 ≤ len ∧ len ≤ 8)
/-- May a frame be? -/
def rgt (id fl len : Int) (d : ByteArray) : Bool := flg fl && decide (0 ≤ id ∧ id ≤ mst fl) && lng fl len && decide ((d.size : Int) = if fR fl = true then 0 else len)
theorem flags_eq (k : Nat) (hk : 1 ≤ k) (id fl len : Int) (d : ByteArray) : frame_flags.f k id fl len d = some (flg fl) := by
  obtain ⟨k, rfl⟩ : ∃ m, k = m + 1 := ⟨k - 1, by omega⟩
  simp only [frame_flags.f, frame_flags.j0, frame_has.f, ob, flg]
  by_cases h0 : fl < 0
  · rw [if_pos h0, if_pos trivial]
    have : ¬ (0 ≤ fl ∧ fl ≤ 63) := by omega
    simp [this]
  · rw [if_neg h0]
    by_cases h1 : fl > 63
    · rw [if_pos (by simpa using h1)]
      have : ¬ (0 ≤ fl ∧ fl ≤ 63) := by omega
      simp [this]
    · rw [if_neg (by simpa using h1)]
      have hh := has_fl fl (by omega) (by omega)
      have : 0 ≤ fl ∧ fl ≤ 63 := by omega
      rw [hh.2.1, hh.2.2.1, hh.2.2.2.1, hh.2.2.2.2.1]
      simp only [this, and_self, decide_true, Bool.true_and]
      split
      · rfl
      · split <;> rfl
theorem flg_range (fl : Int) (h : flg fl = true) : 0 ≤ fl ∧ fl ≤ 63 := by
  unfold flg at h
  simp only [Bool.and_eq_true, decide_eq_true_eq] at h
  exact h.1
theorem most_eq (id fl len : Int) (d : ByteArray) (h : flg fl = true) : frame_most.f id fl len d = some (mst fl) := by
  have hh := has_fl fl (flg_range fl h).1 (flg_range fl h).2
  simp only [frame_most.f, frame_has.f, ob, hh.2.2.2.2.2.1, mst]
  split <;> rfl
theorem long_eq (id fl len : Int) (d : ByteArray) (h : flg fl = true) : frame_long.f id fl len d = some (lng fl len) := by
  have hh := has_fl fl (flg_range fl h).1 (flg_range fl h).2
  simp only [frame_long.f, frame_has.f, ob, hh.2.2.1, hh.2.2.2.1, lng, frame_Code.f, isCode]
  split
  · rfl
  · split
    · rfl
    · by_cases h0 : len ≥ 0
      · rw [if_pos h0]
        congr 1
        simp
        omega
      · rw [if_neg h0]
        simp
        omega
theorem right_eq (k : Nat) (hk : 1 ≤ k) (id fl len : Int) (d : ByteArray) : frame_Right.f k id fl len d = some (if rgt id fl len d = true then 0 else 4) := by
  obtain ⟨k, rfl⟩ : ∃ m, k = m + 1 := ⟨k - 1, by omega⟩
  simp only [frame_Right.f, flags_eq (k + 1) (by omega), ob, frame_Right.j0]
  cases hf : flg fl with
  | false => simp [rgt, hf]
  | true =>
    have hh := has_fl fl (flg_range fl hf).1 (flg_range fl hf).2
    simp only [if_true, most_eq id fl len d hf, long_eq id fl len d hf, ob, frame_has.f, hh.2.1]
    by_cases h0 : id < 0
    · rw [if_pos h0]
      have : ¬ (0 ≤ id ∧ id ≤ mst fl) := by omega
      simp [rgt, this]
    · rw [if_neg h0]
      by_cases h1 : id > mst fl
      · rw [if_pos (by simpa using h1)]
        have : ¬ (0 ≤ id ∧ id ≤ mst fl) := by omega
        simp [rgt, this]
      · rw [if_neg (by simpa using h1)]
        have h2 : 0 ≤ id ∧ id ≤ mst fl := by omega
        cases hl : lng fl len with
        | false => simp [rgt, hl]
        | true =>
          simp only [rgt, hf, hl, h2, and_self, decide_true, Bool.true_and, if_true]
          cases hr : fR fl with
          | false =>
            simp only [Bool.false_eq_true, if_false, decide_eq_true_eq]
            split <;> rfl
          | true =>
            simp only [if_true, decide_eq_true_eq]
            split <;> rfl
theorem right0 (k : Nat) (hk : 1 ≤ k) (id fl len : Int) (d : ByteArray) (h : rgt id fl len d = true) : frame_Right.f k id fl len d = some 0 := by rw [right_eq k hk, if_pos h]
theorem right4 (k : Nat) (hk : 1 ≤ k) (id fl len : Int) (d : ByteArray) (h : rgt id fl len d = false) : frame_Right.f k id fl len d = some 4 := by rw [right_eq k hk, if_neg (by simp [h])]
theorem rgt_facts (id fl len : Int) (d : ByteArray) (h : rgt id fl len d = true) : flg fl = true ∧ 0 ≤ id ∧ id ≤ mst fl ∧ lng fl len = true ∧ ((d.size : Int) = if fR fl = true then 0 else len) := by
  unfold rgt at h
  simp only [Bool.and_eq_true, decide_eq_true_eq] at h
  exact ⟨h.1.1.1, h.1.1.2.1, h.1.1.2.2, h.1.2, h.2⟩
theorem mst_le (fl : Int) : mst fl ≤ 536870911 := by unfold mst; split <;> omega

theorem wraps_u32 (n : Int) (h₀ : 0 ≤ n) (h₁ : n < 2 ^ 32) : IntKind.u32.wrap n = n := by rw [IntKind.wrap_u32]; omega
theorem or_comm_u32 (x y : Int) : Go.bits .or .u32 x y = Go.bits .or .u32 y x := by simp [Go.bits, BitVec.or_comm]
/-- A frame's word. -/
def wrd (id fl : Int) : Int := id + (if fE fl = true then 2147483648 else 0) + (if fR fl = true then 1073741824 else 0) + (if fX fl = true then 536870912 else 0)
theorem or_31 (x : Int) (h0 : 0 ≤ x) (h1 : x < 2147483648) : Go.bits .or .u32 x 2147483648 = x + 2147483648 := by
  rw [or_comm_u32, bits_join .u32 32 (by decide) wraps_u32 31 2147483648 x (by decide) (by decide) (by decide) h0 h1 (by omega), Int.add_comm]
theorem or_30 (x : Int) (h0 : 0 ≤ x) (h1 : x < 1073741824) : Go.bits .or .u32 x 1073741824 = x + 1073741824 := by
  rw [or_comm_u32, bits_join .u32 32 (by decide) wraps_u32 30 1073741824 x (by decide) (by decide) (by decide) h0 h1 (by omega), Int.add_comm]
theorem or_29 (x : Int) (h0 : 0 ≤ x) (h1 : x < 536870912) : Go.bits .or .u32 x 536870912 = x + 536870912 := by
  rw [or_comm_u32, bits_join .u32 32 (by decide) wraps_u32 29 536870912 x (by decide) (by decide) (by decide) h0 h1 (by omega), Int.add_comm]
/-- A bit is set beside a number whose upper part is a multiple of twice it, and whose lower part is less than it. -/
theorem or_bit (i : Nat) (hi : i ≤ 30) (u x : Int) (hu : 0 ≤ u) (hu2 : u * 2 ^ (i + 1) + 2 ^ i + x < 4294967296) (hx : 0 ≤ x) (hx2 : x < 2 ^ i) : Go.bits .or .u32 (u * 2 ^ (i + 1) + x) (2 ^ i) = u * 2 ^ (i + 1) + x + 2 ^ i := by
  have hp : (0 : Int) < 2 ^ i := Int.pow_pos (by decide)
  have hp1 : (2 : Int) ^ (i + 1) = 2 ^ i * 2 := Int.pow_succ 2 i
  have hp32 : (2 : Int) ^ i ≤ 2 ^ 30 := by
    have := Nat.pow_le_pow_right (show 0 < 2 by decide) hi
    exact_mod_cast this
  have hm : 0 ≤ u * 2 ^ (i + 1) := Int.mul_nonneg hu (by omega)
  have e1 : Go.bits .or .u32 (u * 2 ^ (i + 1)) x = u * 2 ^ (i + 1) + x := bits_join .u32 32 (by decide) wraps_u32 (i + 1) _ _ hm (Int.mul_emod_left _ _) (by omega) hx (by omega) (by omega)
  have e2 : Go.bits .or .u32 (2 ^ i) x = 2 ^ i + x := bits_join .u32 32 (by decide) wraps_u32 i _ _ (by omega) (Int.emod_self) (by omega) hx hx2 (by omega)
  have e3 : Go.bits .or .u32 (u * 2 ^ (i + 1)) (2 ^ i + x) = u * 2 ^ (i + 1) + (2 ^ i + x) := bits_join .u32 32 (by decide) wraps_u32 (i + 1) _ _ hm (Int.mul_emod_left _ _) (by omega) (by omega) (by omega) (by omega)
  have rng : ∀ z : Int, 0 ≤ z → z < 4294967296 → ∃ n : Nat, z = n ∧ n < 2 ^ 32 := fun z h0 h1 => ⟨z.toNat, by omega, by omega⟩
  have key : ∀ a b c : Int, 0 ≤ a → a < 4294967296 → 0 ≤ b → b < 4294967296 → 0 ≤ c → c < 4294967296 → Go.bits .or .u32 (Go.bits .or .u32 a b) c = Go.bits .or .u32 a (Go.bits .or .u32 c b) := by
    intro a b c a0 a1 b0 b1 c0 c1
    obtain ⟨a, rfl, ha⟩ := rng a a0 a1
    obtain ⟨b, rfl, hb⟩ := rng b b0 b1
    obtain ⟨c, rfl, hc⟩ := rng c c0 c1
    rw [(bits_nat .u32 32 (by decide) wraps_u32 a b ha hb).2, (bits_nat .u32 32 (by decide) wraps_u32 c b hc hb).2, (bits_nat .u32 32 (by decide) wraps_u32 _ c (Nat.or_lt_two_pow ha hb) hc).2,
      (bits_nat .u32 32 (by decide) wraps_u32 a _ ha (Nat.or_lt_two_pow hc hb)).2, Nat.or_assoc, Nat.or_comm b c]
  rw [← e1, key _ _ _ hm (by omega) hx (by omega) (by omega) (by omega), e2, e3]
  omega
theorem word_eq (k : Nat) (hk : 1 ≤ k) (id fl len : Int) (d : ByteArray) (h : rgt id fl len d = true) : frame_Word.f k id fl len d = some (wrd id fl) := by
  obtain ⟨k, rfl⟩ : ∃ m, k = m + 1 := ⟨k - 1, by omega⟩
  obtain ⟨hf, i0, i1, _, _⟩ := rgt_facts id fl len d h
  have hm := mst_le fl
  have hh := has_fl fl (flg_range fl hf).1 (flg_range fl hf).2
  have e0 : id % 4294967296 = id := by omega
  simp only [frame_Word.f, right0 (k + 1) hk id fl len d h, ob, if_true, frame_has.f, hh.1, frame_Word.j0, hh.2.1, hh.2.2.1, e0, wrd]
  have o1 := or_31 id i0 (by omega)
  have o2 := or_30 id i0 (by omega)
  have o3 := or_29 id i0 (by omega)
  have o4 : Go.bits .or .u32 (id + 2147483648) 1073741824 = id + 2147483648 + 1073741824 := by
    have := or_bit 30 (by decide) 1 id (by decide) (by omega) i0 (by omega)
    rw [show (1 : Int) * 2 ^ (30 + 1) + id = id + 2147483648 by omega] at this
    exact this
  have o5 : Go.bits .or .u32 (id + 2147483648) 536870912 = id + 2147483648 + 536870912 := by
    have := or_bit 29 (by decide) 2 id (by decide) (by omega) i0 (by omega)
    rw [show (2 : Int) * 2 ^ (29 + 1) + id = id + 2147483648 by omega] at this
    exact this
  have o6 : Go.bits .or .u32 (id + 1073741824) 536870912 = id + 1073741824 + 536870912 := by
    have := or_bit 29 (by decide) 1 id (by decide) (by omega) i0 (by omega)
    rw [show (1 : Int) * 2 ^ (29 + 1) + id = id + 1073741824 by omega] at this
    exact this
  have o7 : Go.bits .or .u32 (id + 2147483648 + 1073741824) 536870912 = id + 2147483648 + 1073741824 + 536870912 := by
    have := or_bit 29 (by decide) 3 id (by decide) (by omega) i0 (by omega)
    rw [show (3 : Int) * 2 ^ (29 + 1) + id = id + 2147483648 + 1073741824 by omega] at this
    exact this
  cases fE fl <;> cases fR fl <;> cases fX fl <;> simp [o1, o2, o3, o4, o5, o6, o7]
theorem word_no (k : Nat) (hk : 1 ≤ k) (id fl len : Int) (d : ByteArray) (h : rgt id fl len d = false) : frame_Word.f k id fl len d = some 0 := by
  simp only [frame_Word.f, right4 k hk id fl len d h, ob]
  rw [if_neg (by decide)]

theorem rhas_all : ∀ x : Fin 64, (Int.tmod (wrap64 (Int.tdiv (x.val : Int) 1)) 2 == 1) = fE x.val ∧ (Int.tmod (wrap64 (Int.tdiv (x.val : Int) 2)) 2 == 1) = fR x.val ∧ (Int.tmod (wrap64 (Int.tdiv (x.val : Int) 4)) 2 == 1) = fX x.val ∧ (Int.tmod (wrap64 (Int.tdiv (x.val : Int) 8)) 2 == 1) = fD x.val
    ∧ (Int.tmod (wrap64 (Int.tdiv (x.val : Int) 16)) 2 == 1) = fB x.val ∧ (Int.tmod (wrap64 (Int.tdiv (x.val : Int) 32)) 2 == 1) = fS x.val := by decide +kernel
theorem rhas (id fl len : Int) (d : ByteArray) (h0 : 0 ≤ fl) (h1 : fl ≤ 63) : signalboxref02_Has.f id fl len d 1 = some (fE fl) ∧ signalboxref02_Has.f id fl len d 2 = some (fR fl) ∧ signalboxref02_Has.f id fl len d 4 = some (fX fl) ∧ signalboxref02_Has.f id fl len d 8 = some (fD fl)
    ∧ signalboxref02_Has.f id fl len d 16 = some (fB fl) ∧ signalboxref02_Has.f id fl len d 32 = some (fS fl) := by
  have := rhas_all ⟨fl.toNat, by omega⟩
  have e : (fl.toNat : Int) = fl := by omega
  simp only [e] at this
  simp only [signalboxref02_Has.f, if_neg (show ¬ fl < 0 by omega)]
  obtain ⟨a, b, c, d, e, f⟩ := this
  rw [if_neg (by decide), if_neg (by decide), if_neg (by decide), if_neg (by decide), if_neg (by decide), if_neg (by decide), a, b, c, d, e, f]
  exact ⟨rfl, rfl, rfl, rfl, rfl, rfl⟩
theorem frst_any (p : Int → Bool) (l : List Int) (i : Int) : (frst p i l).2.2 = l.any p := by
  induction l generalizing i with
  | nil => rfl
  | cons x l ih =>
    unfold frst
    cases hb : p x with
    | true => simp [hb]
    | false => simp [hb, ih]
theorem isCode_iff (len : Int) : isCode len = true ↔ len = 0 ∨ len = 1 ∨ len = 2 ∨ len = 3 ∨ len = 4 ∨ len = 5 ∨ len = 6 ∨ len = 7 ∨ len = 8 ∨ len = 12 ∨ len = 16 ∨ len = 20 ∨ len = 24 ∨ len = 32 ∨ len = 48 ∨ len = 64 := by
  have he : isCode len = szL.any (fun x => x == len) := frst_any _ _ _
  rw [he]
  simp only [szL, List.any_cons, List.any_nil, Bool.or_eq_true, beq_iff_eq, Bool.or_false, eq_comm (b := len)]
theorem rcode_l0 (len : Int) (d : Nat) : ∀ (k j : Nat), j + d = 16 → d + 1 ≤ k →
    signalboxref02_Code.l0 k len szL j = some (if (frst (fun x => x == len) j (szL.drop j)).2.2 = true then (frst (fun x => x == len) j (szL.drop j)).1 else -1) := by
  induction d with
  | zero =>
    intro k j hj hk
    obtain ⟨k, rfl⟩ : ∃ m, k = m + 1 := ⟨k - 1, by omega⟩
    obtain rfl : j = 16 := by omega
    rfl
  | succ d ih =>
    intro k j hj hk
    obtain ⟨k, rfl⟩ : ∃ m, k = m + 1 := ⟨k - 1, by omega⟩
    have ih := ih k (j + 1) (by omega) (by omega)
    rw [frst_step _ j (by omega)]
    have e : wrap64 ((j : Int) + 1) = ((j + 1 : Nat) : Int) := by unfold wrap64; omega
    have er : rd szL (j : Int) = szAt j := by
      have : j < szL.length := by show j < 16; omega
      simp [rd, szAt]
    have el : (szL.length : Int) = 16 := rfl
    simp only [signalboxref02_Code.l0, e, ih, er, el]
    rw [if_pos (by omega), if_pos (by omega)]
    by_cases h : szAt j = len
    · have hb : (szAt j == len) = true := by simpa using h
      simp only [if_pos h, hb, if_true]
    · have hb : (szAt j == len) = false := by simpa using h
      simp only [if_neg h, hb, Bool.false_eq_true, if_false]
theorem rcode (k : Nat) (hk : 20 ≤ k) (len : Int) : ∃ c, signalboxref02_Code.f k len = some c ∧ decide (c < 0) = !isCode len := by
  refine ⟨_, (show signalboxref02_Code.f k len = _ by simp only [signalboxref02_Code.f, signalboxref02_Sizes.f, ob]; exact rcode_l0 len 16 k 0 (by omega) (by omega)), ?_⟩
  have hd : szL.drop 0 = szL := rfl
  rw [hd]
  have hc : isCode len = (frst (fun x => x == len) ((0 : Nat) : Int) szL).2.2 := rfl
  rw [hc]
  have hp : ∀ (p : Int → Bool) (l : List Int) (i : Int), 0 ≤ i → 0 ≤ (frst p i l).1 := by
    intro p l
    induction l with
    | nil => intro i _; exact Int.le_refl 0
    | cons x l ih =>
      intro i hi
      unfold frst
      split
      · exact hi
      · exact ih (i + 1) (by omega)
  have := hp (fun x => x == len) szL ((0 : Nat) : Int) (by decide)
  cases (frst (fun x => x == len) ((0 : Nat) : Int) szL).2.2 with
  | true => simpa using this
  | false => simp
theorem size0 (d : ByteArray) : (d.toList == ([] : List UInt8)) = decide ((d.size : Int) = 0) := by
  rw [Bool.eq_iff_iff, beq_iff_eq, decide_eq_true_eq, ByteArray.toList_eq]
  obtain ⟨⟨l⟩⟩ := d
  show l = [] ↔ ((l.length : Nat) : Int) = 0
  cases l with
  | nil => simp
  | cons a l => simp; omega
def rl3 (r : Bool) (len : Int) (d : ByteArray) : Bool := decide ((d.size : Int) = if r = true then 0 else len)
def rl2 (x d r : Bool) (len : Int) (b : ByteArray) : Bool := decide (0 ≤ len ∧ len ≤ 64) && (if d = true then isCode len else decide (len ≤ 8)) && (!x || len == 8) && rl3 r len b
theorem rj3 (k : Nat) (hk : 1 ≤ k) (r bad : Bool) (id fl len : Int) (d : ByteArray) : signalboxref02_Right.j3 k r bad id fl len d = some (!bad && rl3 r len d) := by
  obtain ⟨k, rfl⟩ : ∃ m, k = m + 1 := ⟨k - 1, by omega⟩
  simp only [signalboxref02_Right.j3, size0, rl3]
  cases bad <;> cases r <;> simp <;> rfl
theorem rj2 (k : Nat) (hk : 22 ≤ k) (x d r bad : Bool) (id fl len : Int) (b : ByteArray) : signalboxref02_Right.j2 k x d r bad id fl len b = some (!bad && rl2 x d r len b) := by
  obtain ⟨k, rfl⟩ : ∃ m, k = m + 1 := ⟨k - 1, by omega⟩
  obtain ⟨c, hc, hd⟩ := rcode k (by omega) len
  have hd' : (c < 0) = (isCode len = false) := by
    rw [← decide_eq_true_eq (p := c < 0), hd]
    cases isCode len <;> simp
  simp only [signalboxref02_Right.j2, rj3 k (by omega), hc, ob, hd', rl2]
  cases bad with
  | true => simp
  | false =>
    by_cases h0 : len < 0
    · have : ¬ (0 ≤ len ∧ len ≤ 64) := by omega
      simp [h0, this]
    · by_cases h1 : len > 64
      · have : ¬ (0 ≤ len ∧ len ≤ 64) := by omega
        simp [h0, h1, this]
      · have h2 : 0 ≤ len ∧ len ≤ 64 := by omega
        simp only [h0, h1, h2, and_self, decide_true, Bool.true_and, if_false, Bool.not_false]
        cases d with
        | true =>
          cases isCode len <;> cases x <;> simp [bne]
        | false =>
          by_cases h3 : len > 8
          · have : ¬ len ≤ 8 := by omega
            simp [h3, this]
          · have : len ≤ 8 := by omega
            cases x <;> simp [h3, this, bne]
theorem rj1 (k : Nat) (hk : 23 ≤ k) (x d r e bad : Bool) (id fl len : Int) (b : ByteArray) : signalboxref02_Right.j1 k x d r e bad id fl len b = some (!bad && (decide (id ≤ 2047) || e || x) && rl2 x d r len b) := by
  obtain ⟨k, rfl⟩ : ∃ m, k = m + 1 := ⟨k - 1, by omega⟩
  simp only [signalboxref02_Right.j1, rj2 k (by omega)]
  cases bad with
  | true => simp
  | false =>
    by_cases h : id > 2047
    · have : ¬ id ≤ 2047 := by omega
      cases e <;> cases x <;> simp [h, this]
    · have : id ≤ 2047 := by omega
      simp [h, this]
theorem rright_eq (k : Nat) (hk : 30 ≤ k) (id fl len : Int) (b : ByteArray) : signalboxref02_Right.f k id fl len b = some (rgt id fl len b) := by
  obtain ⟨k, rfl⟩ : ∃ m, k = m + 1 := ⟨k - 1, by omega⟩
  have ht : ∀ k, signalboxref02_Right.j0 (k + 1) true id fl len b = some false := fun k => rfl
  simp only [signalboxref02_Right.f, ht]
  by_cases h0 : fl < 0
  · have : ¬ (0 ≤ fl ∧ fl ≤ 63) := by omega
    simp [h0, rgt, flg, this]
  by_cases h1 : fl > 63
  · have : ¬ (0 ≤ fl ∧ fl ≤ 63) := by omega
    simp [h0, h1, rgt, flg, this]
  rw [if_neg h0, if_neg h1]
  by_cases h2 : id < 0
  · have : ¬ (0 ≤ id ∧ id ≤ mst fl) := by omega
    simp [h2, rgt, this]
  rw [if_neg h2]
  have hm := mst_le fl
  by_cases h3 : id > 536870911
  · have : ¬ (0 ≤ id ∧ id ≤ mst fl) := by omega
    have e : decide (id > 536870911) = true := by simpa using h3
    rw [e, ht]
    simp [rgt, this]
  have e : decide (id > 536870911) = false := by simpa using h3
  rw [e]
  obtain ⟨a1, a2, a4, a8, a16, a32⟩ := rhas id fl len b (by omega) (by omega)
  have hx := (has_fl fl (by omega) (by omega)).2.2.2.2.2.2
  have hr : 0 ≤ fl ∧ fl ≤ 63 := by omega
  have hc := isCode_iff len
  have hm2 : decide (0 ≤ id ∧ id ≤ mst fl) = (decide (id ≤ 2047) || fE fl || fX fl) := by
    unfold mst
    split
    · next h => rw [Bool.or_assoc, h, Bool.or_true, decide_eq_true_eq]; omega
    · next h => rw [Bool.or_assoc, Bool.eq_false_iff.mpr h, Bool.or_false, Bool.eq_iff_iff]; simp; omega
  simp only [signalboxref02_Right.j0, a1, a2, a4, a8, a16, a32, ob, rj1 k (by omega), show rgt id fl len b = (flg fl && decide (0 ≤ id ∧ id ≤ mst fl) && lng fl len && rl3 (fR fl) len b) from rfl, hm2, flg, lng, rl2, hr, hx, and_self, decide_true, Bool.true_and]
  clear a1 a2 a4 a8 a16 a32 hx e
  have c3 : ∀ z, (decide (0 ≤ len) && (decide (len ≤ 64) && (isCode len && z))) = (isCode len && z) := by
    intro z
    cases hi : isCode len with
    | false => simp
    | true => have := hc.mp hi; cases z <;> simp; omega
  have c4 : ∀ z, (decide (0 ≤ len) && (decide (len ≤ 64) && (decide (len ≤ 8) && z))) = (decide (0 ≤ len) && (decide (len ≤ 8) && z)) := by
    intro z
    rw [Bool.eq_iff_iff]
    cases z <;> simp
    omega
  have c5 : ∀ z, (decide (0 ≤ len) && (decide (len ≤ 8) && (len == 8 && z))) = (len == 8 && z) := by
    intro z
    rw [Bool.eq_iff_iff]
    cases z <;> simp
    omega
  cases fX fl <;> cases fE fl <;> cases fR fl <;> cases fD fl <;> cases fB fl <;> cases fS fl <;> simp [c3, c4, c5, Bool.and_assoc, Bool.decide_and]

theorem ad (i : Nat) (hi : i ≤ 31) (w : Int) (h0 : 0 ≤ w) (h1 : w < 4294967296) : (Go.bits .and .u32 w (2 ^ i) = 0) = (w / 2 ^ i % 2 = 0) := by
  obtain ⟨n, rfl⟩ := Int.eq_ofNat_of_zero_le h0
  have hp : (2 : Nat) ^ i < 2 ^ 32 := Nat.pow_lt_pow_right (by decide) (by omega)
  have hp0 : 0 < (2 : Nat) ^ i := Nat.two_pow_pos i
  have hc : ((2 : Int) ^ i) = ((2 ^ i : Nat) : Int) := by simp
  have hk : n &&& 2 ^ i = 0 ↔ n / 2 ^ i % 2 = 0 := by
    have hb : n.testBit i = false ↔ n / 2 ^ i % 2 = 0 := by rw [Nat.testBit_eq_decide_div_mod_eq, decide_eq_false_iff_not]; omega
    rw [← hb]
    constructor
    · intro h
      have := congrArg (fun z => Nat.testBit z i) h
      simpa [Nat.testBit_and, Nat.testBit_two_pow] using this
    · intro h
      apply Nat.eq_of_testBit_eq
      intro j
      rw [Nat.testBit_and, Nat.testBit_two_pow, Nat.zero_testBit]
      by_cases e : i = j
      · subst e; rw [h]; rfl
      · rw [decide_eq_false e, Bool.and_false]
  rw [hc, (bits_nat .u32 32 (by decide) wraps_u32 n (2 ^ i) (by omega) hp).1]
  have hz : ((n : Int) / ((2 ^ i : Nat) : Int) % 2) = ((n / 2 ^ i % 2 : Nat) : Int) := by simp
  rw [hz]
  exact propext ⟨fun h => by have := hk.mp (by omega); omega, fun h => by have := hk.mpr (by omega); omega⟩
def ofl (w : Int) : Int := w / 2147483648 % 2 + 2 * (w / 1073741824 % 2) + 4 * (w / 536870912 % 2)
def ofd (w : Int) (a : ByteArray) : ByteArray := if w / 1073741824 % 2 = 0 then a else ⟨#[]⟩
theorem ors : Go.bits .or .i64 0 1 = 1 ∧ Go.bits .or .i64 0 2 = 2 ∧ Go.bits .or .i64 1 2 = 3 ∧ Go.bits .or .i64 0 4 = 4 ∧ Go.bits .or .i64 1 4 = 5 ∧ Go.bits .or .i64 2 4 = 6 ∧ Go.bits .or .i64 3 4 = 7 := by decide +kernel
theorem ofl_facts (w : Int) : fE (ofl w) = decide (w / 2147483648 % 2 = 1) ∧ fR (ofl w) = decide (w / 1073741824 % 2 = 1) ∧ fX (ofl w) = decide (w / 536870912 % 2 = 1) := by
  unfold ofl fE fR fX
  have c31 : w / 2147483648 % 2 = 0 ∨ w / 2147483648 % 2 = 1 := by omega
  have c30 : w / 1073741824 % 2 = 0 ∨ w / 1073741824 % 2 = 1 := by omega
  have c29 : w / 536870912 % 2 = 0 ∨ w / 536870912 % 2 = 1 := by omega
  rcases c31 with h31 | h31 <;> rcases c30 with h30 | h30 <;> rcases c29 with h29 | h29 <;> rw [h31, h30, h29] <;> decide
theorem wrd_range (id fl : Int) (h0 : 0 ≤ id) (h1 : id ≤ 536870911) : 0 ≤ wrd id fl ∧ wrd id fl < 4294967296 := by
  unfold wrd
  split <;> split <;> split <;> omega
theorem wrd_parts (id fl : Int) (h0 : 0 ≤ id) (h1 : id ≤ 536870911) : wrd id fl % 536870912 = id ∧ ofl (wrd id fl) = (if fE fl = true then 1 else 0) + 2 * (if fR fl = true then 1 else 0) + 4 * (if fX fl = true then 1 else 0) ∧ ((wrd id fl / 1073741824 % 2 = 0) ↔ fR fl = false) := by
  unfold wrd ofl
  cases fE fl <;> cases fR fl <;> cases fX fl <;> simp <;> omega

theorem rof_eq (k : Nat) (hk : 40 ≤ k) (w : Int) (h0 : 0 ≤ w) (h1 : w < 4294967296) (a : ByteArray) :
    signalboxref02_Of.f k w a = some (if rgt (w % 536870912) (ofl w) a.size (ofd w a) = true then (w % 536870912, ofl w, (a.size : Int), ofd w a, true) else (0, 0, 0, ⟨#[]⟩, false)) := by
  obtain ⟨k, rfl⟩ : ∃ m, k = m + 2 := ⟨k - 2, by omega⟩
  have t31 : Int.tdiv w 2147483648 % 4294967296 = w / 2147483648 % 2 := by rw [Int.tdiv_eq_ediv_of_nonneg h0]; omega
  have t30 : Int.tdiv w 1073741824 % 4294967296 % 2 = w / 1073741824 % 2 := by rw [Int.tdiv_eq_ediv_of_nonneg h0]; omega
  have t29 : Int.tdiv w 536870912 % 4294967296 % 2 = w / 536870912 % 2 := by rw [Int.tdiv_eq_ediv_of_nonneg h0]; omega
  have w1 : wrap64 (Int.tmod w 536870912) = w % 536870912 := by rw [Int.tmod_eq_emod_of_nonneg h0]; exact w64 (by omega) (by omega)
  have p : wrap64 (0 + 2) = 2 ∧ wrap64 (1 + 2) = 3 ∧ wrap64 (0 + 4) = 4 ∧ wrap64 (1 + 4) = 5 ∧ wrap64 (2 + 4) = 6 ∧ wrap64 (3 + 4) = 7 := by decide +kernel
  obtain ⟨p1, p2, p3, p4, p5, p6⟩ := p
  have hend : ∀ fl (d : ByteArray), (signalboxref02_Right.f k (w % 536870912) fl a.size d).bind (fun t144 => (if t144 = true then (some (w % 536870912, fl, (a.size : Int), d, true)) else (some (0, 0, 0, (⟨#[]⟩ : ByteArray), false)))) = some (if rgt (w % 536870912) fl a.size d = true then (w % 536870912, fl, (a.size : Int), d, true) else (0, 0, 0, ⟨#[]⟩, false)) := by
    intro fl d
    rw [rright_eq k (by omega), ob]
    split <;> rfl
  simp only [signalboxref02_Of.f, signalboxref02_Of.j0, signalboxref02_Of.j1, t31, t30, t29, w1, ofl, ofd]
  have c31 : w / 2147483648 % 2 = 0 ∨ w / 2147483648 % 2 = 1 := by omega
  have c30 : w / 1073741824 % 2 = 0 ∨ w / 1073741824 % 2 = 1 := by omega
  have c29 : w / 536870912 % 2 = 0 ∨ w / 536870912 % 2 = 1 := by omega
  rcases c31 with h31 | h31 <;> rcases c30 with h30 | h30 <;> rcases c29 with h29 | h29 <;> simp only [h31, h30, h29, if_true, if_neg (show ¬ (1 : Int) = 0 by decide), if_neg (show ¬ (0 : Int) = 1 by decide), p1, p2, p3, p4, p5, p6] <;> exact hend _ _

theorem join8 (x b : Int) (i : Nat) (hi : i ≤ 24) (hx0 : 0 ≤ x) (hx : x < 2 ^ i) (hb0 : 0 ≤ b) (hb : b * 2 ^ i < 4294967296) : Go.bits .or .u32 x (b * 2 ^ i) = x + b * 2 ^ i := by
  have hp : (0 : Int) < 2 ^ i := Int.pow_pos (by decide)
  have hp2 : (2 : Int) ^ i ≤ 2 ^ 24 := by
    have := Nat.pow_le_pow_right (show 0 < 2 by decide) hi
    exact_mod_cast this
  rw [or_comm_u32, bits_join .u32 32 (by decide) wraps_u32 i (b * 2 ^ i) x (Int.mul_nonneg hb0 (by omega)) (Int.mul_emod_left b (2 ^ i)) (by omega) hx0 hx (by omega), Int.add_comm]
theorem bt_rng (s : ByteArray) (i : Int) (_h0 : 0 ≤ i) (_h1 : i < s.size) : 0 ≤ bt s i ∧ bt s i ≤ 255 := bt_range s i
/-- The number at a place. -/
def num4 (s : ByteArray) (i : Int) : Int := bt s i + bt s (i + 1) * 256 + bt s (i + 2) * 65536 + bt s (i + 3) * 16777216
theorem get_ok (k : Nat) (hk : 6 ≤ k) (s : ByteArray) (hs : s.size ≤ 140737488351232) (i : Int) (h0 : 0 ≤ i) (h1 : i ≤ s.size - 4) : octet_Get.f k s i = some (num4 s i, true) := by
  obtain ⟨k, rfl⟩ : ∃ m, k = m + 1 + 1 + 1 + 1 + 1 + 1 := ⟨k - 6, by omega⟩
  have b0 := bt_rng s i h0 (by omega)
  have b1 := bt_rng s (i + 1) (by omega) (by omega)
  have b2 := bt_rng s (i + 2) (by omega) (by omega)
  have b3 := bt_rng s (i + 3) (by omega) (by omega)
  have e4 : wrap64 ((s.size : Int) - 4) = s.size - 4 := w64 (by omega) (by omega)
  have s0 : shl .u32 (bt s i % 4294967296) 0 = bt s i * 2 ^ 0 := by
    simp only [shl]
    rw [IntKind.wrap_u32]; simp; omega
  have s1 : shl .u32 (bt s (i + 1) % 4294967296) 8 = bt s (i + 1) * 2 ^ 8 := by
    simp only [shl]
    rw [IntKind.wrap_u32, show min (8 : Int).toNat IntKind.u32.bits = 8 by decide]; omega
  have s2 : shl .u32 (bt s (i + 2) % 4294967296) 16 = bt s (i + 2) * 2 ^ 16 := by
    simp only [shl]
    rw [IntKind.wrap_u32, show min (16 : Int).toNat IntKind.u32.bits = 16 by decide]; omega
  have s3 : shl .u32 (bt s (i + 3) % 4294967296) 24 = bt s (i + 3) * 2 ^ 24 := by
    simp only [shl]
    rw [IntKind.wrap_u32, show min (24 : Int).toNat IntKind.u32.bits = 24 by decide]; omega
  simp only [octet_Get.f, octet_Get.j0]
  rw [if_neg (by omega), e4, if_neg (by simp; omega)]
  have w0 : wrap64 (i + 0) = i := by rw [Int.add_zero]; exact w64 (by omega) (by omega)
  have w1 : wrap64 (i + 1) = i + 1 := w64 (by omega) (by omega)
  have w2 : wrap64 (i + 2) = i + 2 := w64 (by omega) (by omega)
  have w3 : wrap64 (i + 3) = i + 3 := w64 (by omega) (by omega)
  have z0 : wrap64 (8 * 0) = 0 := by unfold wrap64; decide
  have z1 : wrap64 (8 * 1) = 8 := by unfold wrap64; decide
  have z2 : wrap64 (8 * 2) = 16 := by unfold wrap64; decide
  have z3 : wrap64 (8 * 3) = 24 := by unfold wrap64; decide
  have c0 : wrap64 (0 + 1) = 1 := by unfold wrap64; decide
  have c1 : wrap64 (1 + 1) = 2 := by unfold wrap64; decide
  have c2 : wrap64 (2 + 1) = 3 := by unfold wrap64; decide
  have c3 : wrap64 (3 + 1) = 4 := by unfold wrap64; decide
  simp only [octet_Get.l0, w0, w1, w2, w3, c0, c1, c2, c3, z0, z1, z2, z3, s0, s1, s2, s3]
  rw [if_pos (by decide), if_pos h0, if_pos (by omega), if_pos (by decide), if_pos (by decide), if_pos (by omega), if_pos (by omega), if_pos (by decide),
    if_pos (by decide), if_pos (by omega), if_pos (by omega), if_pos (by decide), if_pos (by decide), if_pos (by omega), if_pos (by omega), if_pos (by decide), if_neg (by decide)]
  rw [join8 0 (bt s i) 0 (by decide) (by decide) (by decide) b0.1 (by omega), join8 _ (bt s (i + 1)) 8 (by decide) (by omega) (by omega) b1.1 (by omega),
    join8 _ (bt s (i + 2)) 16 (by decide) (by omega) (by omega) b2.1 (by omega), join8 _ (bt s (i + 3)) 24 (by decide) (by omega) (by omega) b3.1 (by omega)]
  simp only [num4]
  congr 2
  omega
theorem get_no (k : Nat) (hk : 1 ≤ k) (s : ByteArray) (hs : s.size ≤ 140737488351232) (i : Int) (h : i < 0 ∨ i > s.size - 4) : octet_Get.f k s i = some (0, false) := by
  obtain ⟨k, rfl⟩ : ∃ m, k = m + 1 := ⟨k - 1, by omega⟩
  have e4 : wrap64 ((s.size : Int) - 4) = s.size - 4 := w64 (by omega) (by omega)
  simp only [octet_Get.f, octet_Get.j0, e4]
  by_cases h0 : i < 0
  · rw [if_pos h0]; rfl
  · rw [if_neg h0, if_pos (by simp; omega)]
theorem bt_four (a b c d : Int) (ha : 0 ≤ a ∧ a ≤ 255) (hb : 0 ≤ b ∧ b ≤ 255) (hc : 0 ≤ c ∧ c ≤ 255) (hd : 0 ≤ d ∧ d ≤ 255) :
    num4 (strOfNums [a, b, c, d]) 0 = a + b * 256 + c * 65536 + d * 16777216 := by
  have hl : ∀ x ∈ [a, b, c, d], 0 ≤ x ∧ x ≤ 255 := by
    intro x hx
    simp at hx
    rcases hx with rfl | rfl | rfl | rfl <;> assumption
  have e0 := bt_num [a, b, c, d] hl 0 (by simp)
  have e1 := bt_num [a, b, c, d] hl 1 (by simp)
  have e2 := bt_num [a, b, c, d] hl 2 (by simp)
  have e3 := bt_num [a, b, c, d] hl 3 (by simp)
  simp only [num4]
  rw [show ((0 : Int) + 1) = ((1 : Nat) : Int) by rfl, show ((0 : Int) + 2) = ((2 : Nat) : Int) by rfl, show ((0 : Int) + 3) = ((3 : Nat) : Int) by rfl, e1, e2, e3]
  rw [show (0 : Int) = ((0 : Nat) : Int) by rfl, e0]
  rfl

theorem rget_ok (k : Nat) (hk : 6 ≤ k) (s : ByteArray) (hs : s.size ≤ 140737488351232) (i : Int) (h0 : 0 ≤ i) (h1 : i ≤ s.size - 4) : signalboxref01_Get.f k s i = some (num4 s i, true) := by
  obtain ⟨k, rfl⟩ : ∃ m, k = m + 1 + 1 + 1 + 1 + 1 + 1 := ⟨k - 6, by omega⟩
  have b0 := bt_rng s i h0 (by omega)
  have b1 := bt_rng s (i + 1) (by omega) (by omega)
  have b2 := bt_rng s (i + 2) (by omega) (by omega)
  have b3 := bt_rng s (i + 3) (by omega) (by omega)
  have e4 : wrap64 ((s.size : Int) - i) = s.size - i := w64 (by omega) (by omega)
  simp only [signalboxref01_Get.f, signalboxref01_Get.j0]
  rw [if_neg (by omega), if_neg (by omega), e4, if_neg (by simp; omega)]
  have w0 : wrap64 (i + 0) = i := by rw [Int.add_zero]; exact w64 (by omega) (by omega)
  have w1 : wrap64 (i + 1) = i + 1 := w64 (by omega) (by omega)
  have w2 : wrap64 (i + 2) = i + 2 := w64 (by omega) (by omega)
  have w3 : wrap64 (i + 3) = i + 3 := w64 (by omega) (by omega)
  have c0 : wrap64 (3 - 1) = 2 := by unfold wrap64; decide
  have c1 : wrap64 (2 - 1) = 1 := by unfold wrap64; decide
  have c2 : wrap64 (1 - 1) = 0 := by unfold wrap64; decide
  have c3 : wrap64 (0 - 1) = -1 := by unfold wrap64; decide
  simp only [signalboxref01_Get.l0, w0, w1, w2, w3, c0, c1, c2, c3]
  rw [if_pos (by decide), if_pos (by omega), if_pos (by omega), if_pos (by decide), if_pos (by omega), if_pos (by omega),
    if_pos (by decide), if_pos (by omega), if_pos (by omega), if_pos (by decide), if_pos (by omega), if_pos (by omega), if_neg (by decide)]
  simp only [num4]
  congr 2
  omega
theorem rget_no (k : Nat) (hk : 1 ≤ k) (s : ByteArray) (hs : s.size ≤ 140737488351232) (i : Int) (h : i < 0 ∨ i > s.size - 4) (hi : i ≤ 9223372036854775807) : signalboxref01_Get.f k s i = some (0, false) := by
  obtain ⟨k, rfl⟩ : ∃ m, k = m + 1 := ⟨k - 1, by omega⟩
  simp only [signalboxref01_Get.f, signalboxref01_Get.j0]
  by_cases h0 : i < 0
  · rw [if_pos h0]; rfl
  · rw [if_neg h0]
    by_cases h1 : i > s.size
    · rw [if_pos h1]; rfl
    · have e4 : wrap64 ((s.size : Int) - i) = s.size - i := w64 (by omega) (by omega)
      rw [if_neg h1, e4, if_pos (by simp; omega)]

/-- The byte of marks. -/
def mrk (fl : Int) : Int := (if fB fl = true then 1 else 0) + (if fS fl = true then 2 else 0) + (if fD fl = true then 4 else 0)
/-- How many bytes a frame has. -/
def wln (fl : Int) : Nat := if fD fl = true then 72 else 16
/-- The first eight bytes of a frame. -/
def encH (id fl len : Int) : List Int := [wrd id fl % 256, wrd id fl / 256 % 256, wrd id fl / 65536 % 256, wrd id fl / 16777216 % 256, len % 256, mrk fl, 0, 0]
/-- A frame's bytes. -/
def enc (id fl len : Int) (d : ByteArray) : ByteArray := strOfNums (encH id fl len) ++ d ++ strOfNums (List.replicate (wln fl - (8 + d.size)) 0)
theorem encH_size (id fl len : Int) : (strOfNums (encH id fl len)).size = 8 := by rw [strOfNums_size]; rfl
theorem mrk_range (fl : Int) : 0 ≤ mrk fl ∧ mrk fl ≤ 7 := by unfold mrk; split <;> split <;> split <;> omega
theorem encH_range (id fl len : Int) : ∀ x ∈ encH id fl len, 0 ≤ x ∧ x ≤ 255 := by
  intro x hx
  have := mrk_range fl
  simp only [encH, List.mem_cons, List.not_mem_nil, or_false] at hx
  omega
theorem size_small (id fl len : Int) (d : ByteArray) (h : rgt id fl len d = true) : 8 + d.size ≤ wln fl ∧ 0 ≤ len ∧ len ≤ 64 ∧ (d.size = 0 ∨ (d.size : Int) = len) ∧ 8 + len ≤ wln fl := by
  obtain ⟨hf, i0, i1, hl, hz⟩ := rgt_facts id fl len d h
  unfold lng at hl
  unfold wln
  have hlen : 0 ≤ len ∧ len ≤ 64 ∧ (fD fl = false → len ≤ 8) := by
    cases hX : fX fl with
    | true => rw [hX, if_pos rfl] at hl; have : len = 8 := by simpa using hl
              exact ⟨by omega, by omega, fun _ => by omega⟩
    | false =>
      rw [hX, if_neg (by decide)] at hl
      cases hD : fD fl with
      | true =>
        rw [hD, if_pos rfl] at hl
        have := (isCode_iff len).mp hl
        exact ⟨by omega, by omega, fun q => absurd q (by decide)⟩
      | false =>
        rw [hD, if_neg (by decide)] at hl
        have : 0 ≤ len ∧ len ≤ 8 := by simpa using hl
        exact ⟨by omega, by omega, fun _ => by omega⟩
  cases hR : fR fl <;> rw [hR] at hz <;> cases hD : fD fl <;> simp only [hD, if_true, if_false, Bool.false_eq_true, true_implies] at hz hlen ⊢ <;> omega
theorem enc_size (id fl len : Int) (d : ByteArray) (h : rgt id fl len d = true) : (enc id fl len d).size = wln fl := by
  have := (size_small id fl len d h).1
  unfold enc
  rw [ByteArray.size_append, ByteArray.size_append, encH_size, strOfNums_size, List.length_replicate]
  omega
theorem enc_h (id fl len : Int) (d : ByteArray) (i : Nat) (hi : i < 8) : bt (enc id fl len d) i = (encH id fl len)[i]'hi := by
  have e := encH_size id fl len
  unfold enc
  rw [bt_appl _ _ i (by rw [ByteArray.size_append]; omega), bt_appl _ _ i (by omega), bt_num _ (encH_range id fl len) i hi]
theorem enc_d (id fl len : Int) (d : ByteArray) (i : Nat) (h8 : 8 ≤ i) (hi : i < 8 + d.size) : bt (enc id fl len d) i = bt d ((i - 8 : Nat) : Int) := by
  have e := encH_size id fl len
  unfold enc
  rw [bt_appl _ _ i (by rw [ByteArray.size_append]; omega), bt_appr _ _ i (by omega), e]
theorem bt_zero (n i : Nat) : bt (strOfNums (List.replicate n 0)) i = 0 := by
  by_cases h : i < n
  · rw [bt_num _ (by intro x hx; rw [List.eq_of_mem_replicate hx]; decide) i (by rw [List.length_replicate]; exact h), List.getElem_replicate]
  · exact bt_none (by rw [strOfNums_size, List.length_replicate]; omega)
theorem enc_z (id fl len : Int) (d : ByteArray) (i : Nat) (hi : 8 + d.size ≤ i) : bt (enc id fl len d) i = 0 := by
  have e := encH_size id fl len
  unfold enc
  rw [bt_appr _ _ i (by rw [ByteArray.size_append]; omega)]
  exact bt_zero _ _
theorem enc_num (id fl len : Int) (d : ByteArray) (h : rgt id fl len d = true) : num4 (enc id fl len d) 0 = wrd id fl := by
  obtain ⟨hf, i0, i1, hl, hz⟩ := rgt_facts id fl len d h
  have hm := mst_le fl
  have hr := wrd_range id fl i0 (by omega)
  have e0 := enc_h id fl len d 0 (by decide)
  have e1 := enc_h id fl len d 1 (by decide)
  have e2 := enc_h id fl len d 2 (by decide)
  have e3 := enc_h id fl len d 3 (by decide)
  unfold num4
  rw [show ((0 : Int) + 1) = ((1 : Nat) : Int) by rfl, show ((0 : Int) + 2) = ((2 : Nat) : Int) by rfl, show ((0 : Int) + 3) = ((3 : Nat) : Int) by rfl, show (0 : Int) = ((0 : Nat) : Int) by rfl, e0, e1, e2, e3]
  show wrd id fl % 256 + wrd id fl / 256 % 256 * 256 + wrd id fl / 65536 % 256 * 65536 + wrd id fl / 16777216 % 256 * 16777216 = wrd id fl
  omega

def mkf (fl : Int) : Int := if (Go.bits .and .i64 fl 16) = 0 then (if (Go.bits .and .i64 fl 32) = 0 then (if (Go.bits .and .i64 fl 8) = 0 then 0 else Go.bits .or .u8 0 4) else (if (Go.bits .and .i64 fl 8) = 0 then Go.bits .or .u8 0 2 else Go.bits .or .u8 (Go.bits .or .u8 0 2) 4))
  else (if (Go.bits .and .i64 fl 32) = 0 then (if (Go.bits .and .i64 fl 8) = 0 then Go.bits .or .u8 0 1 else Go.bits .or .u8 (Go.bits .or .u8 0 1) 4) else (if (Go.bits .and .i64 fl 8) = 0 then Go.bits .or .u8 (Go.bits .or .u8 0 1) 2 else Go.bits .or .u8 (Go.bits .or .u8 (Go.bits .or .u8 0 1) 2) 4))
theorem mkf_all : ∀ x : Fin 64, mkf (x.val : Int) = mrk (x.val : Int) ∧ (decide (Go.bits .and .u8 (mrk (x.val : Int)) 4 = 0) = !fD (x.val : Int))
    ∧ gsB (mrk (x.val : Int)) ((if fE (x.val : Int) = true then 1 else 0) + 2 * (if fR (x.val : Int) = true then 1 else 0) + 4 * (if fX (x.val : Int) = true then 1 else 0)) 3 = (x.val : Int)
    ∧ (decide (Go.bits .and .i64 (x.val : Int) 2 = 0) = !fR (x.val : Int)) := by decide +kernel
theorem mark_facts (fl : Int) (h0 : 0 ≤ fl) (h1 : fl ≤ 63) : mkf fl = mrk fl ∧ (decide (Go.bits .and .u8 (mrk fl) 4 = 0) = !fD fl)
    ∧ gsB (mrk fl) ((if fE fl = true then 1 else 0) + 2 * (if fR fl = true then 1 else 0) + 4 * (if fX fl = true then 1 else 0)) 3 = fl
    ∧ (decide (Go.bits .and .i64 fl 2 = 0) = !fR fl) := by
  have := mkf_all ⟨fl.toNat, by omega⟩
  have e : (fl.toNat : Int) = fl := by omega
  simpa only [e] using this
theorem mark_eq (k : Nat) (hk : 1 ≤ k) (id fl len : Int) (d : ByteArray) (h0 : 0 ≤ fl) (h1 : fl ≤ 63) : wire_mark.f k id fl len d = some (mrk fl) := by
  obtain ⟨k, rfl⟩ : ∃ m, k = m + 1 := ⟨k - 1, by omega⟩
  rw [← (mark_facts fl h0 h1).1]
  simp only [wire_mark.f, wire_mark.j0, mkf]
  split <;> split <;> split <;> rfl
theorem rep_zero : ∀ n : Nat, Lib.repeatL [(0 : UInt8)] n = List.replicate n 0
  | 0 => rfl
  | n + 1 => by
    show [(0 : UInt8)] ++ Lib.repeatL [(0 : UInt8)] n = _
    rw [rep_zero n]; rfl
theorem rep_eq (n : Nat) (h : n ≤ 100) : strings_Repeat.f (⟨#[0]⟩ : ByteArray) (n : Int) = some (strOfNums (List.replicate n 0)) := by
  unfold strings_Repeat.f
  rw [if_pos (by omega), if_pos (by omega), if_pos (by decide), Int.toNat_natCast]
  congr 1
  rw [show (⟨#[0]⟩ : ByteArray).data.toList = [(0 : UInt8)] from rfl, rep_zero]
  unfold strOfNums
  apply ByteArray.ext
  simp
theorem cat_size (a b : ByteArray) : (a ++ b).size = a.size + b.size := ByteArray.size_append
theorem enc_eq (k : Nat) (hk : 2 ≤ k) (id fl len : Int) (d : ByteArray) (h : rgt id fl len d = true) : wire_Encode.f k id fl len d = some (enc id fl len d, 0) := by
  obtain ⟨hf, i0, i1, hl, hz⟩ := rgt_facts id fl len d h
  have hg := flg_range fl hf
  have hs := size_small id fl len d h
  have hm := mark_facts fl hg.1 hg.2
  have hP : ∀ w : Int, octet_Put.f w = some (strOfNums [w % 256, w / 256 % 256, w / 65536 % 256, w / 16777216 % 256]) := fun _ => rfl
  have hcat : strOfNums [wrd id fl % 256, wrd id fl / 256 % 256, wrd id fl / 65536 % 256, wrd id fl / 16777216 % 256] ++ strOfNums [len % 256, mrk fl, 0, 0] = strOfNums (encH id fl len) := by rw [strOfNums_append]; rfl
  have s4 : ∀ a b c e : Int, (strOfNums [a, b, c, e]).size = 4 := fun a b c e => by rw [strOfNums_size]; rfl
  have s8 := encH_size id fl len
  unfold wire_Encode.f
  rw [right0 k (by omega) id fl len d h, ob, if_pos rfl, mark_eq k (by omega) id fl len d hg.1 hg.2, ob]
  cases hD : fD fl with
  | false =>
    have hw : wln fl = 16 := by unfold wln; rw [hD]; rfl
    rw [hw] at hs
    have c1 : Go.bits .and .u8 (mrk fl) 4 = 0 := by have := hm.2.1; rw [hD] at this; simpa using this
    rw [if_pos c1, word_eq k (by omega) id fl len d h, ob, hP, ob, ob, if_pos (by rw [s4, s4]; omega), hcat, if_pos (by rw [s8]; omega)]
    have hr : wrap64 (16 - ((strOfNums (encH id fl len) ++ d).size : Int)) = ((16 - (8 + d.size) : Nat) : Int) := by rw [cat_size, s8, w64 (by omega) (by omega)]; omega
    rw [hr, rep_eq _ (by omega), ob, if_pos (by rw [cat_size, s8, strOfNums_size, List.length_replicate]; omega)]
    unfold enc
    rw [hw]
  | true =>
    have hw : wln fl = 72 := by unfold wln; rw [hD]; rfl
    rw [hw] at hs
    have c1 : ¬ Go.bits .and .u8 (mrk fl) 4 = 0 := by have := hm.2.1; rw [hD] at this; simpa using this
    rw [if_neg c1, word_eq k (by omega) id fl len d h, ob, hP, ob, ob, if_pos (by rw [s4, s4]; omega), hcat, if_pos (by rw [s8]; omega)]
    have hr : wrap64 (72 - ((strOfNums (encH id fl len) ++ d).size : Int)) = ((72 - (8 + d.size) : Nat) : Int) := by rw [cat_size, s8, w64 (by omega) (by omega)]; omega
    rw [hr, rep_eq _ (by omega), ob, if_pos (by rw [cat_size, s8, strOfNums_size, List.length_replicate]; omega)]
    unfold enc
    rw [hw]
theorem enc_no (k : Nat) (hk : 2 ≤ k) (id fl len : Int) (d : ByteArray) (h : rgt id fl len d = false) : wire_Encode.f k id fl len d = some (⟨#[]⟩, 4) := by
  unfold wire_Encode.f
  rw [right4 k (by omega) id fl len d h, ob, if_neg (by decide)]

theorem num4_range (s : ByteArray) (i : Int) : 0 ≤ num4 s i ∧ num4 s i < 4294967296 := by
  have h0 := bt_range s i
  have h1 := bt_range s (i + 1)
  have h2 := bt_range s (i + 2)
  have h3 := bt_range s (i + 3)
  unfold num4
  omega
theorem gsA_eq (w : Int) (h0 : 0 ≤ w) (h1 : w < 4294967296) : gsA w 3 = ofl w := by
  have a31 : (Go.bits .and .u32 w 2147483648 = 0) = (w / 2147483648 % 2 = 0) := ad 31 (by decide) w h0 h1
  have a30 : (Go.bits .and .u32 w 1073741824 = 0) = (w / 1073741824 % 2 = 0) := ad 30 (by decide) w h0 h1
  have a29 : (Go.bits .and .u32 w 536870912 = 0) = (w / 536870912 % 2 = 0) := ad 29 (by decide) w h0 h1
  obtain ⟨o1, o2, o3, o4, o5, o6, o7⟩ := ors
  have s1 : gsA w 1 = if Go.bits .and .u32 w 2147483648 = 0 then 0 else Go.bits .or .i64 0 1 := rfl
  have s2 : gsA w 2 = if Go.bits .and .u32 w 1073741824 = 0 then gsA w 1 else Go.bits .or .i64 (gsA w 1) 2 := rfl
  have s3 : gsA w 3 = if Go.bits .and .u32 w 536870912 = 0 then gsA w 2 else Go.bits .or .i64 (gsA w 2) 4 := rfl
  rw [s3, s2, s1]
  simp only [a31, a30, a29, o1, ofl]
  have c31 : w / 2147483648 % 2 = 0 ∨ w / 2147483648 % 2 = 1 := by omega
  have c30 : w / 1073741824 % 2 = 0 ∨ w / 1073741824 % 2 = 1 := by omega
  have c29 : w / 536870912 % 2 = 0 ∨ w / 536870912 % 2 = 1 := by omega
  rcases c31 with h31 | h31 <;> rcases c30 with h30 | h30 <;> rcases c29 with h29 | h29 <;> simp only [h31, h30, h29, if_true, if_neg (show ¬ (1 : Int) = 0 by decide), o2, o3, o4, o5, o6, o7] <;> rfl
/-! What bytes may be of. -/
def gI (s : ByteArray) : Int := num4 s 0 % 536870912
def gF (s : ByteArray) : Int := gsB (bt s 5) (ofl (num4 s 0)) 3
def gD (s : ByteArray) : ByteArray := if Go.bits .and .i64 (gF s) 2 = 0 then s.extract 8 (min (8 + (bt s 4).toNat) s.size) else ⟨#[]⟩
theorem guess_eq (k : Nat) (hk : 6 ≤ k) (s : ByteArray) (h8 : 8 ≤ s.size) (hs : s.size ≤ 140737488351232) : wire_guess.f k s = some (gI s, gF s, bt s 4, gD s) := by
  have hr := num4_range s 0
  have hb := bt_range s 4
  have m1 : Go.bits .and .u32 (num4 s 0) 536870911 = num4 s 0 % 536870912 := bits_mask .u32 32 (by decide) wraps_u32 29 (by decide) _ hr.1 hr.2
  unfold wire_guess.f
  rw [get_ok k hk s hs 0 (by decide) (by omega), ob, if_pos h8]
  show some (wrap64 (Go.bits .and .u32 (num4 s 0) 536870911), gsB (bt s 5) (gsA (num4 s 0) 3) 3, wrap64 (bt s 4), if Go.bits .and .i64 (gsB (bt s 5) (gsA (num4 s 0) 3) 3) 2 = 0 then s.extract 8 (min (8 + (bt s 4).toNat) s.size) else ⟨#[]⟩) = _
  rw [m1, gsA_eq _ hr.1 hr.2, w64 (by omega) (by omega), w64 (by omega) (by omega)]
  rfl
theorem empty_of_size (d : ByteArray) (h : d.size = 0) : d = ⟨#[]⟩ := bytes_ext h (fun i hi => by omega)
theorem guess_enc (id fl len : Int) (d : ByteArray) (h : rgt id fl len d = true) : gI (enc id fl len d) = id ∧ gF (enc id fl len d) = fl ∧ bt (enc id fl len d) 4 = len ∧ gD (enc id fl len d) = d := by
  obtain ⟨hf, i0, i1, hl, hz⟩ := rgt_facts id fl len d h
  have hm := mst_le fl
  have hg := flg_range fl hf
  obtain ⟨s1, s2, s3, s4, s5⟩ := size_small id fl len d h
  obtain ⟨p1, p2, p3⟩ := wrd_parts id fl i0 (by omega)
  have mf := mark_facts fl hg.1 hg.2
  have e4 : bt (enc id fl len d) 4 = len := by
    have e : bt (enc id fl len d) ((4 : Nat) : Int) = len % 256 := enc_h id fl len d 4 (by decide)
    rw [show ((4 : Nat) : Int) = 4 from rfl] at e
    omega
  have e5 : bt (enc id fl len d) 5 = mrk fl := enc_h id fl len d 5 (by decide)
  have eF : gF (enc id fl len d) = fl := by
    unfold gF
    rw [enc_num id fl len d h, e5, p2]
    exact mf.2.2.1
  refine ⟨by unfold gI; rw [enc_num id fl len d h, p1], eF, e4, ?_⟩
  unfold gD
  rw [eF, e4, enc_size id fl len d h]
  have m4 := mf.2.2.2
  cases hR : fR fl with
  | true =>
    rw [hR] at m4 hz
    rw [if_neg (by simpa using m4)]
    rw [if_pos rfl] at hz
    exact (empty_of_size d (by omega)).symm
  | false =>
    rw [hR] at m4 hz
    rw [if_pos (by simpa using m4)]
    rw [if_neg (by decide)] at hz
    have hsz : (8 + len.toNat : Nat) = 8 + d.size := by omega
    rw [hsz, Nat.min_eq_left s1]
    have e := enc_size id fl len d h
    refine bytes_ext (by rw [ext_size, e]; omega) (fun i hi => ?_)
    rw [ext_size, e] at hi
    rw [bt_ext _ 8 _ i (by omega), enc_d id fl len d (8 + i) (by omega) (by omega), show 8 + i - 8 = i by omega]
theorem long_enc (id fl len : Int) (d : ByteArray) (h : rgt id fl len d = true) : wire_Long.f (enc id fl len d) = some (wln fl : Int) := by
  obtain ⟨hf, i0, i1, hl, hz⟩ := rgt_facts id fl len d h
  have hg := flg_range fl hf
  have mf := (mark_facts fl hg.1 hg.2).2.1
  have e5 : bt (enc id fl len d) 5 = mrk fl := enc_h id fl len d 5 (by decide)
  have e := enc_size id fl len d h
  unfold wire_Long.f
  unfold wln at e ⊢
  rw [e5]
  cases hD : fD fl with
  | true =>
    rw [hD] at mf e
    rw [if_pos rfl] at e
    rw [if_neg (by omega), if_pos (by omega), if_neg (by simpa using mf), if_pos rfl]; rfl
  | false =>
    rw [hD] at mf e
    rw [if_neg (by decide)] at e
    rw [if_neg (by omega), if_pos (by omega), if_pos (by simpa using mf), if_neg (by decide)]; rfl
theorem wln_ge (fl : Int) : 16 ≤ wln fl ∧ wln fl ≤ 72 := by unfold wln; split <;> omega
theorem dec_enc (k : Nat) (hk : 6 ≤ k) (id fl len : Int) (d : ByteArray) (h : rgt id fl len d = true) : wire_Decode.f k (enc id fl len d) = some (id, fl, len, d, 0) := by
  have e := enc_size id fl len d h
  have hw := wln_ge fl
  obtain ⟨g1, g2, g3, g4⟩ := guess_enc id fl len d h
  unfold wire_Decode.f
  rw [long_enc id fl len d h, ob, if_neg (by omega), if_pos (by rw [e]), guess_eq k hk _ (by omega) (by omega), ob, g1, g2, g3, g4]
  show (wire_Encode.f k id fl len d).bind _ = _
  rw [enc_eq k (by omega) id fl len d h, ob, if_pos rfl, ite_tl, if_pos rfl]
theorem dec_no (k : Nat) (hk : 6 ≤ k) (s : ByteArray) (hs : s.size ≤ 140737488351232) (hno : ∀ id fl len d, rgt id fl len d = true → enc id fl len d ≠ s) : wire_Decode.f k s = some (0, 0, 0, ⟨#[]⟩, 3) := by
  have hL : ∃ t, wire_Long.f s = some t ∧ (t = 0 ∨ t = 16 ∨ t = 72) := by
    unfold wire_Long.f
    by_cases h : (s.size : Int) ≤ 5
    · rw [if_pos h]; exact ⟨0, rfl, Or.inl rfl⟩
    · rw [if_neg h, if_pos (by omega)]
      split
      · exact ⟨16, rfl, Or.inr (Or.inl rfl)⟩
      · exact ⟨72, rfl, Or.inr (Or.inr rfl)⟩
  obtain ⟨t, ht, hv⟩ := hL
  unfold wire_Decode.f
  rw [ht, ob]
  by_cases h0 : t = 0
  · rw [if_pos h0]
  · rw [if_neg h0]
    by_cases hz : (s.size : Int) = t
    · rw [if_pos hz, guess_eq k hk s (by omega) hs, ob]
      show (wire_Encode.f k (gI s) (gF s) (bt s 4) (gD s)).bind _ = _
      cases hr : rgt (gI s) (gF s) (bt s 4) (gD s) with
      | true => rw [enc_eq k (by omega) _ _ _ _ hr, ob, if_pos rfl, ite_tl, if_neg (hno _ _ _ _ hr)]
      | false => rw [enc_no k (by omega) _ _ _ _ hr, ob, if_neg (by decide)]
    · rw [if_neg hz]

theorem wzero (s : ByteArray) (hs : s.size ≤ 1000) (m : Nat) : ∀ (k j : Nat), j + m = s.size → m + 1 ≤ k → ∃ b, signalboxref03_zero.f k s j s.size = some b ∧ (b = true ↔ ∀ i : Nat, j ≤ i → i < s.size → bt s i = 0) := by
  unfold signalboxref03_zero.f
  induction m with
  | zero =>
    intro k j hj hk
    obtain ⟨k, rfl⟩ : ∃ m, k = m + 1 := ⟨k - 1, by omega⟩
    simp only [signalboxref03_zero.l0]
    rw [if_neg (by omega)]
    exact ⟨true, rfl, fun _ i h1 h2 => by omega, fun _ => rfl⟩
  | succ m ih =>
    intro k j hj hk
    obtain ⟨k, rfl⟩ : ∃ m, k = m + 1 := ⟨k - 1, by omega⟩
    simp only [signalboxref03_zero.l0]
    rw [if_pos (by omega), if_pos (by omega), if_pos (by omega)]
    by_cases h : bt s j = 0
    · rw [if_pos h, up1 j (by omega)]
      obtain ⟨b, hb, hi⟩ := ih k (j + 1) (by omega) (by omega)
      refine ⟨b, hb, hi.trans ⟨fun q i h1 h2 => ?_, fun q i h1 h2 => q i (by omega) h2⟩⟩
      by_cases e : i = j
      · rw [e]; exact h
      · exact q i (by omega) h2
    · rw [if_neg h]
      exact ⟨false, rfl, fun q => absurd q (by decide), fun q => absurd (q j (Nat.le_refl _) (by omega)) h⟩
def no5 : Int × Int × Int × ByteArray × Bool := (0, 0, 0, ⟨#[]⟩, false)
theorem wj4 (s : ByteArray) (hs8 : 8 ≤ s.size) (hs : s.size ≤ 1000) (k : Nat) (hk : s.size + 10 ≤ k) (x : Bool) (id fl len : Int) (d : ByteArray) (hf : x = true → 0 ≤ fl ∧ fl ≤ 63) :
    ∃ b, signalboxref03_Decode.j4 k s x id fl len d = some (if b = true then (id, fl, len, d, true) else no5) ∧ (b = true ↔ x = true ∧ (fR fl = true → ∀ i : Nat, 8 ≤ i → i < s.size → bt s i = 0)) := by
  obtain ⟨k, rfl⟩ : ∃ m, k = m + 1 := ⟨k - 1, by omega⟩
  simp only [signalboxref03_Decode.j4]
  cases x with
  | false => exact ⟨false, by rw [if_neg (by decide)]; rfl, fun q => absurd q (by decide), fun q => absurd q.1 (by decide)⟩
  | true =>
    obtain ⟨f0, f1⟩ := hf rfl
    rw [if_pos rfl, (rhas id fl len d f0 f1).2.1, ob]
    cases hR : fR fl with
    | false => exact ⟨true, by rw [if_neg (by decide)]; rfl, fun _ => ⟨rfl, fun q => absurd q (by decide)⟩, fun _ => rfl⟩
    | true =>
      obtain ⟨b, hb, hi⟩ := wzero s hs (s.size - 8) k 8 (by omega) (by omega)
      rw [if_pos rfl]
      rw [show ((8 : Nat) : Int) = 8 from rfl] at hb
      rw [hb, ob]
      refine ⟨b, ?_, fun q => ⟨rfl, fun _ => hi.mp q⟩, fun q => hi.mpr (q.2 rfl)⟩
      cases b <;> rfl
theorem wj3 (s : ByteArray) (hs8 : 8 ≤ s.size) (hs : s.size ≤ 1000) (k : Nat) (hk : s.size + 50 ≤ k) (W m id x n : Int) (y : ByteArray) (hW : 0 ≤ W ∧ W < 4294967296) (hm : 0 ≤ m ∧ m ≤ 255) (hx : x = 8 ∨ x = 9) :
    ∃ b, signalboxref03_Decode.j3 k s W m id x n y = some (if b = true then (id, x + 16 * (m % 2) + 32 * (m / 2 % 2), n, y, true) else no5) ∧ (b = true ↔ rgt id (x + 16 * (m % 2) + 32 * (m / 2 % 2)) n y = true ∧ W / 536870912 % 4 = 0) := by
  obtain ⟨k, rfl⟩ : ∃ m, k = m + 1 := ⟨k - 1, by omega⟩
  have hWe : ((((Int.tdiv W 536870912) % 4294967296) % 4) == 0) = decide (W / 536870912 % 4 = 0) := by
    rw [Int.tdiv_eq_ediv_of_nonneg hW.1, Bool.eq_iff_iff, beq_iff_eq, decide_eq_true_eq]; omega
  have hend : ∀ F, 0 ≤ F → F ≤ 63 → fR F = false → ∃ b, ((signalboxref02_Right.f k id F n y).bind fun t => if t = true then (signalboxref03_Decode.j4 k s ((((Int.tdiv W 536870912) % 4294967296) % 4) == 0) id F n y) else (signalboxref03_Decode.j4 k s false id F n y)) = some (if b = true then (id, F, n, y, true) else no5) ∧ (b = true ↔ rgt id F n y = true ∧ W / 536870912 % 4 = 0) := by
    intro F F0 F1 hR
    rw [rright_eq k (by omega), ob, hWe]
    cases hr : rgt id F n y with
    | true =>
      rw [if_pos rfl]
      obtain ⟨b, hb, hi⟩ := wj4 s hs8 hs k (by omega) (decide (W / 536870912 % 4 = 0)) id F n y (fun _ => ⟨F0, F1⟩)
      refine ⟨b, hb, hi.trans ⟨fun q => ⟨rfl, by simpa using q.1⟩, fun q => ⟨by simpa using q.2, fun z => ?_⟩⟩⟩
      rw [hR] at z; exact absurd z (by decide)
    | false =>
      rw [if_neg (by decide)]
      obtain ⟨b, hb, hi⟩ := wj4 s hs8 hs k (by omega) false id F n y (fun q => absurd q (by decide))
      exact ⟨b, hb, hi.trans ⟨fun q => absurd q.1 (by decide), fun q => absurd q.1 (by decide)⟩⟩
  have m2 : Int.tmod m 2 = m % 2 := Int.tmod_eq_emod_of_nonneg hm.1
  have m3 : Int.tmod (wrap64 (Int.tdiv m 2)) 2 = m / 2 % 2 := by
    rw [Int.tdiv_eq_ediv_of_nonneg hm.1, w64 (by omega) (by omega), Int.tmod_eq_emod_of_nonneg (by omega)]
  have w2 : wrap64 (x + 16) = x + 16 := w64 (by omega) (by omega)
  have w3 : wrap64 (x + 16 + 32) = x + 16 + 32 := w64 (by omega) (by omega)
  have w4 : wrap64 (x + 32) = x + 32 := w64 (by omega) (by omega)
  simp only [signalboxref03_Decode.j3, m2, m3, w2, w3, w4]
  have c1 : m % 2 = 0 ∨ m % 2 = 1 := by omega
  have c2 : m / 2 % 2 = 0 ∨ m / 2 % 2 = 1 := by omega
  have hR : ∀ a b : Int, (a = 0 ∨ a = 1) → (b = 0 ∨ b = 1) → fR (x + 16 * a + 32 * b) = false := by
    intro a b ha hb
    rcases ha with rfl | rfl <;> rcases hb with rfl | rfl <;> rcases hx with rfl | rfl <;> decide
  have h := fun F (e : F = x + 16 * (m % 2) + 32 * (m / 2 % 2)) => hend F (by omega) (by omega) (by rw [e]; exact hR _ _ c1 c2)
  rcases c1 with d1 | d1 <;> rcases c2 with d2 | d2 <;> rw [d1, d2] at h ⊢
  · have e : x + 16 * 0 + 32 * 0 = x := by omega
    rw [e] at h ⊢
    rw [if_neg (by decide), if_neg (by decide)]; exact h x rfl
  · have e : x + 16 * 0 + 32 * 1 = x + 32 := by omega
    rw [e] at h ⊢
    rw [if_neg (by decide), if_pos rfl]; exact h _ rfl
  · have e : x + 16 * 1 + 32 * 0 = x + 16 := by omega
    rw [e] at h ⊢
    rw [if_pos rfl, if_neg (by decide)]; exact h _ rfl
  · have e : x + 16 * 1 + 32 * 1 = x + 16 + 32 := by omega
    rw [e] at h ⊢
    rw [if_pos rfl, if_pos rfl]; exact h _ rfl

def rF (s : ByteArray) : Int := if s.size = 72 then (if num4 s 0 ≥ 2147483648 then 9 else 8) + 16 * (bt s 5 % 2) + 32 * (bt s 5 / 2 % 2) else ofl (num4 s 0)
def rY (s : ByteArray) : ByteArray := if s.size = 72 then s.extract 8 (8 + (bt s 4).toNat) else ofd (num4 s 0) (s.extract 8 (8 + (bt s 4).toNat))
/-- May bytes be read? -/
structure rC (s : ByteArray) : Prop where
  z6 : bt s 6 = 0
  z7 : bt s 7 = 0
  fd : s.size = 72 ↔ bt s 5 / 4 = 1
  m0 : s.size = 16 → bt s 5 = 0
  m7 : bt s 5 ≤ 7
  n : bt s 4 ≤ s.size - 8
  z : ∀ i : Nat, 8 + (bt s 4).toNat ≤ i → i < s.size → bt s i = 0
  r : rgt (gI s) (rF s) (bt s 4) (rY s) = true
  w : s.size = 72 → num4 s 0 / 536870912 % 4 = 0
  rtr : fR (rF s) = true → ∀ i : Nat, 8 ≤ i → i < s.size → bt s i = 0
theorem out_no {X : Option (Int × Int × Int × ByteArray × Bool)} {s : ByteArray} {f : Int × Int × Int × ByteArray × Bool} (h : X = some no5) (hn : ¬ rC s) : ∃ b, X = some (if b = true then f else no5) ∧ (b = true ↔ rC s) :=
  ⟨false, by rw [h]; rfl, fun q => absurd q (by decide), fun q => absurd q hn⟩
theorem ofl_range (w : Int) : 0 ≤ ofl w ∧ ofl w ≤ 7 := by unfold ofl; omega
theorem rdec_eq (s : ByteArray) (hz : s.size = 16 ∨ s.size = 72) (k : Nat) (hk : 1000 ≤ k) : ∃ b, signalboxref03_Decode.j0 k s false = some (if b = true then (gI s, rF s, bt s 4, rY s, true) else no5) ∧ (b = true ↔ rC s) := by
  obtain ⟨k, rfl⟩ : ∃ m, k = m + 3 := ⟨k - 3, by omega⟩
  have b4 := bt_range s 4
  have b5 := bt_range s 5
  have hW := num4_range s 0
  have w4 : wrap64 (bt s 4) = bt s 4 := w64 (by omega) (by omega)
  have w5 : wrap64 (bt s 5) = bt s 5 := w64 (by omega) (by omega)
  have d5 : wrap64 (Int.tdiv (bt s 5) 4) = bt s 5 / 4 := by rw [Int.tdiv_eq_ediv_of_nonneg b5.1]; exact w64 (by omega) (by omega)
  have ws : wrap64 ((s.size : Int) - 8) = (s.size : Int) - 8 := w64 (by omega) (by omega)
  have wn : wrap64 (8 + bt s 4) = 8 + bt s 4 := w64 (by omega) (by omega)
  have hs72 : ((s.size : Int) == 72) = decide (s.size = 72) := by rw [Bool.eq_iff_iff, beq_iff_eq, decide_eq_true_eq]; omega
  have hm1 : (bt s 5 / 4 == 1) = decide (bt s 5 / 4 = 1) := rfl
  have j1t : ∀ W n m fd, signalboxref03_Decode.j1 (k + 2) s W n m fd true = some no5 := fun W n m fd => by simp only [signalboxref03_Decode.j1]; rw [if_pos trivial]; rfl
  have j2t : ∀ W n m fd, signalboxref03_Decode.j2 (k + 1) s W n m fd true = some no5 := fun W n m fd => by simp only [signalboxref03_Decode.j2]; rw [if_pos trivial]; rfl
  simp only [signalboxref03_Decode.j0, w4, w5, d5, hs72, hm1]
  rw [if_neg (by decide), rget_ok (k + 2) (by omega) s (by omega) 0 (by decide) (by omega), ob, if_pos (by omega), if_pos (by omega), if_pos (by omega)]
  by_cases h6 : bt s 6 = 0
  · rw [if_pos h6, if_pos (by omega)]
    by_cases h7 : bt s 7 = 0
    · rw [if_pos h7]
      have main : (s.size = 72 ↔ bt s 5 / 4 = 1) → (s.size = 16 → bt s 5 = 0) → bt s 5 ≤ 7 → ∃ b, signalboxref03_Decode.j1 (k + 2) s (num4 s 0) (bt s 4) (bt s 5) (decide (s.size = 72)) false = some (if b = true then (gI s, rF s, bt s 4, rY s, true) else no5) ∧ (b = true ↔ rC s) := by
        intro hfd hm0 hm7
        simp only [signalboxref03_Decode.j1, ws, wn]
        rw [if_neg (by decide)]
        by_cases hn : bt s 4 > (s.size : Int) - 8
        · rw [if_pos hn, j2t]
          exact out_no rfl (fun c => by have := c.n; omega)
        · rw [if_neg hn]
          obtain ⟨b, hb, hi⟩ := wzero s (by omega) (s.size - (8 + (bt s 4).toNat)) (k + 1) (8 + (bt s 4).toNat) (by omega) (by omega)
          have en : ((8 + (bt s 4).toNat : Nat) : Int) = 8 + bt s 4 := by omega
          rw [en] at hb
          rw [hb, ob]
          cases b with
          | false => rw [Bool.not_false, j2t]; exact out_no rfl (fun c => absurd (hi.mpr c.z) (by decide))
          | true =>
            have hzz := hi.mp rfl
            rw [Bool.not_true]
            simp only [signalboxref03_Decode.j2, wn]
            have et : (8 + bt s 4).toNat = 8 + (bt s 4).toNat := by omega
            have ey : ((s.extract 8 (8 + (bt s 4).toNat)).size : Int) = bt s 4 := by rw [ext_size]; omega
            rw [if_neg (by decide), if_pos (by omega), if_pos (by omega), et, rof_eq k (by omega) _ hW.1 hW.2, ob]
            have mI : wrap64 (Int.tmod (num4 s 0) 536870912) = gI s := by rw [Int.tmod_eq_emod_of_nonneg hW.1]; exact w64 (by omega) (by omega)
            by_cases h72 : s.size = 72
            · rw [decide_eq_true h72, if_pos rfl, mI]
              have hF : rF s = (if num4 s 0 ≥ 2147483648 then 9 else 8) + 16 * (bt s 5 % 2) + 32 * (bt s 5 / 2 % 2) := by unfold rF; rw [if_pos h72]
              have hY : rY s = s.extract 8 (8 + (bt s 4).toNat) := by unfold rY; rw [if_pos h72]
              have h3 : ∀ x : Int, (x = if num4 s 0 ≥ 2147483648 then 9 else 8) → ∃ b, signalboxref03_Decode.j3 k s (num4 s 0) (bt s 5) (gI s) x (bt s 4) (s.extract 8 (8 + (bt s 4).toNat)) = some (if b = true then (gI s, rF s, bt s 4, rY s, true) else no5) ∧ (b = true ↔ rC s) := by
                intro x hx
                obtain ⟨b, hb, hi⟩ := wj3 s (by omega) (by omega) k (by omega) (num4 s 0) (bt s 5) (gI s) x (bt s 4) (s.extract 8 (8 + (bt s 4).toNat)) hW b5 (by rw [hx]; split <;> omega)
                rw [hx, ← hF, ← hY] at hb hi
                refine ⟨b, by rw [hx, ← hY]; exact hb, hi.trans ⟨fun q => ⟨h6, h7, hfd, hm0, hm7, by omega, hzz, q.1, fun _ => q.2, fun z => ?_⟩, fun c => ⟨c.r, c.w h72⟩⟩⟩
                have hR : fR (rF s) = false := by
                  have c1 : bt s 5 % 2 = 0 ∨ bt s 5 % 2 = 1 := by omega
                  have c2 : bt s 5 / 2 % 2 = 0 ∨ bt s 5 / 2 % 2 = 1 := by omega
                  rw [hF]
                  rcases c1 with d1 | d1 <;> rcases c2 with d2 | d2 <;> rw [d1, d2] <;> split <;> decide
                rw [hR] at z; exact absurd z (by decide)
              by_cases hg : num4 s 0 ≥ 2147483648
              · rw [if_pos hg]; exact h3 9 (by rw [if_pos hg])
              · rw [if_neg hg]; exact h3 8 (by rw [if_neg hg])
            · rw [decide_eq_false h72, if_neg (by decide), ey]
              have hF : rF s = ofl (num4 s 0) := by unfold rF; rw [if_neg h72]
              have hY : rY s = ofd (num4 s 0) (s.extract 8 (8 + (bt s 4).toNat)) := by unfold rY; rw [if_neg h72]
              have hor := ofl_range (num4 s 0)
              rw [← hF, ← hY]
              have hI : num4 s 0 % 536870912 = gI s := rfl
              rw [hI]
              cases hr : rgt (gI s) (rF s) (bt s 4) (rY s) with
              | true =>
                rw [if_pos (rfl : true = true)]
                obtain ⟨b, hb, hi⟩ := wj4 s (by omega) (by omega) k (by omega) true (gI s) (rF s) (bt s 4) (rY s) (fun _ => by rw [hF]; omega)
                exact ⟨b, hb, hi.trans ⟨fun q => ⟨h6, h7, hfd, hm0, hm7, by omega, hzz, hr, fun q => absurd q h72, q.2⟩, fun c => ⟨rfl, c.rtr⟩⟩⟩
              | false =>
                rw [if_neg (show ¬ (false = true) by decide)]
                obtain ⟨b, hb, hi⟩ := wj4 s (by omega) (by omega) k (by omega) false 0 0 0 ⟨#[]⟩ (fun q => absurd q (by decide))
                have hbf : b = false := by cases b; rfl; exact absurd (hi.mp rfl).1 (by decide)
                subst hbf
                exact out_no hb (fun c => by have := c.r; rw [hr] at this; exact absurd this (by decide))
      by_cases hfd : s.size = 72 ↔ bt s 5 / 4 = 1
      · rw [if_neg (by simp [hfd])]
        by_cases h72 : s.size = 72
        · rw [if_pos (by omega)]
          by_cases hm7 : bt s 5 > 7
          · rw [decide_eq_true hm7, j1t]; exact out_no rfl (fun c => by have := c.m7; omega)
          · rw [decide_eq_false hm7]; exact main hfd (fun q => by omega) (by omega)
        · rw [if_neg (by omega)]
          by_cases h5 : bt s 5 = 0
          · rw [if_pos h5, decide_eq_false (show ¬ bt s 5 > 7 by omega)]; exact main hfd (fun _ => h5) (by omega)
          · rw [if_neg h5, j1t]; exact out_no rfl (fun c => h5 (c.m0 (by omega)))
      · rw [if_pos (by simpa using hfd), j1t]; exact out_no rfl (fun c => hfd c.fd)
    · rw [if_neg h7, j1t]; exact out_no rfl (fun c => h7 c.z7)
  · rw [if_neg h6, j1t]; exact out_no rfl (fun c => h6 c.z6)

theorem b4_enc (x : Int) : x / 256 % 256 = x / 256 % 256 := rfl
/-- What may be read is what was laid. -/
theorem rC_enc (s : ByteArray) (hz : s.size = 16 ∨ s.size = 72) (c : rC s) : enc (gI s) (rF s) (bt s 4) (rY s) = s := by
  have b0 := bt_range s 0
  have b1 := bt_range s 1
  have b2 := bt_range s 2
  have b3 := bt_range s 3
  have b4 := bt_range s 4
  have b5 := bt_range s 5
  have hW := num4_range s 0
  have hn4 : num4 s 0 = bt s 0 + bt s 1 * 256 + bt s 2 * 65536 + bt s 3 * 16777216 := rfl
  obtain ⟨hf, i0, i1, hl, hsz⟩ := rgt_facts _ _ _ _ c.r
  have hg := flg_range _ hf
  have hgI : gI s = num4 s 0 % 536870912 := rfl
  have hw : wrd (gI s) (rF s) = num4 s 0 ∧ mrk (rF s) = bt s 5 ∧ wln (rF s) = s.size := by
    unfold wrd mrk wln
    rw [hgI]
    by_cases h72 : s.size = 72
    · have hF : rF s = (if num4 s 0 ≥ 2147483648 then 9 else 8) + 16 * (bt s 5 % 2) + 32 * (bt s 5 / 2 % 2) := by unfold rF; rw [if_pos h72]
      have h4 := c.fd.mp h72
      have h7 := c.m7
      have hw := c.w h72
      have c1 : bt s 5 % 2 = 0 ∨ bt s 5 % 2 = 1 := by omega
      have c2 : bt s 5 / 2 % 2 = 0 ∨ bt s 5 / 2 % 2 = 1 := by omega
      unfold fE fR fX fB fS fD
      simp only [decide_eq_true_eq]
      rw [hF]
      refine ⟨?_, ?_, ?_⟩ <;> by_cases hg : num4 s 0 ≥ 2147483648 <;> simp only [hg, if_true, if_false] <;> rcases c1 with d1 | d1 <;> rcases c2 with d2 | d2 <;> rw [d1, d2] <;> simp <;> omega
    · have hF : rF s = ofl (num4 s 0) := by unfold rF; rw [if_neg h72]
      obtain ⟨f1, f2, f3⟩ := ofl_facts (num4 s 0)
      have hor := ofl_range (num4 s 0)
      have hD : fD (rF s) = false := by rw [hF]; unfold fD; rw [decide_eq_false_iff_not]; omega
      have hB : fB (rF s) = false := by rw [hF]; unfold fB; rw [decide_eq_false_iff_not]; omega
      have hS : fS (rF s) = false := by rw [hF]; unfold fS; rw [decide_eq_false_iff_not]; omega
      have h5 := c.m0 (by omega)
      rw [hD, hB, hS, hF, f1, f2, f3, h5]
      refine ⟨?_, by simp, by simp; omega⟩
      have c31 : num4 s 0 / 2147483648 % 2 = 0 ∨ num4 s 0 / 2147483648 % 2 = 1 := by omega
      have c30 : num4 s 0 / 1073741824 % 2 = 0 ∨ num4 s 0 / 1073741824 % 2 = 1 := by omega
      have c29 : num4 s 0 / 536870912 % 2 = 0 ∨ num4 s 0 / 536870912 % 2 = 1 := by omega
      rcases c31 with h31 | h31 <;> rcases c30 with h30 | h30 <;> rcases c29 with h29 | h29 <;> rw [h31, h30, h29] <;> simp <;> omega
  obtain ⟨hw1, hw2, hw3⟩ := hw
  have hlen := size_small _ _ _ _ c.r
  have hes := enc_size _ _ _ _ c.r
  have hYs : (rY s).size = 0 ∨ (rY s = s.extract 8 (8 + (bt s 4).toNat)) := by
    unfold rY
    by_cases h72 : s.size = 72
    · rw [if_pos h72]; exact Or.inr rfl
    · rw [if_neg h72]; unfold ofd; split
      · exact Or.inr rfl
      · exact Or.inl rfl
  refine bytes_ext (by rw [hes, hw3]) (fun i hi => ?_)
  rw [hes, hw3] at hi
  by_cases h8 : i < 8
  · rw [enc_h _ _ _ _ i h8]
    have hc : i = 0 ∨ i = 1 ∨ i = 2 ∨ i = 3 ∨ i = 4 ∨ i = 5 ∨ i = 6 ∨ i = 7 := by omega
    rcases hc with rfl | rfl | rfl | rfl | rfl | rfl | rfl | rfl
    · show wrd (gI s) (rF s) % 256 = bt s 0; rw [hw1, hn4]; omega
    · show wrd (gI s) (rF s) / 256 % 256 = bt s 1; rw [hw1, hn4]; omega
    · show wrd (gI s) (rF s) / 65536 % 256 = bt s 2; rw [hw1, hn4]; omega
    · show wrd (gI s) (rF s) / 16777216 % 256 = bt s 3; rw [hw1, hn4]; omega
    · show bt s 4 % 256 = bt s 4; omega
    · exact hw2
    · exact c.z6.symm
    · exact c.z7.symm
  · by_cases hd : i < 8 + (rY s).size
    · rw [enc_d _ _ _ _ i (by omega) hd]
      rcases hYs with h | h
      · omega
      · rw [h] at hd ⊢
        rw [ext_size] at hd
        rw [bt_ext s 8 _ _ (by omega), show 8 + (i - 8) = i by omega]
    · rw [enc_z _ _ _ _ i (by omega)]
      cases hR : fR (rF s) with
      | true => exact (c.rtr hR i (by omega) (by omega)).symm
      | false =>
        rw [hR, if_neg (by decide)] at hsz
        exact (c.z i (by omega) (by omega)).symm

/-- What was laid may be read, and is what was laid. -/
theorem enc_rC (id fl len : Int) (d : ByteArray) (h : rgt id fl len d = true) : rC (enc id fl len d) ∧ rF (enc id fl len d) = fl ∧ rY (enc id fl len d) = d := by
  obtain ⟨hf, i0, i1, hl, hz⟩ := rgt_facts id fl len d h
  have hm := mst_le fl
  have hg := flg_range fl hf
  have hr := wrd_range id fl i0 (by omega)
  obtain ⟨s1, s2, s3, s4, s5⟩ := size_small id fl len d h
  obtain ⟨p1, p2, p3⟩ := wrd_parts id fl i0 (by omega)
  obtain ⟨g1, g2, g3, g4⟩ := guess_enc id fl len d h
  have hn := enc_num id fl len d h
  have hsz := enc_size id fl len d h
  have e5 : bt (enc id fl len d) 5 = mrk fl := enc_h id fl len d 5 (by decide)
  have e6 : bt (enc id fl len d) 6 = 0 := enc_h id fl len d 6 (by decide)
  have e7 : bt (enc id fl len d) 7 = 0 := enc_h id fl len d 7 (by decide)
  have hmk := mrk_range fl
  have hex : fR fl = false → (enc id fl len d).extract 8 (8 + len.toNat) = d := by
    intro hR
    rw [hR, if_neg (by decide)] at hz
    refine bytes_ext (by rw [ext_size, hsz]; omega) (fun i hi => ?_)
    rw [ext_size, hsz] at hi
    rw [bt_ext _ 8 _ i (by omega), enc_d id fl len d (8 + i) (by omega) (by omega), show 8 + i - 8 = i by omega]
  have hF : rF (enc id fl len d) = fl ∧ (wln fl = 72 → fR fl = false ∧ wrd id fl / 536870912 % 4 = 0) ∧ (wln fl = 72 ↔ mrk fl / 4 = 1) ∧ (wln fl = 16 → mrk fl = 0) := by
    unfold rF
    rw [hsz, hn, e5]
    have hfl := hf
    unfold flg at hfl
    simp only [Bool.and_eq_true, decide_eq_true_eq] at hfl
    have hall : ∀ x : Fin 64, flg (x.val : Int) = true →
      (wln (x.val : Int) = 72 → fR (x.val : Int) = false ∧ fX (x.val : Int) = false ∧ (if fE (x.val : Int) = true then 9 else 8) + 16 * (mrk (x.val : Int) % 2) + 32 * (mrk (x.val : Int) / 2 % 2) = (x.val : Int)) ∧ (wln (x.val : Int) = 16 → mrk (x.val : Int) = 0 ∧ (if fE (x.val : Int) = true then 1 else 0) + 2 * (if fR (x.val : Int) = true then 1 else 0) + 4 * (if fX (x.val : Int) = true then 1 else 0) = (x.val : Int)) ∧ (wln (x.val : Int) = 72 ↔ mrk (x.val : Int) / 4 = 1) := by decide +kernel
    have ha := hall ⟨fl.toNat, by omega⟩
    have e : (fl.toNat : Int) = fl := by omega
    simp only [e] at ha
    obtain ⟨a1, a2, a3⟩ := ha hf
    have hwl : wln fl = 16 ∨ wln fl = 72 := by unfold wln; split <;> omega
    refine ⟨?_, ?_, a3, fun q => (a2 q).1⟩
    · by_cases h72 : wln fl = 72
      · obtain ⟨c1, c2, c3⟩ := a1 h72
        rw [if_pos h72]
        have hge : (wrd id fl ≥ 2147483648) ↔ fE fl = true := by
          unfold wrd
          rw [c1, c2]
          cases fE fl <;> simp <;> omega
        simp only [hge]
        exact c3
      · rw [if_neg h72, p2]; exact (a2 (by omega)).2
    · intro h72
      obtain ⟨c1, c2, c3⟩ := a1 h72
      refine ⟨c1, ?_⟩
      unfold wrd
      rw [c1, c2]
      cases fE fl <;> simp <;> omega
  obtain ⟨hF1, hF2, hF3, hF4⟩ := hF
  have hY : rY (enc id fl len d) = d := by
    unfold rY
    rw [hsz, hn, g3]
    by_cases h72 : wln fl = 72
    · rw [if_pos h72]; exact hex (hF2 h72).1
    · rw [if_neg h72]
      unfold ofd
      cases hR : fR fl with
      | false => rw [if_pos (p3.mpr hR)]; exact hex hR
      | true =>
        rw [if_neg (fun q => by rw [p3.mp q] at hR; exact absurd hR (by decide))]
        rw [hR, if_pos rfl] at hz
        exact (empty_of_size d (by omega)).symm
  refine ⟨⟨e6, e7, by rw [hsz, e5]; exact hF3, fun q => by rw [hsz] at q; rw [e5]; exact hF4 q, by rw [e5]; omega, by rw [g3, hsz]; omega, fun i q1 q2 => ?_, by rw [hF1, hY, g3]; rw [g1]; exact h, fun q => by rw [hsz] at q; rw [hn]; exact (hF2 q).2, fun q i q1 q2 => ?_⟩, hF1, hY⟩
  · rw [g3] at q1
    exact enc_z id fl len d i (by omega)
  · rw [hF1] at q
    rw [q, if_pos rfl] at hz
    exact enc_z id fl len d i (by omega)
theorem rdec_enc (k : Nat) (hk : 1000 ≤ k) (id fl len : Int) (d : ByteArray) (h : rgt id fl len d = true) : signalboxref03_Decode.f k (enc id fl len d) = some (id, fl, len, d, true) := by
  have hsz := enc_size id fl len d h
  have hwl : wln fl = 16 ∨ wln fl = 72 := by unfold wln; split <;> omega
  obtain ⟨c, hF, hY⟩ := enc_rC id fl len d h
  obtain ⟨g1, g2, g3, g4⟩ := guess_enc id fl len d h
  obtain ⟨b, hb, hi⟩ := rdec_eq (enc id fl len d) (by omega) k hk
  rw [hi.mpr c, if_pos rfl, g1, hF, g3, hY] at hb
  unfold signalboxref03_Decode.f
  by_cases h16 : ((enc id fl len d).size : Int) = 16
  · rw [if_pos h16]; exact hb
  · rw [if_neg h16]
    have : ((enc id fl len d).size : Int) = 72 := by omega
    rw [this]; exact hb
theorem rdec_no (k : Nat) (hk : 1000 ≤ k) (s : ByteArray) (hno : ∀ id fl len d, rgt id fl len d = true → enc id fl len d ≠ s) : signalboxref03_Decode.f k s = some no5 := by
  have hj : (s.size = 16 ∨ s.size = 72) → signalboxref03_Decode.j0 k s false = some no5 := by
    intro hz
    obtain ⟨b, hb, hi⟩ := rdec_eq s hz k hk
    cases b with
    | false => exact hb
    | true => exact absurd (rC_enc s hz (hi.mp rfl)) (hno _ _ _ _ (hi.mp rfl).r)
  unfold signalboxref03_Decode.f
  by_cases h16 : (s.size : Int) = 16
  · rw [if_pos h16]; exact hj (by omega)
  · rw [if_neg h16]
    by_cases h72 : (s.size : Int) = 72
    · rw [h72]; exact hj (by omega)
    · obtain ⟨k, rfl⟩ : ∃ m, k = m + 1 := ⟨k - 1, by omega⟩
      have : ((s.size : Int) != 72) = true := by simpa using h72
      rw [this]
      simp only [signalboxref03_Decode.j0]
      rw [if_pos trivial]; rfl

theorem long_bit : ∀ x : Fin 256, decide (Go.bits .and .u8 (x.val : Int) 4 = 0) = !decide ((x.val : Int) / 4 % 2 = 1) := by decide +kernel
theorem long_same (s : ByteArray) : ∃ t, wire_Long.f s = some t ∧ signalboxref03_Long.f s = some t := by
  have hb := bt_range s 5
  unfold wire_Long.f signalboxref03_Long.f
  by_cases h : (s.size : Int) ≤ 5
  · exact ⟨0, by rw [if_pos h], by rw [if_pos (by omega)]⟩
  · rw [if_neg h, if_neg (show ¬ (s.size : Int) < 6 by omega), if_pos (show 5 < (s.size : Int) by omega)]
    have w5 : wrap64 (bt s 5) = bt s 5 := w64 (by omega) (by omega)
    have d5 : Int.tmod (wrap64 (Int.tdiv (bt s 5) 4)) 2 = bt s 5 / 4 % 2 := by
      rw [Int.tdiv_eq_ediv_of_nonneg hb.1, w64 (by omega) (by omega), Int.tmod_eq_emod_of_nonneg (by omega)]
    rw [w5, d5]
    have hl := long_bit ⟨(bt s 5).toNat, by omega⟩
    have e : ((bt s 5).toNat : Int) = bt s 5 := by omega
    simp only [e] at hl
    by_cases c : bt s 5 / 4 % 2 = 1
    · have : ¬ Go.bits .and .u8 (bt s 5) 4 = 0 := by
        rw [decide_eq_true c] at hl; simpa using hl
      exact ⟨72, by rw [if_neg this], by rw [if_pos (show 5 < (s.size : Int) by omega), if_pos c]⟩
    · have : Go.bits .and .u8 (bt s 5) 4 = 0 := by
        rw [decide_eq_false c] at hl; simpa using hl
      exact ⟨16, by rw [if_pos this], by rw [if_pos (show 5 < (s.size : Int) by omega), if_neg c]⟩

theorem enc_inj (i1 f1 l1 i2 f2 l2 : Int) (d1 d2 : ByteArray) (h1 : rgt i1 f1 l1 d1 = true) (h2 : rgt i2 f2 l2 d2 = true) (h : enc i1 f1 l1 d1 = enc i2 f2 l2 d2) : i1 = i2 ∧ f1 = f2 ∧ l1 = l2 ∧ d1 = d2 := by
  obtain ⟨a1, a2, a3, a4⟩ := guess_enc i1 f1 l1 d1 h1
  obtain ⟨b1, b2, b3, b4⟩ := guess_enc i2 f2 l2 d2 h2
  rw [h] at a1 a2 a3 a4
  exact ⟨a1.symm.trans b1, a2.symm.trans b2, a3.symm.trans b3, a4.symm.trans b4⟩

def encS (x : S23) : ByteArray := enc x.f0 x.f1 x.f2 x.f3
def rgtS (x : S23) : Bool := rgt x.f0 x.f1 x.f2 x.f3
def wlnS (x : S23) : Nat := wln x.f1
/-- The bytes of the first so many frames, one behind the other. -/
def encT (l : List S23) : Nat → ByteArray
  | 0 => ⟨#[]⟩
  | n + 1 => encT l n ++ encS (rd_T23 l n)
theorem encS_size (x : S23) (h : rgtS x = true) : (encS x).size = wlnS x := enc_size _ _ _ _ h
theorem wlnS_ge (x : S23) : 16 ≤ wlnS x ∧ wlnS x ≤ 72 := wln_ge _
theorem encT_size (l : List S23) : ∀ n, (∀ i : Nat, i < n → rgtS (rd_T23 l i) = true) → (encT l n).size ≤ 72 * n
  | 0, _ => Nat.zero_le _
  | n + 1, h => by
    have ih := encT_size l n (fun i hi => h i (by omega))
    have e := encS_size _ (h n (by omega))
    have := wlnS_ge (rd_T23 l n)
    simp only [encT]
    rw [cat_size]
    omega
theorem rd23_append (l : List S23) (x : S23) (i : Nat) (h : i < l.length) : rd_T23 (l ++ [x]) i = rd_T23 l i := by
  unfold rd_T23
  rw [Int.toNat_natCast, List.getD_eq_getElem?_getD, List.getD_eq_getElem?_getD, List.getElem?_append_left h]
theorem rd23_last (l : List S23) (x : S23) : rd_T23 (l ++ [x]) (l.length : Nat) = x := by
  unfold rd_T23
  rw [Int.toNat_natCast, List.getD_eq_getElem?_getD, List.getElem?_append_right (Nat.le_refl _), Nat.sub_self]
  rfl
theorem encT_append (l : List S23) (x : S23) : ∀ n, n ≤ l.length → encT (l ++ [x]) n = encT l n
  | 0, _ => rfl
  | n + 1, h => by
    simp only [encT]
    rw [encT_append l x n (by omega), rd23_append l x n (by omega)]
theorem encT_snoc (l : List S23) (x : S23) : encT (l ++ [x]) (l ++ [x]).length = encT l l.length ++ encS x := by
  rw [List.length_append]
  show encT (l ++ [x]) (l.length + 1) = _
  simp only [encT]
  rw [encT_append l x l.length (Nat.le_refl _), rd23_last]
/-- Does a frame stand at a place? -/
def hit (s : ByteArray) (at_ : Nat) (f : S23) : Prop := rgtS f = true ∧ at_ + wlnS f ≤ s.size ∧ s.extract at_ (at_ + wlnS f) = encS f
theorem hit_byte (s : ByteArray) (a : Nat) (f : S23) (h : hit s a f) (i : Nat) (hi : i < wlnS f) : bt s ((a + i : Nat) : Int) = bt (encS f) i := by
  obtain ⟨h1, h2, h3⟩ := h
  rw [← h3, bt_ext s a _ i (by omega)]
theorem hit_one (s : ByteArray) (a : Nat) (f : S23) (h : hit s a f) (g : S23) (hg : hit s a g) : f = g := by
  have hf1 := h.1
  have hg1 := hg.1
  have wf := wlnS_ge f
  have wg := wlnS_ge g
  have e5 : bt (encS f) ((5 : Nat) : Int) = bt (encS g) ((5 : Nat) : Int) := by rw [← hit_byte s a f h 5 (by omega), ← hit_byte s a g hg 5 (by omega)]
  have m1 : bt (encS f) ((5 : Nat) : Int) = mrk f.f1 := enc_h _ _ _ _ 5 (by decide)
  have m2 : bt (encS g) ((5 : Nat) : Int) = mrk g.f1 := enc_h _ _ _ _ 5 (by decide)
  have hm : mrk f.f1 = mrk g.f1 := by rw [← m1, ← m2, e5]
  have hw : wlnS f = wlnS g := by
    unfold wlnS wln
    unfold mrk at hm
    revert hm
    cases fD f.f1 <;> cases fD g.f1 <;> cases fB f.f1 <;> cases fB g.f1 <;> cases fS f.f1 <;> cases fS g.f1 <;> simp
  have he : encS f = encS g := by rw [← h.2.2, ← hg.2.2, hw]
  obtain ⟨q1, q2, q3, q4⟩ := enc_inj _ _ _ _ _ _ _ _ hf1 hg1 he
  obtain ⟨f0, f1, f2, f3⟩ := f
  obtain ⟨g0, g1, g2, g3⟩ := g
  simp only at q1 q2 q3 q4
  rw [q1, q2, q3, q4]
theorem hit_long (s : ByteArray) (a : Nat) (f : S23) (h : hit s a f) : wire_Long.f (s.extract a s.size) = some (wlnS f : Int) := by
  have wf := wlnS_ge f
  have hsz := h.2.1
  have hb := hit_byte s a f h 5 (by omega)
  have hl := long_enc _ _ _ _ h.1
  have he : (encS f).size = wlnS f := encS_size f h.1
  have e5 : bt (s.extract a s.size) 5 = bt (encS f) 5 := by
    have := bt_ext s a s.size 5 (by omega)
    rw [hb] at this
    exact this
  unfold wire_Long.f at hl ⊢
  rw [e5]
  have c1 : ¬ ((s.extract a s.size).size : Int) ≤ 5 := by rw [ext_size]; omega
  have c2 : ¬ ((enc f.f0 f.f1 f.f2 f.f3).size : Int) ≤ 5 := by
    show ¬ ((encS f).size : Int) ≤ 5
    omega
  rw [if_neg c1, if_pos (by omega)]
  rw [if_neg c2, if_pos (by omega)] at hl
  exact hl

theorem mn_nat (a b : Nat) : mn (a : Int) (b : Int) = ((min a b : Nat) : Int) := by unfold mn; split <;> omega
theorem up_hit (k : Nat) (hk : 6 ≤ k) (s : ByteArray) (hs : s.size ≤ 1000000) (acc : List S23) (hacc : acc.length ≤ 1000000) (a : Nat) (f : S23) (h : hit s a f) : wire_Unpack.l0 (k + 1) s acc a = wire_Unpack.l0 k s (acc ++ [f]) ((a + wlnS f : Nat) : Int) := by
  have wf := wlnS_ge f
  have hsz := h.2.1
  have hw : wrap64 ((a : Int) + (wlnS f : Int)) = ((a + wlnS f : Nat) : Int) := by rw [w64 (by omega) (by omega)]; omega
  have hd : wire_Decode.f k (encS f) = some (f.f0, f.f1, f.f2, f.f3, 0) := dec_enc k hk _ _ _ _ h.1
  rw [wire_Unpack.l0]
  rw [if_neg (by omega), if_pos (by omega), if_pos (by omega), Int.toNat_natCast, hit_long s a f h, ob, hw, mn_nat, Nat.min_eq_left hsz, if_pos (by omega), if_pos (by omega), Int.toNat_natCast, h.2.2, hd, ob]
  dsimp only
  rw [if_pos rfl, if_pos (by omega)]
theorem up_miss (k : Nat) (hk : 6 ≤ k) (s : ByteArray) (hs : s.size ≤ 1000000) (acc : List S23) (a : Nat) (ha : a < s.size) (h : ∀ f, ¬ hit s a f) : wire_Unpack.l0 (k + 1) s acc a = some ([], (a : Int), 3) := by
  have hL : ∃ t : Nat, wire_Long.f (s.extract a s.size) = some (t : Int) ∧ (t = 0 ∨ ((t = 16 ∨ t = 72) ∧ 5 < s.size - a)) ∧ (t = 16 ∨ t = 72 → ∀ id fl len d, rgt id fl len d = true → enc id fl len d = s.extract a (min (a + t) s.size) → wln fl = t) := by
    have hz : (s.extract a s.size).size = s.size - a := by rw [ext_size]; omega
    unfold wire_Long.f
    rw [hz]
    by_cases c : ((s.size - a : Nat) : Int) ≤ 5
    · exact ⟨0, by rw [if_pos c]; rfl, Or.inl rfl, fun q => by omega⟩
    · rw [if_neg c, if_pos (by omega)]
      have h5 : ∀ t : Nat, (t = 16 ∨ t = 72) → ∀ id fl len d, rgt id fl len d = true → enc id fl len d = s.extract a (min (a + t) s.size) → bt (s.extract a s.size) 5 = mrk fl := by
        intro t ht id fl len d hr he
        have e1 : bt (s.extract a s.size) ((5 : Nat) : Int) = bt s ((a + 5 : Nat) : Int) := bt_ext s a s.size 5 (by omega)
        have e2 : bt (s.extract a (min (a + t) s.size)) ((5 : Nat) : Int) = bt s ((a + 5 : Nat) : Int) := bt_ext s a _ 5 (by omega)
        have e3 : bt (enc id fl len d) ((5 : Nat) : Int) = mrk fl := enc_h id fl len d 5 (by decide)
        rw [he, e2, ← e1] at e3
        exact e3
      by_cases b : Go.bits .and .u8 (bt (s.extract a s.size) 5) 4 = 0
      · refine ⟨16, by rw [if_pos b]; rfl, Or.inr ⟨Or.inl rfl, by omega⟩, fun ht id fl len d hr he => ?_⟩
        have e := h5 16 ht id fl len d hr he
        have hg := flg_range fl (rgt_facts id fl len d hr).1
        have m := (mark_facts fl hg.1 hg.2).2.1
        rw [e] at b
        rw [decide_eq_true b] at m
        unfold wln
        cases hD : fD fl with
        | false => rfl
        | true => rw [hD] at m; exact absurd m (by decide)
      · refine ⟨72, by rw [if_neg b]; rfl, Or.inr ⟨Or.inr rfl, by omega⟩, fun ht id fl len d hr he => ?_⟩
        have e := h5 72 ht id fl len d hr he
        have hg := flg_range fl (rgt_facts id fl len d hr).1
        have m := (mark_facts fl hg.1 hg.2).2.1
        rw [e] at b
        rw [decide_eq_false b] at m
        unfold wln
        cases hD : fD fl with
        | true => rfl
        | false => rw [hD] at m; exact absurd m (by decide)
  obtain ⟨t, ht, hv, hw⟩ := hL
  have hw64 : wrap64 ((a : Int) + (t : Int)) = ((a + t : Nat) : Int) := by rw [w64 (by omega) (by omega)]; omega
  have hd : wire_Decode.f k (s.extract a (min (a + t) s.size)) = some (0, 0, 0, ⟨#[]⟩, 3) := by
    refine dec_no k hk _ (by rw [ext_size]; omega) (fun id fl len d hr he => ?_)
    have hsz := enc_size id fl len d hr
    rw [he, ext_size] at hsz
    have hge := wln_ge fl
    have hwt : wln fl = t := hw (by omega) id fl len d hr he
    refine h ⟨id, fl, len, d⟩ ⟨hr, show a + wln fl ≤ s.size by omega, ?_⟩
    show s.extract a (a + wln fl) = enc id fl len d
    rw [he, hwt, Nat.min_eq_left (by omega)]
  rw [wire_Unpack.l0]
  rw [if_neg (by omega), if_pos (by omega), if_pos (by omega), Int.toNat_natCast, ht, ob, hw64, mn_nat, if_pos (by omega), if_pos (by omega), Int.toNat_natCast, hd, ob]
  dsimp only
  rw [if_neg (by decide)]
theorem up_end (k : Nat) (s : ByteArray) (acc : List S23) : wire_Unpack.l0 (k + 1) s acc s.size = some (acc, 0, 0) := by
  rw [wire_Unpack.l0, if_pos rfl]
theorem pack_ok (l : List S23) (hl : l.length ≤ 1000000) (h : ∀ i : Nat, i < l.length → rgtS (rd_T23 l i) = true) (m : Nat) : ∀ (k j : Nat), j + m = l.length → m + 5 ≤ k → wire_Pack.l0 k (encT l j) l l.length j = some (encT l l.length, 0, 0) := by
  induction m with
  | zero =>
    intro k j hj hk
    obtain ⟨k, rfl⟩ : ∃ m, k = m + 1 := ⟨k - 1, by omega⟩
    rw [wire_Pack.l0, if_neg (by omega), show j = l.length by omega]
  | succ m ih =>
    intro k j hj hk
    obtain ⟨k, rfl⟩ : ∃ m, k = m + 1 := ⟨k - 1, by omega⟩
    have ih' := ih k (j + 1) (by omega) (by omega)
    have hr := h j (by omega)
    have hsz := encT_size l j (fun i hi => h i (by omega))
    have he := encS_size _ hr
    have hw := wlnS_ge (rd_T23 l j)
    have henc : wire_Encode.f k ((rd_T23 l (j : Int)).f0) ((rd_T23 l (j : Int)).f1) ((rd_T23 l (j : Int)).f2) ((rd_T23 l (j : Int)).f3) = some (encS (rd_T23 l j), 0) := enc_eq k (by omega) _ _ _ _ hr
    rw [wire_Pack.l0]
    rw [if_pos (by omega), if_pos (by omega), if_pos (by omega), henc, ob]
    dsimp only
    rw [if_pos rfl, if_pos (by omega), up1 j (by omega)]
    exact ih'

theorem same_l0 (a : List S23) (h : a.length ≤ 1000000) (m : Nat) : ∀ (k j : Nat), j + m = a.length → m + 5 ≤ k → signalboxref03_Same.l0 k a a j = some true := by
  induction m with
  | zero =>
    intro k j hj hk
    obtain ⟨k, rfl⟩ : ∃ m, k = m + 1 := ⟨k - 1, by omega⟩
    simp only [signalboxref03_Same.l0]
    rw [if_neg (by omega)]
  | succ m ih =>
    intro k j hj hk
    obtain ⟨k, rfl⟩ : ∃ m, k = m + 1 := ⟨k - 1, by omega⟩
    have ih' := ih k (j + 1) (by omega) (by omega)
    simp only [signalboxref03_Same.l0]
    rw [if_pos (by omega), if_pos (by omega), if_pos (by omega), up1 j (by omega), if_neg (by simp only [beq_self_eq_true, Bool.not_true, Bool.or_false, Bool.false_eq_true, not_false_eq_true])]
    exact ih'
theorem same_eq (a : List S23) (h : a.length ≤ 1000000) (k : Nat) (hk : a.length + 10 ≤ k) : signalboxref03_Same.f k a a = some true := by
  unfold signalboxref03_Same.f
  rw [if_pos rfl]
  exact same_l0 a h a.length k 0 (by omega) (by omega)

theorem rup_hit (k : Nat) (hk : 1000 ≤ k) (s : ByteArray) (hs : s.size ≤ 1000000) (acc : List S23) (hacc : acc.length ≤ 1000000) (a r : Nat) (hr : r ≤ s.size) (f : S23) (h : hit s a f) :
    signalboxref03_Unpack.l0 (k + 3) s acc a r = signalboxref03_Unpack.l0 k s (acc ++ [f]) ((a + wlnS f : Nat) : Int) ((r + 1 : Nat) : Int) := by
  have wf := wlnS_ge f
  have hsz := h.2.1
  have hw : wrap64 ((a : Int) + (wlnS f : Int)) = ((a + wlnS f : Nat) : Int) := by rw [w64 (by omega) (by omega)]; omega
  have hr1 : wrap64 ((r : Int) + 1) = ((r + 1 : Nat) : Int) := by rw [w64 (by omega) (by omega)]; omega
  have hsub : wrap64 ((s.size : Int) - (a : Int)) = (s.size : Int) - a := w64 (by omega) (by omega)
  have hd : signalboxref03_Decode.f k (encS f) = some (f.f0, f.f1, f.f2, f.f3, true) := rdec_enc k hk _ _ _ _ h.1
  have hL : signalboxref03_Long.f (s.extract a s.size) = some (wlnS f : Int) := by
    obtain ⟨t, h1, h2⟩ := long_same (s.extract a s.size)
    rw [hit_long s a f h] at h1
    rw [h2, ← h1]
  rw [signalboxref03_Unpack.l0, if_pos (by omega), decide_eq_true (show (a : Int) < s.size by omega), signalboxref03_Unpack.j1, if_pos rfl, if_pos (by omega), if_pos (by omega), Int.toNat_natCast, hL, ob, if_neg (by omega), hsub, decide_eq_false (show ¬ (wlnS f : Int) > (s.size : Int) - a by omega)]
  rw [signalboxref03_Unpack.j2, if_neg (by decide), if_pos (by omega), hw, if_pos (by omega), if_pos (by omega), Int.toNat_natCast, Int.toNat_natCast, h.2.2, hd, ob]
  dsimp only
  rw [if_pos rfl, if_pos (by omega), hr1]
theorem rup_miss (k : Nat) (hk : 1000 ≤ k) (s : ByteArray) (hs : s.size ≤ 1000000) (acc : List S23) (a r : Nat) (ha : a < s.size) (hr : r ≤ s.size) (h : ∀ f, ¬ hit s a f) :
    signalboxref03_Unpack.l0 (k + 3) s acc a r = some ([], (a : Int), false) := by
  have hL : ∃ t : Nat, signalboxref03_Long.f (s.extract a s.size) = some (t : Int) ∧ (t = 0 ∨ t = 16 ∨ t = 72) := by
    obtain ⟨t, h1, h2⟩ := long_same (s.extract a s.size)
    rw [h2]
    unfold wire_Long.f at h1
    by_cases c : ((s.extract a s.size).size : Int) ≤ 5
    · rw [if_pos c] at h1; exact ⟨0, h1.symm, Or.inl rfl⟩
    · rw [if_neg c, if_pos (by omega)] at h1
      split at h1
      · exact ⟨16, h1.symm, Or.inr (Or.inl rfl)⟩
      · exact ⟨72, h1.symm, Or.inr (Or.inr rfl)⟩
  obtain ⟨t, hL, hv⟩ := hL
  have hsub : wrap64 ((s.size : Int) - (a : Int)) = (s.size : Int) - a := w64 (by omega) (by omega)
  have hw : wrap64 ((a : Int) + (t : Int)) = ((a + t : Nat) : Int) := by rw [w64 (by omega) (by omega)]; omega
  have j2t : ∀ t : Int, signalboxref03_Unpack.j2 (k + 1) s acc a r t true = some ([], (a : Int), false) := fun t => by rw [signalboxref03_Unpack.j2, if_pos rfl]
  rw [signalboxref03_Unpack.l0, if_pos (by omega), decide_eq_true (show (a : Int) < s.size by omega), signalboxref03_Unpack.j1, if_pos rfl, if_pos (by omega), if_pos (by omega), Int.toNat_natCast, hL, ob, hsub]
  by_cases h0 : t = 0
  · rw [if_pos (by omega), j2t]
  · rw [if_neg (by omega)]
    by_cases hg : (t : Int) > (s.size : Int) - a
    · rw [decide_eq_true hg, j2t]
    · have hd : signalboxref03_Decode.f k (s.extract a (a + t)) = some no5 := by
        refine rdec_no k hk _ (fun id fl len d hr he => ?_)
        have hsz := enc_size id fl len d hr
        rw [he, ext_size] at hsz
        refine h ⟨id, fl, len, d⟩ ⟨hr, show a + wln fl ≤ s.size by omega, ?_⟩
        show s.extract a (a + wln fl) = enc id fl len d
        rw [he, show wln fl = t by omega]
      rw [decide_eq_false hg, signalboxref03_Unpack.j2, if_neg (by decide), if_pos (by omega), hw, if_pos (by omega), if_pos (by omega), Int.toNat_natCast, Int.toNat_natCast, hd, ob]
      unfold no5
      dsimp only
      rw [if_neg (by decide)]
theorem rup_end (k : Nat) (s : ByteArray) (acc : List S23) (r : Nat) : signalboxref03_Unpack.l0 (k + 2) s acc s.size r = some (acc, 0, true) := by
  rw [signalboxref03_Unpack.l0]
  split
  · rw [decide_eq_false (show ¬ (s.size : Int) < s.size by omega), signalboxref03_Unpack.j1, if_neg (by decide)]
  · rw [signalboxref03_Unpack.j1, if_neg (by decide)]
theorem ext_cat (s : ByteArray) (a b : Nat) (h : a ≤ b) (hb : b ≤ s.size) : s.extract 0 a ++ s.extract a b = s.extract 0 b := by
  refine bytes_ext (by rw [cat_size, ext_size, ext_size, ext_size]; omega) (fun i hi => ?_)
  rw [cat_size, ext_size, ext_size] at hi
  rw [bt_ext s 0 b i (by omega)]
  by_cases c : i < a
  · rw [bt_appl _ _ i (by rw [ext_size]; omega), bt_ext s 0 a i (by omega)]
  · rw [bt_appr _ _ i (by rw [ext_size]; omega), ext_size, bt_ext s a b _ (by omega), show a + (i - (min a s.size - 0)) = 0 + i by omega]
theorem ext_all (s : ByteArray) : s.extract 0 s.size = s := by
  refine bytes_ext (by rw [ext_size]; omega) (fun i hi => ?_)
  rw [ext_size] at hi
  rw [bt_ext s 0 _ i (by omega), Nat.zero_add]
theorem ext_none (s : ByteArray) : s.extract 0 0 = ⟨#[]⟩ := bytes_ext (by rw [ext_size]; show 0 - 0 = _; rfl) (fun i hi => by rw [ext_size] at hi; omega)

theorem alive_k : ∃ K, ∀ k, K ≤ k → signalboxlaw03_alive.f k = some true :=
  Ev.of signalboxlaw03_alive.mono (k := 60) (by decide +kernel)

theorem unp_both (s : ByteArray) (hs : s.size ≤ 1000) (d : Nat) : ∀ (acc : List S23) (a r k kr : Nat), a + d = s.size → (∀ i : Nat, i < acc.length → rgtS (rd_T23 acc i) = true) → encT acc acc.length = s.extract 0 a → r ≤ a → acc.length ≤ a → d + 20 ≤ k → 3 * d + 1100 ≤ kr →
    (∃ l, wire_Unpack.l0 k s acc a = some (l, 0, 0) ∧ signalboxref03_Unpack.l0 kr s acc a r = some (l, 0, true) ∧ (∀ i : Nat, i < l.length → rgtS (rd_T23 l i) = true) ∧ encT l l.length = s ∧ l.length ≤ 1000) ∨
    (∃ b, wire_Unpack.l0 k s acc a = some ([], b, 3) ∧ signalboxref03_Unpack.l0 kr s acc a r = some ([], b, false)) := by
  induction d using Nat.strongRecOn with
  | _ d ih =>
    intro acc a r k kr had hacc henc hra hla hk hkr
    by_cases h0 : d = 0
    · obtain ⟨k, rfl⟩ : ∃ m, k = m + 1 := ⟨k - 1, by omega⟩
      obtain ⟨kr, rfl⟩ : ∃ m, kr = m + 2 := ⟨kr - 2, by omega⟩
      have ha : a = s.size := by omega
      rw [ha] at henc ⊢
      exact Or.inl ⟨acc, up_end k s acc, rup_end kr s acc r, hacc, by rw [henc, ext_all], by omega⟩
    · obtain ⟨k, rfl⟩ : ∃ m, k = m + 1 := ⟨k - 1, by omega⟩
      obtain ⟨kr, rfl⟩ : ∃ m, kr = m + 3 := ⟨kr - 3, by omega⟩
      by_cases hex : ∃ f, hit s a f
      · obtain ⟨f, hf⟩ := hex
        have wf := wlnS_ge f
        have hsz := hf.2.1
        rw [up_hit k (by omega) s (by omega) acc (by omega) a f hf, rup_hit kr (by omega) s (by omega) acc (by omega) a r (by omega) f hf]
        refine ih (d - wlnS f) (by omega) (acc ++ [f]) (a + wlnS f) (r + 1) k kr (by omega) (fun i hi => ?_) ?_ (by omega) (by rw [List.length_append]; show acc.length + 1 ≤ _; omega) (by omega) (by omega)
        · by_cases e : i < acc.length
          · rw [rd23_append acc f i e]; exact hacc i e
          · have : i = acc.length := by rw [List.length_append] at hi; have : i < acc.length + 1 := hi; omega
            rw [this, rd23_last]; exact hf.1
        · rw [encT_snoc, henc, ← hf.2.2, ext_cat s a _ (by omega) (by omega)]
      · have hno : ∀ f, ¬ hit s a f := fun f hf => hex ⟨f, hf⟩
        exact Or.inr ⟨(a : Int), up_miss k (by omega) s (by omega) acc a (by omega) hno, rup_miss kr (by omega) s (by omega) acc a r (by omega) (by omega) hno⟩
theorem WireUnpacksL : signalboxlaw03_WireUnpacks.Pure := by
  intro s hs
  obtain ⟨K, hal⟩ := alive_k
  obtain ⟨M, hM⟩ : ∃ M, M = K + 8000 := ⟨_, rfl⟩
  refine ⟨M + 1, ?_⟩
  have ha := hal M (by omega)
  have ha1 := hal (M + 1) (by omega)
  unfold signalboxlaw03_WireUnpacks.f
  by_cases h1000 : (s.size : Int) > 1000
  · rw [if_pos h1000, ha1, ob]
  · rw [if_neg h1000]
    have hboth := unp_both s (by omega) s.size [] 0 0 (M + 1) (M + 1) (by omega) (fun i hi => absurd hi (Nat.not_lt_zero i)) (by rw [ext_none]; rfl) (Nat.le_refl _) (Nat.le_refl _) (by omega) (by omega)
    rcases hboth with ⟨l, h1, h2, h3, h4, h5⟩ | ⟨b, h1, h2⟩
    · have g1 : wire_Unpack.f (M + 1) s = some (l, 0, 0) := h1
      have g2 : signalboxref03_Unpack.f (M + 1) s = some (l, 0, true) := h2
      have hp : wire_Pack.f M l = some (encT l l.length, 0, 0) := pack_ok l (by omega) h3 l.length M 0 (by omega) (by omega)
      rw [g1, ob, g2, ob]
      dsimp only
      rw [same_eq l (by omega) (M + 1) (by omega), ob, if_pos rfl, if_pos rfl]
      have hc : (((0 : Int) == 0) != true) = false := by decide
      rw [hc, signalboxlaw03_WireUnpacks.j0, if_neg (by decide), if_pos rfl, hp, ob, h4, ite_tl, if_pos rfl]
      dsimp only
      rw [if_pos rfl, ha, ob]
    · have g1 : wire_Unpack.f (M + 1) s = some ([], b, 3) := h1
      have g2 : signalboxref03_Unpack.f (M + 1) s = some ([], b, false) := h2
      rw [g1, ob, g2, ob]
      dsimp only
      rw [same_eq [] (Nat.zero_le _) (M + 1) (by simp; omega), ob, if_pos rfl, if_pos rfl]
      have hc : (((3 : Int) == 0) != false) = false := by decide
      rw [hc, signalboxlaw03_WireUnpacks.j0, if_neg (by decide), if_neg (by decide), if_pos rfl, ha, ob]

theorem WireUnpacks : signalboxlaw03_WireUnpacks.Pure := WireUnpacksL

end Go.Proofs.Ytiljancboibbmaa.Pure
