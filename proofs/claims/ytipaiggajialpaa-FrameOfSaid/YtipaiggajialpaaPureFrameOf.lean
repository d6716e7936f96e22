/- FrameOf: what frame a word and a text make, and what error, is as the document says. Conditions: none beyond the statement's own. -/
import Derived.Test.YtipaiggajialpaaPFrameOfx7
namespace Go.Proofs.Ytipaiggajialpaa.Pure
open Go.RowKit Go.Proofs.Ytipaiggajialpaa.PFrameOf Go.Proofs.YtipaiggajialpaaW.PrintWords Go.Proofs.YtipaiggajialpaaW.PrintLast
set_option linter.unusedVariables false
set_option linter.unusedSimpArgs false

theorem wf_i64 {n : Int} (h : (Lit.int .i64 n).wf = true) : -9223372036854775808 ≤ n ∧ n ≤ 9223372036854775807 := by
  simp only [Lit.wf, Bool.and_eq_true, decide_eq_true_eq] at h
  exact h
theorem wf_u32 {n : Int} (h : (Lit.int .u32 n).wf = true) : 0 ≤ n ∧ n ≤ 4294967295 := by
  simp only [Lit.wf, Bool.and_eq_true, decide_eq_true_eq] at h
  exact h
theorem wf_i32 {n : Int} (h : (Lit.int .i32 n).wf = true) : -2147483648 ≤ n ∧ n ≤ 2147483647 := by
  simp only [Lit.wf, Bool.and_eq_true, decide_eq_true_eq] at h
  exact h
theorem w64 {n : Int} (h0 : -9223372036854775808 ≤ n) (h1 : n ≤ 9223372036854775807) : wrap64 n = n := by unfold wrap64; omega

theorem bt_size {s : ByteArray} {i : Nat} (h : i < s.size) : bt s (i : Int) = (s.data.toList[i]'(by rw [Array.length_toList]; exact h)).toNat := by
  have e := bt_at s (i : Int) (by simpa using h)
  rw [← e]
  simp
  rfl
theorem bt_none {s : ByteArray} {i : Int} (h : (s.size : Int) ≤ i) : bt s i = 0 := by
  unfold bt
  rw [dif_neg (by omega)]
theorem bt_num (l : List Int) (hl : ∀ x ∈ l, 0 ≤ x ∧ x ≤ 255) (i : Nat) (h : i < l.length) : bt (strOfNums l) i = l[i] := by
  have hs : i < (strOfNums l).size := by rw [strOfNums_size]; exact h
  rw [bt_size hs]
  have hx := hl l[i] (List.getElem_mem h)
  have : (strOfNums l).data.toList[i]'(by rw [Array.length_toList]; exact hs) = UInt8.ofNat (l[i]).toNat := by
    simp [strOfNums]
  rw [this]
  simp
  omega
theorem bytes_ext {s t : ByteArray} (hz : s.size = t.size) (h : ∀ i : Nat, i < s.size → bt s i = bt t i) : s = t := by
  have : s.data.toList = t.data.toList := by
    apply List.ext_getElem
    · rw [Array.length_toList, Array.length_toList]; exact hz
    · intro i h1 h2
      rw [Array.length_toList] at h1 h2
      have e := h i h1
      rw [bt_size h1, bt_size (show i < t.size from h2)] at e
      have e2 : (s.data.toList[i]).toNat = (t.data.toList[i]).toNat := by exact_mod_cast e
      exact UInt8.toNat_inj.mp e2
  obtain ⟨a⟩ := s
  obtain ⟨b⟩ := t
  have : a.toList = b.toList := this
  rw [Array.toList_inj.mp this]
theorem toList_inj' {s t : ByteArray} : s.toList = t.toList ↔ s = t := by
  constructor
  · intro h
    rw [ByteArray.toList_eq, ByteArray.toList_eq] at h
    obtain ⟨a⟩ := s
    obtain ⟨b⟩ := t
    have h : a.toList = b.toList := h
    rw [Array.toList_inj.mp h]
  · intro h; rw [h]
theorem str_beq (s t : ByteArray) : (s.toList == t.toList) = decide (s = t) := by
  rw [Bool.eq_iff_iff]
  simp [toList_inj']
/-- The comparison of two texts as the print has it, without 'toList' (which the kernel had better not unfold). -/
theorem ite_tl {α : Type} (x y : ByteArray) (p q : α) : (if x.toList = y.toList then p else q) = if x = y then p else q := by
  by_cases h : x = y
  · rw [if_pos h, if_pos (by rw [h])]
  · rw [if_neg h, if_neg (fun e => h (toList_inj'.mp e))]
theorem ite_tl0 {α : Type} (x : ByteArray) (p q : α) : (if x.toList = ([] : List UInt8) then p else q) = if x = ⟨#[]⟩ then p else q := by
  have e : (⟨#[]⟩ : ByteArray).toList = [] := by rw [ByteArray.toList_eq]
  by_cases h : x = ⟨#[]⟩
  · rw [if_pos h, if_pos (by rw [h, e])]
  · rw [if_neg h, if_neg (fun e2 => h (toList_inj'.mp (by rw [e2, e])))]

/-- 'Option.bind_some' as an equation that simp carries along (not by 'rfl': else the kernel unfolds what is bound). -/
theorem ob {α β : Type} (a : α) (f : α → Option β) : (some a).bind f = f a := by
  have h : (some a).bind f = f a := rfl
  exact h.symm.symm

/-! The flags of a frame, by number. -/
def fE (fl : Int) : Bool := decide (fl % 2 = 1)
def fR (fl : Int) : Bool := decide (fl / 2 % 2 = 1)
def fX (fl : Int) : Bool := decide (fl / 4 % 2 = 1)
def fD (fl : Int) : Bool := decide (fl / 8 % 2 = 1)
def fB (fl : Int) : Bool := decide (fl / 16 % 2 = 1)
def fS (fl : Int) : Bool := decide (fl / 32 % 2 = 1)
theorem has_all : ∀ x : Fin 64, ((Go.bits .and .i64 (x.val : Int) 1) != 0) = fE x.val ∧ ((Go.bits .and .i64 (x.val : Int) 2) != 0) = fR x.val ∧ ((Go.bits .and .i64 (x.val : Int) 4) != 0) = fX x.val ∧ ((Go.bits .and .i64 (x.val : Int) 8) != 0) = fD x.val
    ∧ ((Go.bits .and .i64 (x.val : Int) 48) != 0) = (fB x.val || fS x.val) ∧ ((Go.bits .and .i64 (x.val : Int) 5) != 0) = (fE x.val || fX x.val)
    ∧ ((x.val : Int) == 4) = (fX x.val && !fE x.val && !fR x.val && !fD x.val && !fB x.val && !fS x.val) := by decide +kernel
theorem has_fl (fl : Int) (h0 : 0 ≤ fl) (h1 : fl ≤ 63) : ((Go.bits .and .i64 fl 1) != 0) = fE fl ∧ ((Go.bits .and .i64 fl 2) != 0) = fR fl ∧ ((Go.bits .and .i64 fl 4) != 0) = fX fl ∧ ((Go.bits .and .i64 fl 8) != 0) = fD fl
    ∧ ((Go.bits .and .i64 fl 48) != 0) = (fB fl || fS fl) ∧ ((Go.bits .and .i64 fl 5) != 0) = (fE fl || fX fl) ∧ (fl == 4) = (fX fl && !fE fl && !fR fl && !fD fl && !fB fl && !fS fl) := by
  have := has_all ⟨fl.toNat, by omega⟩
  have e : (fl.toNat : Int) = fl := by omega
  simpa only [e] using this
/-- Has a length a code? -/
def isCode (len : Int) : Bool := (frst (fun x => x == len) 0 szL).2.2
def flg (fl : Int) : Bool := decide (0 ≤ fl ∧ fl ≤ 63) && (if fX fl = true then fl == 4 else if fD fl = true then !fR fl else !(fB fl || fS fl))
def mst (fl : Int) : Int := if (fE fl || fX fl) = true then 536870911 else 2047
def lng (fl len : Int) : Bool := if fX fl = true then len == 8 else if fD fl = true then isCode len else decide (0 ≤ len ∧ len ≤ 8)
/-- May a frame be? -/
def rgt (id fl len : Int) (d : ByteArray) : Bool := flg fl && decide (0 ≤ id ∧ id ≤ mst fl) && lng fl len && decide ((d.size : Int) = if fR fl = true then 0 else len)
theorem flags_eq (k : Nat) (hk : 1 ≤ k) (id fl len : Int) (d : ByteArray) : frame_flags.f k id fl len d = some (flg fl) := by
  obtain ⟨k, rfl⟩ : ∃ m, k = m + 1 := ⟨k - 1, by omega⟩
  simp only [frame_flags.f, frame_flags.j0, frame_has.f, ob, flg]
  by_cases h0 : fl < 0
  · rw [if_pos h0, if_pos trivial]
    have : ¬ (0 ≤ fl ∧ fl ≤ 63) := by omega
    simp [this]
  · rw [if_neg h0]
    by_cases h1 : fl > 63
    · rw [if_pos (by simpa using h1)]
      have : ¬ (0 ≤ fl ∧ fl ≤ 63) := by omega
      simp [this]
    · rw [if_neg (by simpa using h1)]
      have hh := has_fl fl (by omega) (by omega)
      have : 0 ≤ fl ∧ fl ≤ 63 := by omega
      rw [hh.2.1, hh.2.2.1, hh.2.2.2.1, hh.2.2.2.2.1]
      simp only [this, and_self, decide_true, Bool.true_and]
      split
      · rfl
      · split <;> rfl
theorem flg_range (fl : Int) (h : flg fl = true) : 0 ≤ fl ∧ fl ≤ 63 := by
  unfold flg at h
  simp only [Bool.and_eq_true, decide_eq_true_eq] at h
  exact h.1
theorem most_eq (id fl len : Int) (d : ByteArray) (h : flg fl = true) : frame_most.f id fl len d = some (mst fl) := by
  have hh := has_fl fl (flg_range fl h).1 (flg_range fl h).2
  simp only [frame_most.f, frame_has.f, ob, hh.2.2.2.2.2.1, mst]
  split <;> rfl
theorem long_eq (id fl len : Int) (d : ByteArray) (h : flg fl = true) : frame_long.f id fl len d = some (lng fl len) := by
  have hh := has_fl fl (flg_range fl h).1 (flg_range fl h).2
  simp only [frame_long.f, frame_has.f, ob, hh.2.2.1, hh.2.2.2.1, lng, frame_Code.f, isCode]
  split
  · rfl
  · split
    · rfl
    · by_cases h0 : len ≥ 0
      · rw [if_pos h0]
        congr 1
        simp
        omega
      · rw [if_neg h0]
        simp
        omega
theorem right_eq (k : Nat) (hk : 1 ≤ k) (id fl len : Int) (d : ByteArray) : frame_Right.f k id fl len d = some (if rgt id fl len d = true then 0 else 4) := by
  obtain ⟨k, rfl⟩ : ∃ m, k = m + 1 := ⟨k - 1, by omega⟩
  simp only [frame_Right.f, flags_eq (k + 1) (by omega), ob, frame_Right.j0]
  cases hf : flg fl with
  | false => simp [rgt, hf]
  | true =>
    have hh := has_fl fl (flg_range fl hf).1 (flg_range fl hf).2
    simp only [if_true, most_eq id fl len d hf, long_eq id fl len d hf, ob, frame_has.f, hh.2.1]
    by_cases h0 : id < 0
    · rw [if_pos h0]
      have : ¬ (0 ≤ id ∧ id ≤ mst fl) := by omega
      simp [rgt, this]
    · rw [if_neg h0]
      by_cases h1 : id > mst fl
      · rw [if_pos (by simpa using h1)]
        have : ¬ (0 ≤ id ∧ id ≤ mst fl) := by omega
        simp [rgt, this]
      · rw [if_neg (by simpa using h1)]
        have h2 : 0 ≤ id ∧ id ≤ mst fl := by omega
        cases hl : lng fl len with
        | false => simp [rgt, hl]
        | true =>
          simp only [rgt, hf, hl, h2, and_self, decide_true, Bool.true_and, if_true]
          cases hr : fR fl with
          | false =>
            simp only [Bool.false_eq_true, if_false, decide_eq_true_eq]
            split <;> rfl
          | true =>
            simp only [if_true, decide_eq_true_eq]
            split <;> rfl
theorem right0 (k : Nat) (hk : 1 ≤ k) (id fl len : Int) (d : ByteArray) (h : rgt id fl len d = true) : frame_Right.f k id fl len d = some 0 := by rw [right_eq k hk, if_pos h]
theorem right4 (k : Nat) (hk : 1 ≤ k) (id fl len : Int) (d : ByteArray) (h : rgt id fl len d = false) : frame_Right.f k id fl len d = some 4 := by rw [right_eq k hk, if_neg (by simp [h])]
theorem rgt_facts (id fl len : Int) (d : ByteArray) (h : rgt id fl len d = true) : flg fl = true ∧ 0 ≤ id ∧ id ≤ mst fl ∧ lng fl len = true ∧ ((d.size : Int) = if fR fl = true then 0 else len) := by
  unfold rgt at h
  simp only [Bool.and_eq_true, decide_eq_true_eq] at h
  exact ⟨h.1.1.1, h.1.1.2.1, h.1.1.2.2, h.1.2, h.2⟩
theorem mst_le (fl : Int) : mst fl ≤ 536870911 := by unfold mst; split <;> omega

theorem wraps_u32 (n : Int) (h₀ : 0 ≤ n) (h₁ : n < 2 ^ 32) : IntKind.u32.wrap n = n := by rw [IntKind.wrap_u32]; omega
theorem or_comm_u32 (x y : Int) : Go.bits .or .u32 x y = Go.bits .or .u32 y x := by simp [Go.bits, BitVec.or_comm]
/-- A frame's word. -/
def wrd (id fl : Int) : Int := id + (if fE fl = true then 2147483648 else 0) + (if fR fl = true then 1073741824 else 0) + (if fX fl = true then 536870912 else 0)
theorem or_31 (x : Int) (h0 : 0 ≤ x) (h1 : x < 2147483648) : Go.bits .or .u32 x 2147483648 = x + 2147483648 := by
  rw [or_comm_u32, bits_join .u32 32 (by decide) wraps_u32 31 2147483648 x (by decide) (by decide) (by decide) h0 h1 (by omega), Int.add_comm]
theorem or_30 (x : Int) (h0 : 0 ≤ x) (h1 : x < 1073741824) : Go.bits .or .u32 x 1073741824 = x + 1073741824 := by
  rw [or_comm_u32, bits_join .u32 32 (by decide) wraps_u32 30 1073741824 x (by decide) (by decide) (by decide) h0 h1 (by omega), Int.add_comm]
theorem or_29 (x : Int) (h0 : 0 ≤ x) (h1 : x < 536870912) : Go.bits .or .u32 x 536870912 = x + 536870912 := by
  rw [or_comm_u32, bits_join .u32 32 (by decide) wraps_u32 29 536870912 x (by decide) (by decide) (by decide) h0 h1 (by omega), Int.add_comm]
/-- A bit is set beside a number whose upper part is a multiple of twice it, and whose lower part is less than it. -/
theorem or_bit (i : Nat) (hi : i ≤ 30) (u x : Int) (hu : 0 ≤ u) (hu2 : u * 2 ^ (i + 1) + 2 ^ i + x < 4294967296) (hx : 0 ≤ x) (hx2 : x < 2 ^ i) : Go.bits .or .u32 (u * 2 ^ (i + 1) + x) (2 ^ i) = u * 2 ^ (i + 1) + x + 2 ^ i := by
  have hp : (0 : Int) < 2 ^ i := Int.pow_pos (by decide)
  have hp1 : (2 : Int) ^ (i + 1) = 2 ^ i * 2 := Int.pow_succ 2 i
  have hp32 : (2 : Int) ^ i ≤ 2 ^ 30 := by
    have := Nat.pow_le_pow_right (show 0 < 2 by decide) hi
    exact_mod_cast this
  have hm : 0 ≤ u * 2 ^ (i + 1) := Int.mul_nonneg hu (by omega)
  have e1 : Go.bits .or .u32 (u * 2 ^ (i + 1)) x = u * 2 ^ (i + 1) + x := bits_join .u32 32 (by decide) wraps_u32 (i + 1) _ _ hm (Int.mul_emod_left _ _) (by omega) hx (by omega) (by omega)
  have e2 : Go.bits .or .u32 (2 ^ i) x = 2 ^ i + x := bits_join .u32 32 (by decide) wraps_u32 i _ _ (by omega) (Int.emod_self) (by omega) hx hx2 (by omega)
  have e3 : Go.bits .or .u32 (u * 2 ^ (i + 1)) (2 ^ i + x) = u * 2 ^ (i + 1) + (2 ^ i + x) := bits_join .u32 32 (by decide) wraps_u32 (i + 1) _ _ hm (Int.mul_emod_left _ _) (by omega) (by omega) (by omega) (by omega)
  have rng : ∀ z : Int, 0 ≤ z → z < 4294967296 → ∃ n : Nat, z = n ∧ n < 2 ^ 32 := fun z h0 h1 => ⟨z.toNat, by omega, by omega⟩
  have key : ∀ a b c : Int, 0 ≤ a → a < 4294967296 → 0 ≤ b → b < 4294967296 → 0 ≤ c → c < 4294967296 → Go.bits .or .u32 (Go.bits .or .u32 a b) c = Go.bits .or .u32 a (Go.bits .or .u32 c b) := by
    intro a b c a0 a1 b0 b1 c0 c1
    obtain ⟨a, rfl, ha⟩ := rng a a0 a1
    obtain ⟨b, rfl, hb⟩ := rng b b0 b1
    obtain ⟨c, rfl, hc⟩ := rng c c0 c1
    rw [(bits_nat .u32 32 (by decide) wraps_u32 a b ha hb).2, (bits_nat .u32 32 (by decide) wraps_u32 c b hc hb).2, (bits_nat .u32 32 (by decide) wraps_u32 _ c (Nat.or_lt_two_pow ha hb) hc).2,
      (bits_nat .u32 32 (by decide) wraps_u32 a _ ha (Nat.or_lt_two_pow hc hb)).2, Nat.or_assoc, Nat.or_comm b c]
  rw [← e1, key _ _ _ hm (by omega) hx (by omega) (by omega) (by omega), e2, e3]
  omega
theorem word_eq (k : Nat) (hk : 1 ≤ k) (id fl len : Int) (d : ByteArray) (h : rgt id fl len d = true) : frame_Word.f k id fl len d = some (wrd id fl) := by
  obtain ⟨k, rfl⟩ : ∃ m, k = m + 1 := ⟨k - 1, by omega⟩
  obtain ⟨hf, i0, i1, _, _⟩ := rgt_facts id fl len d h
  have hm := mst_le fl
  have hh := has_fl fl (flg_range fl hf).1 (flg_range fl hf).2
  have e0 : id % 4294967296 = id := by omega
  simp only [frame_Word.f, right0 (k + 1) hk id fl len d h, ob, if_true, frame_has.f, hh.1, frame_Word.j0, hh.2.1, hh.2.2.1, e0, wrd]
  have o1 := or_31 id i0 (by omega)
  have o2 := or_30 id i0 (by omega)
  have o3 := or_29 id i0 (by omega)
  have o4 : Go.bits .or .u32 (id + 2147483648) 1073741824 = id + 2147483648 + 1073741824 := by
    have := or_bit 30 (by decide) 1 id (by decide) (by omega) i0 (by omega)
    rw [show (1 : Int) * 2 ^ (30 + 1) + id = id + 2147483648 by omega] at this
    exact this
  have o5 : Go.bits .or .u32 (id + 2147483648) 536870912 = id + 2147483648 + 536870912 := by
    have := or_bit 29 (by decide) 2 id (by decide) (by omega) i0 (by omega)
    rw [show (2 : Int) * 2 ^ (29 + 1) + id = id + 2147483648 by omega] at this
    exact this
  have o6 : Go.bits .or .u32 (id + 1073741824) 536870912 = id + 1073741824 + 536870912 := by
    have := or_bit 29 (by decide) 1 id (by decide) (by omega) i0 (by omega)
    rw [show (1 : Int) * 2 ^ (29 + 1) + id = id + 1073741824 by omega] at this
    exact this
  have o7 : Go.bits .or .u32 (id + 2147483648 + 1073741824) 536870912 = id + 2147483648 + 1073741824 + 536870912 := by
    have := or_bit 29 (by decide) 3 id (by decide) (by omega) i0 (by omega)
    rw [show (3 : Int) * 2 ^ (29 + 1) + id = id + 2147483648 + 1073741824 by omega] at this
    exact this
  cases fE fl <;> cases fR fl <;> cases fX fl <;> simp [o1, o2, o3, o4, o5, o6, o7]
theorem word_no (k : Nat) (hk : 1 ≤ k) (id fl len : Int) (d : ByteArray) (h : rgt id fl len d = false) : frame_Word.f k id fl len d = some 0 := by
  simp only [frame_Word.f, right4 k hk id fl len d h, ob]
  rw [if_neg (by decide)]

theorem rhas_all : ∀ x : Fin 64, (Int.tmod (wrap64 (Int.tdiv (x.val : Int) 1)) 2 == 1) = fE x.val ∧ (Int.tmod (wrap64 (Int.tdiv (x.val : Int) 2)) 2 == 1) = fR x.val ∧ (Int.tmod (wrap64 (Int.tdiv (x.val : Int) 4)) 2 == 1) = fX x.val ∧ (Int.tmod (wrap64 (Int.tdiv (x.val : Int) 8)) 2 == 1) = fD x.val
    ∧ (Int.tmod (wrap64 (Int.tdiv (x.val : Int) 16)) 2 == 1) = fB x.val ∧ (Int.tmod (wrap64 (Int.tdiv (x.val : Int) 32)) 2 == 1) = fS x.val := by decide +kernel
theorem rhas (id fl len : Int) (d : ByteArray) (h0 : 0 ≤ fl) (h1 : fl ≤ 63) : signalboxref02_Has.f id fl len d 1 = some (fE fl) ∧ signalboxref02_Has.f id fl len d 2 = some (fR fl) ∧ signalboxref02_Has.f id fl len d 4 = some (fX fl) ∧ signalboxref02_Has.f id fl len d 8 = some (fD fl)
    ∧ signalboxref02_Has.f id fl len d 16 = some (fB fl) ∧ signalboxref02_Has.f id fl len d 32 = some (fS fl) := by
  have := rhas_all ⟨fl.toNat, by omega⟩
  have e : (fl.toNat : Int) = fl := by omega
  simp only [e] at this
  simp only [signalboxref02_Has.f, if_neg (show ¬ fl < 0 by omega)]
  obtain ⟨a, b, c, d, e, f⟩ := this
  rw [if_neg (by decide), if_neg (by decide), if_neg (by decide), if_neg (by decide), if_neg (by decide), if_neg (by decide), a, b, c, d, e, f]
  exact ⟨rfl, rfl, rfl, rfl, rfl, rfl⟩
theorem frst_any (p : Int → Bool) (l : List Int) (i : Int) : (frst p i l).2.2 = l.any p := by
  induction l generalizing i with
  | nil => rfl
  | cons x l ih =>
    unfold frst
    cases hb : p x with
    | true => simp [hb]
    | false => simp [hb, ih]
theorem isCode_iff (len : Int) : isCode len = true ↔ len = 0 ∨ len = 1 ∨ len = 2 ∨ len = 3 ∨ len = 4 ∨ len = 5 ∨ len = 6 ∨ len = 7 ∨ len = 8 ∨ len = 12 ∨ len = 16 ∨ len = 20 ∨ len = 24 ∨ len = 32 ∨ len = 48 ∨ len = 64 := by
  have he : isCode len = szL.any (fun x => x == len) := frst_any _ _ _
  rw [he]
  simp only [szL, List.any_cons, List.any_nil, Bool.or_eq_true, beq_iff_eq, Bool.or_false, eq_comm (b := len)]
theorem rcode_l0 (len : Int) (d : Nat) : ∀ (k j : Nat), j + d = 16 → d + 1 ≤ k →
    signalboxref02_Code.l0 k len szL j = some (if (frst (fun x => x == len) j (szL.drop j)).2.2 = true then (frst (fun x => x == len) j (szL.drop j)).1 else -1) := by
  induction d with
  | zero =>
    intro k j hj hk
    obtain ⟨k, rfl⟩ : ∃ m, k = m + 1 := ⟨k - 1, by omega⟩
    obtain rfl : j = 16 := by omega
    rfl
  | succ d ih =>
    intro k j hj hk
    obtain ⟨k, rfl⟩ : ∃ m, k = m + 1 := ⟨k - 1, by omega⟩
    have ih := ih k (j + 1) (by omega) (by omega)
    rw [frst_step _ j (by omega)]
    have e : wrap64 ((j : Int) + 1) = ((j + 1 : Nat) : Int) := by unfold wrap64; omega
    have er : rd szL (j : Int) = szAt j := by
      have : j < szL.length := by show j < 16; omega
      simp [rd, szAt]
    have el : (szL.length : Int) = 16 := rfl
    simp only [signalboxref02_Code.l0, e, ih, er, el]
    rw [if_pos (by omega), if_pos (by omega)]
    by_cases h : szAt j = len
    · have hb : (szAt j == len) = true := by simpa using h
      simp only [if_pos h, hb, if_true]
    · have hb : (szAt j == len) = false := by simpa using h
      simp only [if_neg h, hb, Bool.false_eq_true, if_false]
theorem rcode (k : Nat) (hk : 20 ≤ k) (len : Int) : ∃ c, signalboxref02_Code.f k len = some c ∧ decide (c < 0) = !isCode len := by
  refine ⟨_, (show signalboxref02_Code.f k len = _ by simp only [signalboxref02_Code.f, signalboxref02_Sizes.f, ob]; exact rcode_l0 len 16 k 0 (by omega) (by omega)), ?_⟩
  have hd : szL.drop 0 = szL := rfl
  rw [hd]
  have hc : isCode len = (frst (fun x => x == len) ((0 : Nat) : Int) szL).2.2 := rfl
  rw [hc]
  have hp : ∀ (p : Int → Bool) (l : List Int) (i : Int), 0 ≤ i → 0 ≤ (frst p i l).1 := by
    intro p l
    induction l with
    | nil => intro i _; exact Int.le_refl 0
    | cons x l ih =>
      intro i hi
      unfold frst
      split
      · exact hi
      · exact ih (i + 1) (by omega)
  have := hp (fun x => x == len) szL ((0 : Nat) : Int) (by decide)
  cases (frst (fun x => x == len) ((0 : Nat) : Int) szL).2.2 with
  | true => simpa using this
  | false => simp
theorem size0 (d : ByteArray) : (d.toList == ([] : List UInt8)) = decide ((d.size : Int) = 0) := by
  rw [Bool.eq_iff_iff, beq_iff_eq, decide_eq_true_eq, ByteArray.toList_eq]
  obtain ⟨⟨l⟩⟩ := d
  show l = [] ↔ ((l.length : Nat) : Int) = 0
  cases l with
  | nil => simp
  | cons a l => simp; omega
def rl3 (r : Bool) (len : Int) (d : ByteArray) : Bool := decide ((d.size : Int) = if r = true then 0 else len)
def rl2 (x d r : Bool) (len : Int) (b : ByteArray) : Bool := decide (0 ≤ len ∧ len ≤ 64) && (if d = true then isCode len else decide (len ≤ 8)) && (!x || len == 8) && rl3 r len b
theorem rj3 (k : Nat) (hk : 1 ≤ k) (r bad : Bool) (id fl len : Int) (d : ByteArray) : signalboxref02_Right.j3 k r bad id fl len d = some (!bad && rl3 r len d) := by
  obtain ⟨k, rfl⟩ : ∃ m, k = m + 1 := ⟨k - 1, by omega⟩
  simp only [signalboxref02_Right.j3, size0, rl3]
  cases bad <;> cases r <;> simp <;> rfl
theorem rj2 (k : Nat) (hk : 22 ≤ k) (x d r bad : Bool) (id fl len : Int) (b : ByteArray) : signalboxref02_Right.j2 k x d r bad id fl len b = some (!bad && rl2 x d r len b) := by
  obtain ⟨k, rfl⟩ : ∃ m, k = m + 1 := ⟨k - 1, by omega⟩
  obtain ⟨c, hc, hd⟩ := rcode k (by omega) len
  have hd' : (c < 0) = (isCode len = false) := by
    rw [← decide_eq_true_eq (p := c < 0), hd]
    cases isCode len <;> simp
  simp only [signalboxref02_Right.j2, rj3 k (by omega), hc, ob, hd', rl2]
  cases bad with
  | true => simp
  | false =>
    by_cases h0 : len < 0
    · have : ¬ (0 ≤ len ∧ len ≤ 64) := by omega
      simp [h0, this]
    · by_cases h1 : len > 64
      · have : ¬ (0 ≤ len ∧ len ≤ 64) := by omega
        simp [h0, h1, this]
      · have h2 : 0 ≤ len ∧ len ≤ 64 := by omega
        simp only [h0, h1, h2, and_self, decide_true, Bool.true_and, if_false, Bool.not_false]
        cases d with
        | true =>
          cases isCode len <;> cases x <;> simp [bne]
        | false =>
          by_cases h3 : len > 8
          · have : ¬ len ≤ 8 := by omega
            simp [h3, this]
          · have : len ≤ 8 := by omega
            cases x <;> simp [h3, this, bne]
theorem rj1 (k : Nat) (hk : 23 ≤ k) (x d r e bad : Bool) (id fl len : Int) (b : ByteArray) : signalboxref02_Right.j1 k x d r e bad id fl len b = some (!bad && (decide (id ≤ 2047) || e || x) && rl2 x d r len b) := by
  obtain ⟨k, rfl⟩ : ∃ m, k = m + 1 := ⟨k - 1, by omega⟩
  simp only [signalboxref02_Right.j1, rj2 k (by omega)]
  cases bad with
  | true => simp
  | false =>
    by_cases h : id > 2047
    · have : ¬ id ≤ 2047 := by omega
      cases e <;> cases x <;> simp [h, this]
    · have : id ≤ 2047 := by omega
      simp [h, this]
theorem rright_eq (k : Nat) (hk : 30 ≤ k) (id fl len : Int) (b : ByteArray) : signalboxref02_Right.f k id fl len b = some (rgt id fl len b) := by
  obtain ⟨k, rfl⟩ : ∃ m, k = m + 1 := ⟨k - 1, by omega⟩
  have ht : ∀ k, signalboxref02_Right.j0 (k + 1) true id fl len b = some false := fun k => rfl
  simp only [signalboxref02_Right.f, ht]
  by_cases h0 : fl < 0
  · have : ¬ (0 ≤ fl ∧ fl ≤ 63) := by omega
    simp [h0, rgt, flg, this]
  by_cases h1 : fl > 63
  · have : ¬ (0 ≤ fl ∧ fl ≤ 63) := by omega
    simp [h0, h1, rgt, flg, this]
  rw [if_neg h0, if_neg h1]
  by_cases h2 : id < 0
  · have : ¬ (0 ≤ id ∧ id ≤ mst fl) := by omega
    simp [h2, rgt, this]
  rw [if_neg h2]
  have hm := mst_le fl
  by_cases h3 : id > 536870911
  · have : ¬ (0 ≤ id ∧ id ≤ mst fl) := by omega
    have e : decide (id > 536870911) = true := by simpa using h3
    rw [e, ht]
    simp [rgt, this]
  have e : decide (id > 536870911) = false := by simpa using h3
  rw [e]
  obtain ⟨a1, a2, a4, a8, a16, a32⟩ := rhas id fl len b (by omega) (by omega)
  have hx := (has_fl fl (by omega) (by omega)).2.2.2.2.2.2
  have hr : 0 ≤ fl ∧ fl ≤ 63 := by omega
  have hc := isCode_iff len
  have hm2 : decide (0 ≤ id ∧ id ≤ mst fl) = (decide (id ≤ 2047) || fE fl || fX fl) := by
    unfold mst
    split
    · next h => rw [Bool.or_assoc, h, Bool.or_true, decide_eq_true_eq]; omega
    · next h => rw [Bool.or_assoc, Bool.eq_false_iff.mpr h, Bool.or_false, Bool.eq_iff_iff]; simp; omega
  simp only [signalboxref02_Right.j0, a1, a2, a4, a8, a16, a32, ob, rj1 k (by omega), show rgt id fl len b = (flg fl && decide (0 ≤ id ∧ id ≤ mst fl) && lng fl len && rl3 (fR fl) len b) from rfl, hm2, flg, lng, rl2, hr, hx, and_self, decide_true, Bool.true_and]
  clear a1 a2 a4 a8 a16 a32 hx e
  have c3 : ∀ z, (decide (0 ≤ len) && (decide (len ≤ 64) && (isCode len && z))) = (isCode len && z) := by
    intro z
    cases hi : isCode len with
    | false => simp
    | true => have := hc.mp hi; cases z <;> simp; omega
  have c4 : ∀ z, (decide (0 ≤ len) && (decide (len ≤ 64) && (decide (len ≤ 8) && z))) = (decide (0 ≤ len) && (decide (len ≤ 8) && z)) := by
    intro z
    rw [Bool.eq_iff_iff]
    cases z <;> simp
    omega
  have c5 : ∀ z, (decide (0 ≤ len) && (decide (len ≤ 8) && (len == 8 && z))) = (len == 8 && z) := by
    intro z
    rw [Bool.eq_iff_iff]
    cases z <;> simp
    omega
  cases fX fl <;> cases fE fl <;> cases fR fl <;> cases fD fl <;> cases fB fl <;> cases fS fl <;> simp [c3, c4, c5, Bool.and_assoc, Bool.decide_and]

theorem ad (i : Nat) (hi : i ≤ 31) (w : Int) (h0 : 0 ≤ w) (h1 : w < 4294967296) : (Go.bits .and .u32 w (2 ^ i) = 0) = (w / 2 ^ i % 2 = 0) := by
  obtain ⟨n, rfl⟩ := Int.eq_ofNat_of_zero_le h0
  have hp : (2 : Nat) ^ i < 2 ^ 32 := Nat.pow_lt_pow_right (by decide) (by omega)
  have hp0 : 0 < (2 : Nat) ^ i := Nat.two_pow_pos i
  have hc : ((2 : Int) ^ i) = ((2 ^ i : Nat) : Int) := by simp
  have hk : n &&& 2 ^ i = 0 ↔ n / 2 ^ i % 2 = 0 := by
    have hb : n.testBit i = false ↔ n / 2 ^ i % 2 = 0 := by rw [Nat.testBit_eq_decide_div_mod_eq, decide_eq_false_iff_not]; omega
    rw [← hb]
    constructor
    · intro h
      have := congrArg (fun z => Nat.testBit z i) h
      simpa [Nat.testBit_and, Nat.testBit_two_pow] using this
    · intro h
      apply Nat.eq_of_testBit_eq
      intro j
      rw [Nat.testBit_and, Nat.testBit_two_pow, Nat.zero_testBit]
      by_cases e : i = j
      · subst e; rw [h]; rfl
      · rw [decide_eq_false e, Bool.and_false]
  rw [hc, (bits_nat .u32 32 (by decide) wraps_u32 n (2 ^ i) (by omega) hp).1]
  have hz : ((n : Int) / ((2 ^ i : Nat) : Int) % 2) = ((n / 2 ^ i % 2 : Nat) : Int) := by simp
  rw [hz]
  exact propext ⟨fun h => by have := hk.mp (by omega); omega, fun h => by have := hk.mpr (by omega); omega⟩
def ofl (w : Int) : Int := w / 2147483648 % 2 + 2 * (w / 1073741824 % 2) + 4 * (w / 536870912 % 2)
def ofd (w : Int) (a : ByteArray) : ByteArray := if w / 1073741824 % 2 = 0 then a else ⟨#[]⟩
theorem ors : Go.bits .or .i64 0 1 = 1 ∧ Go.bits .or .i64 0 2 = 2 ∧ Go.bits .or .i64 1 2 = 3 ∧ Go.bits .or .i64 0 4 = 4 ∧ Go.bits .or .i64 1 4 = 5 ∧ Go.bits .or .i64 2 4 = 6 ∧ Go.bits .or .i64 3 4 = 7 := by decide +kernel
theorem of_eq (k : Nat) (hk : 4 ≤ k) (w : Int) (h0 : 0 ≤ w) (h1 : w < 4294967296) (a : ByteArray) :
    frame_Of.f k w a = some (if rgt (w % 536870912) (ofl w) a.size (ofd w a) = true then (w % 536870912, ofl w, (a.size : Int), ofd w a, 0) else (0, 0, 0, ⟨#[]⟩, 4)) := by
  obtain ⟨k, rfl⟩ : ∃ m, k = m + 2 := ⟨k - 2, by omega⟩
  have m1 : Go.bits .and .u32 w 536870911 = w % 536870912 := bits_mask .u32 32 (by decide) wraps_u32 29 (by decide) w h0 h1
  have w1 : wrap64 (w % 536870912) = w % 536870912 := w64 (by omega) (by omega)
  have a31 : (Go.bits .and .u32 w 2147483648 = 0) = (w / 2147483648 % 2 = 0) := ad 31 (by decide) w h0 h1
  have a30 : (Go.bits .and .u32 w 1073741824 = 0) = (w / 1073741824 % 2 = 0) := ad 30 (by decide) w h0 h1
  have a29 : (Go.bits .and .u32 w 536870912 = 0) = (w / 536870912 % 2 = 0) := ad 29 (by decide) w h0 h1
  obtain ⟨o1, o2, o3, o4, o5, o6, o7⟩ := ors
  have hend : ∀ fl (d : ByteArray), (frame_Right.f k (w % 536870912) fl a.size d).bind (fun t144 => (if t144 = 0 then (some (w % 536870912, fl, (a.size : Int), d, 0)) else (some (0, 0, 0, (⟨#[]⟩ : ByteArray), t144)))) = some (if rgt (w % 536870912) fl a.size d = true then (w % 536870912, fl, (a.size : Int), d, 0) else (0, 0, 0, ⟨#[]⟩, 4)) := by
    intro fl d
    cases h : rgt (w % 536870912) fl a.size d with
    | true => rw [right0 k (by omega) _ _ _ _ h, ob]; rfl
    | false => rw [right4 k (by omega) _ _ _ _ h, ob]; rfl
  simp only [frame_Of.f, frame_Of.j0, frame_Of.j1, m1, w1, a31, a30, a29, o1, ofl, ofd]
  have c31 : w / 2147483648 % 2 = 0 ∨ w / 2147483648 % 2 = 1 := by omega
  have c30 : w / 1073741824 % 2 = 0 ∨ w / 1073741824 % 2 = 1 := by omega
  have c29 : w / 536870912 % 2 = 0 ∨ w / 536870912 % 2 = 1 := by omega
  rcases c31 with h31 | h31 <;> rcases c30 with h30 | h30 <;> rcases c29 with h29 | h29 <;> simp only [h31, h30, h29, if_true, if_neg (show ¬ (1 : Int) = 0 by decide), o2, o3, o4, o5, o6, o7] <;> exact hend _ _
theorem ofl_facts (w : Int) : fE (ofl w) = decide (w / 2147483648 % 2 = 1) ∧ fR (ofl w) = decide (w / 1073741824 % 2 = 1) ∧ fX (ofl w) = decide (w / 536870912 % 2 = 1) := by
  unfold ofl fE fR fX
  have c31 : w / 2147483648 % 2 = 0 ∨ w / 2147483648 % 2 = 1 := by omega
  have c30 : w / 1073741824 % 2 = 0 ∨ w / 1073741824 % 2 = 1 := by omega
  have c29 : w / 536870912 % 2 = 0 ∨ w / 536870912 % 2 = 1 := by omega
  rcases c31 with h31 | h31 <;> rcases c30 with h30 | h30 <;> rcases c29 with h29 | h29 <;> rw [h31, h30, h29] <;> decide
theorem wrd_range (id fl : Int) (h0 : 0 ≤ id) (h1 : id ≤ 536870911) : 0 ≤ wrd id fl ∧ wrd id fl < 4294967296 := by
  unfold wrd
  split <;> split <;> split <;> omega
theorem wrd_parts (id fl : Int) (h0 : 0 ≤ id) (h1 : id ≤ 536870911) : wrd id fl % 536870912 = id ∧ ofl (wrd id fl) = (if fE fl = true then 1 else 0) + 2 * (if fR fl = true then 1 else 0) + 4 * (if fX fl = true then 1 else 0) ∧ ((wrd id fl / 1073741824 % 2 = 0) ↔ fR fl = false) := by
  unfold wrd ofl
  cases fE fl <;> cases fR fl <;> cases fX fl <;> simp <;> omega

theorem alive_k : ∃ K, ∀ k, K ≤ k → signalboxlaw02_alive.f k = some true :=
  Ev.of signalboxlaw02_alive.mono (k := 20) (by decide +kernel)

theorem rof_eq (k : Nat) (hk : 40 ≤ k) (w : Int) (h0 : 0 ≤ w) (h1 : w < 4294967296) (a : ByteArray) :
    signalboxref02_Of.f k w a = some (if rgt (w % 536870912) (ofl w) a.size (ofd w a) = true then (w % 536870912, ofl w, (a.size : Int), ofd w a, true) else (0, 0, 0, ⟨#[]⟩, false)) := by
  obtain ⟨k, rfl⟩ : ∃ m, k = m + 2 := ⟨k - 2, by omega⟩
  have t31 : Int.tdiv w 2147483648 % 4294967296 = w / 2147483648 % 2 := by rw [Int.tdiv_eq_ediv_of_nonneg h0]; omega
  have t30 : Int.tdiv w 1073741824 % 4294967296 % 2 = w / 1073741824 % 2 := by rw [Int.tdiv_eq_ediv_of_nonneg h0]; omega
  have t29 : Int.tdiv w 536870912 % 4294967296 % 2 = w / 536870912 % 2 := by rw [Int.tdiv_eq_ediv_of_nonneg h0]; omega
  have w1 : wrap64 (Int.tmod w 536870912) = w % 536870912 := by rw [Int.tmod_eq_emod_of_nonneg h0]; exact w64 (by omega) (by omega)
  have p : wrap64 (0 + 2) = 2 ∧ wrap64 (1 + 2) = 3 ∧ wrap64 (0 + 4) = 4 ∧ wrap64 (1 + 4) = 5 ∧ wrap64 (2 + 4) = 6 ∧ wrap64 (3 + 4) = 7 := by decide +kernel
  obtain ⟨p1, p2, p3, p4, p5, p6⟩ := p
  have hend : ∀ fl (d : ByteArray), (signalboxref02_Right.f k (w % 536870912) fl a.size d).bind (fun t144 => (if t144 = true then (some (w % 536870912, fl, (a.size : Int), d, true)) else (some (0, 0, 0, (⟨#[]⟩ : ByteArray), false)))) = some (if rgt (w % 536870912) fl a.size d = true then (w % 536870912, fl, (a.size : Int), d, true) else (0, 0, 0, ⟨#[]⟩, false)) := by
    intro fl d
    rw [rright_eq k (by omega), ob]
    split <;> rfl
  simp only [signalboxref02_Of.f, signalboxref02_Of.j0, signalboxref02_Of.j1, t31, t30, t29, w1, ofl, ofd]
  have c31 : w / 2147483648 % 2 = 0 ∨ w / 2147483648 % 2 = 1 := by omega
  have c30 : w / 1073741824 % 2 = 0 ∨ w / 1073741824 % 2 = 1 := by omega
  have c29 : w / 536870912 % 2 = 0 ∨ w / 536870912 % 2 = 1 := by omega
  rcases c31 with h31 | h31 <;> rcases c30 with h30 | h30 <;> rcases c29 with h29 | h29 <;> simp only [h31, h30, h29, if_true, if_neg (show ¬ (1 : Int) = 0 by decide), if_neg (show ¬ (0 : Int) = 1 by decide), p1, p2, p3, p4, p5, p6] <;> exact hend _ _
theorem FrameOf : signalboxlaw02_FrameOf.Pure := by
  intro w a hw ha
  have hw := wf_u32 hw
  obtain ⟨K, hK⟩ := alive_k
  obtain ⟨M, hM⟩ : ∃ M, M = K + 5000 := ⟨_, rfl⟩
  refine ⟨M + 1, ?_⟩
  have ha := hK M (by omega)
  have ha1 := hK (M + 1) (by omega)
  simp only [signalboxlaw02_FrameOf.f, signalboxlaw02_FrameOf.j0]
  by_cases hz : (a.size : Int) > 100
  · rw [if_pos hz, ha1, ob]
  · rw [if_neg hz, of_eq (M + 1) (by omega) w hw.1 (by omega), ob, rof_eq (M + 1) (by omega) w hw.1 (by omega), ob]
    cases h : rgt (w % 536870912) (ofl w) a.size (ofd w a) with
    | false =>
      simp [ha]
    | true =>
      have hwd : wrd (w % 536870912) (ofl w) = w := by
        have := ofl_facts w
        unfold wrd
        rw [this.1, this.2.1, this.2.2]
        simp only [decide_eq_true_eq]
        split <;> split <;> split <;> omega
      simp [ha, word_eq M (by omega) _ _ _ _ h, hwd]

end Go.Proofs.Ytipaiggajialpaa.Pure
