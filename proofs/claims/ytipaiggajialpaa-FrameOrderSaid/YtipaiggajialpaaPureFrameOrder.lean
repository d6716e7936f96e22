/- FrameOrder: the order of the frames is one: no frame goes ahead of itself, it goes on from frame to frame, and two that have a rank stand alike only where the wire says so. Conditions: none beyond the statement's own. -/
import Derived.Test.YtipaiggajialpaaPFrameOrderx5
namespace Go.Proofs.Ytipaiggajialpaa.Pure
open Go.RowKit Go.Proofs.Ytipaiggajialpaa.PFrameOrder Go.Proofs.YtipaiggajialpaaW.PrintWords Go.Proofs.YtipaiggajialpaaW.PrintLast
set_option linter.unusedVariables false
set_option linter.unusedSimpArgs false

theorem wf_i64 {n : Int} (h : (Lit.int .i64 n).wf = true) : -9223372036854775808 ≤ n ∧ n ≤ 9223372036854775807 := by
  simp only [Lit.wf, Bool.and_eq_true, decide_eq_true_eq] at h
  exact h
theorem wf_u32 {n : Int} (h : (Lit.int .u32 n).wf = true) : 0 ≤ n ∧ n ≤ 4294967295 := by
  simp only [Lit.wf, Bool.and_eq_true, decide_eq_true_eq] at h
  exact h
theorem wf_i32 {n : Int} (h : (Lit.int .i32 n).wf = true) : -2147483648 ≤ n ∧ n ≤ 2147483647 := by
  simp only [Lit.wf, Bool.and_eq_true, decide_eq_true_eq] at h
  exact h
theorem w64 {n : Int} (h0 : -9223372036854775808 ≤ n) (h1 : n ≤ 9223372036854775807) : wrap64 n = n := by unfold wrap64; omega

theorem bt_size {s : ByteArray} {i : Nat} (h : i < s.size) : bt s (i : Int) = (s.data.toList[i]'(by rw [Array.length_toList]; exact h)).toNat := by
  have e := bt_at s (i : Int) (by simpa using h)
  rw [← e]
  simp
  rfl
theorem bt_none {s : ByteArray} {i : Int} (h : (s.size : Int) ≤ i) : bt s i = 0 := by
  unfold bt
  rw [dif_neg (by omega)]
theorem bt_num (l : List Int) (hl : ∀ x ∈ l, 0 ≤ x ∧ x ≤ 255) (i : Nat) (h : i < l.length) : bt (strOfNums l) i = l[i] := by
  have hs : i < (strOfNums l).size := by rw [strOfNums_size]; exact h
  rw [bt_size hs]
  have hx := hl l[i] (List.getElem_mem h)
  have : (strOfNums l).data.toList[i]'(by rw [Array.length_toList]; exact hs) = UInt8.ofNat (l[i]).toNat := by
    simp [strOfNums]
  rw [this]
  simp
  omega
theorem bytes_ext {s t : ByteArray} (hz : s.size = t.size) (h : ∀ i : Nat, i < s.size → bt s i = bt t i) : s = t := by
  have : s.data.toList = t.data.toList := by
    apply List.ext_getElem
    · rw [Array.length_toList, Array.length_toList]; exact hz
    · intro i h1 h2
      rw [Array.length_toList] at h1 h2
      have e := h i h1
      rw [bt_size h1, bt_size (show i < t.size from h2)] at e
      have e2 : (s.data.toList[i]).toNat = (t.data.toList[i]).toNat := by exact_mod_cast e
      exact UInt8.toNat_inj.mp e2
  obtain ⟨a⟩ := s
  obtain ⟨b⟩ := t
  have : a.toList = b.toList := this
  rw [Array.toList_inj.mp this]
theorem toList_inj' {s t : ByteArray} : s.toList = t.toList ↔ s = t := by
  constructor
  · intro h
    rw [ByteArray.toList_eq, ByteArray.toList_eq] at h
    obtain ⟨a⟩ := s
    obtain ⟨b⟩ := t
    have h : a.toList = b.toList := h
    rw [Array.toList_inj.mp h]
  · intro h; rw [h]
theorem str_beq (s t : ByteArray) : (s.toList == t.toList) = decide (s = t) := by
  rw [Bool.eq_iff_iff]
  simp [toList_inj']
/-- The comparison of two texts as the print has it, without 'toList' (which the kernel had better not unfold). -/
theorem ite_tl {α : Type} (x y : ByteArray) (p q : α) : (if x.toList = y.toList then p else q) = if x = y then p else q := by
  by_cases h : x = y
  · rw [if_pos h, if_pos (by rw [h])]
  · rw [if_neg h, if_neg (fun e => h (toList_inj'.mp e))]
theorem ite_tl0 {α : Type} (x : ByteArray) (p q : α) : (if x.toList = ([] : List UInt8) then p else q) = if x = ⟨#[]⟩ then p else q := by
  have e : (⟨#[]⟩ : ByteArray).toList = [] := by rw [ByteArray.toList_eq]
  by_cases h : x = ⟨#[]⟩
  · rw [if_pos h, if_pos (by rw [h, e])]
  · rw [if_neg h, if_neg (fun e2 => h (toList_inj'.mp (by rw [e2, e])))]

/-- 'Option.bind_some' as an equation that simp carries along (not by 'rfl': else the kernel unfolds what is bound). -/
theorem ob {α β : Type} (a : α) (f : α → Option β) : (some a).bind f = f a := by
  have h : (some a).bind f = f a := rfl
  exact h.symm.symm

/-! The flags of a frame, by number. -/
def fE (fl : Int) : Bool := decide (fl % 2 = 1)
def fR (fl : Int) : Bool := decide (fl / 2 % 2 = 1)
def fX (fl : Int) : Bool := decide (fl / 4 % 2 = 1)
def fD (fl : Int) : Bool := decide (fl / 8 % 2 = 1)
def fB (fl : Int) : Bool := decide (fl / 16 % 2 = 1)
def fS (fl : Int) : Bool := decide (fl / 32 % 2 = 1)
theorem has_all : ∀ x : Fin 64, ((Go.bits .and .i64 (x.val : Int) 1) != 0) = fE x.val ∧ ((Go.bits .and .i64 (x.val : Int) 2) != 0) = fR x.val ∧ ((Go.bits .and .i64 (x.val : Int) 4) != 0) = fX x.val ∧ ((Go.bits .and .i64 (x.val : Int) 8) != 0) = fD x.val
    ∧ ((Go.bits .and .i64 (x.val : Int) 48) != 0) = (fB x.val || fS x.val) ∧ ((Go.bits .and .i64 (x.val : Int) 5) != 0) = (fE x.val || fX x.val)
    ∧ ((x.val : Int) == 4) = (fX x.val && !fE x.val && !fR x.val && !fD x.val && !fB x.val && !fS x.val) := by decide +kernel
theorem has_fl (fl : Int) (h0 : 0 ≤ fl) (h1 : fl ≤ 63) : ((Go.bits .and .i64 fl 1) != 0) = fE fl ∧ ((Go.bits .and .i64 fl 2) != 0) = fR fl ∧ ((Go.bits .and .i64 fl 4) != 0) = fX fl ∧ ((Go.bits .and .i64 fl 8) != 0) = fD fl
    ∧ ((Go.bits .and .i64 fl 48) != 0) = (fB fl || fS fl) ∧ ((Go.bits .and .i64 fl 5) != 0) = (fE fl || fX fl) ∧ (fl == 4) = (fX fl && !fE fl && !fR fl && !fD fl && !fB fl && !fS fl) := by
  have := has_all ⟨fl.toNat, by omega⟩
  have e : (fl.toNat : Int) = fl := by omega
  simpa only [e] using this
/-- Has a length a code? -/
def isCode (len : Int) : Bool := (frst (fun x => x == len) 0 szL).2.2
def flg (fl : Int) : Bool := decide (0 ≤ fl ∧ fl ≤ 63) && (if fX fl = true then fl == 4 else if fD fl = true then !fR fl else !(fB fl || fS fl))
def mst (fl : Int) : Int := if (fE fl || fX fl) = true then 536870911 else 2047
def lng (fl len : Int) : Bool := if fX fl = true then len == 8 else if fD fl = true then isCode len else decide (0 ≤ len ∧ len ≤ 8)
/-- May a frame be? -/
def rgt (id fl len : Int) (d : ByteArray) : Bool := flg fl && decide (0 ≤ id ∧ id ≤ mst fl) && lng fl len && decide ((d.size : Int) = if fR fl = true then 0 else len)
theorem flags_eq (k : Nat) (hk : 1 ≤ k) (id fl len : Int) (d : ByteArray) : frame_flags.f k id fl len d = some (flg fl) := by
  obtain ⟨k, rfl⟩ : ∃ m, k = m + 1 := ⟨k - 1, by omega⟩
  simp only [frame_flags.f, frame_flags.j0, frame_has.f, ob, flg]
  by_cases h0 : fl < 0
  · rw [if_pos h0, if_pos trivial]
    have : ¬ (0 ≤ fl ∧ fl ≤ 63) := by omega
    simp [this]
  · rw [if_neg h0]
    by_cases h1 : fl > 63
    · rw [if_pos (by simpa using h1)]
      have : ¬ (0 ≤ fl ∧ fl ≤ 63) := by omega
      simp [this]
    · rw [if_neg (by simpa using h1)]
      have hh := has_fl fl (by omega) (by omega)
      have : 0 ≤ fl ∧ fl ≤ 63 := by omega
      rw [hh.2.1, hh.2.2.1, hh.2.2.2.1, hh.2.2.2.2.1]
      simp only [this, and_self, decide_true, Bool.true_and]
      split
      · rfl
      · split <;> rfl
theorem flg_range (fl : Int) (h : flg fl = true) : 0 ≤ fl ∧ fl ≤ 63 := by
  unfold flg at h
  simp only [Bool.and_eq_true, decide_eq_true_eq] at h
  exact h.1
theorem most_eq (id fl len : Int) (d : ByteArray) (h : flg fl = true) : frame_most.f id fl len d = some (mst fl) := by
  have hh := has_fl fl (flg_range fl h).1 (flg_range fl h).2
  simp only [frame_most.f, frame_has.f, ob, hh.2.2.2.2.2.1, mst]
  split <;> rfl
theorem long_eq (id fl len : Int) (d : ByteArray) (h : flg fl = true) : frame_long.f id fl len d = some (lng fl len) := by
  have hh := has_fl fl (flg_range fl h).1 (flg_range fl h).2
  simp only [frame_long.f, frame_has.f, ob, hh.2.2.1, hh.2.2.2.1, lng, frame_Code.f, isCode]
  split
  · rfl
  · split
    · rfl
    · by_cases h0 : len ≥ 0
      · rw [if_pos h0]
        congr 1
        simp
        omega
      · rw [if_neg h0]
        simp
        omega
theorem right_eq (k : Nat) (hk : 1 ≤ k) (id fl len : Int) (d : ByteArray) : frame_Right.f k id fl len d = some (if rgt id fl len d = true then 0 else 4) := by
  obtain ⟨k, rfl⟩ : ∃ m, k = m + 1 := ⟨k - 1, by omega⟩
  simp only [frame_Right.f, flags_eq (k + 1) (by omega), ob, frame_Right.j0]
  cases hf : flg fl with
  | false => simp [rgt, hf]
  | true =>
    have hh := has_fl fl (flg_range fl hf).1 (flg_range fl hf).2
    simp only [if_true, most_eq id fl len d hf, long_eq id fl len d hf, ob, frame_has.f, hh.2.1]
    by_cases h0 : id < 0
    · rw [if_pos h0]
      have : ¬ (0 ≤ id ∧ id ≤ mst fl) := by omega
      simp [rgt, this]
    · rw [if_neg h0]
      by_cases h1 : id > mst fl
      · rw [if_pos (by simpa using h1)]
        have : ¬ (0 ≤ id ∧ id ≤ mst fl) := by omega
        simp [rgt, this]
      · rw [if_neg (by simpa using h1)]
        have h2 : 0 ≤ id ∧ id ≤ mst fl := by omega
        cases hl : lng fl len with
        | false => simp [rgt, hl]
        | true =>
          simp only [rgt, hf, hl, h2, and_self, decide_true, Bool.true_and, if_true]
          cases hr : fR fl with
          | false =>
            simp only [Bool.false_eq_true, if_false, decide_eq_true_eq]
            split <;> rfl
          | true =>
            simp only [if_true, decide_eq_true_eq]
            split <;> rfl
theorem right0 (k : Nat) (hk : 1 ≤ k) (id fl len : Int) (d : ByteArray) (h : rgt id fl len d = true) : frame_Right.f k id fl len d = some 0 := by rw [right_eq k hk, if_pos h]
theorem right4 (k : Nat) (hk : 1 ≤ k) (id fl len : Int) (d : ByteArray) (h : rgt id fl len d = false) : frame_Right.f k id fl len d = some 4 := by rw [right_eq k hk, if_neg (by simp [h])]
theorem rgt_facts (id fl len : Int) (d : ByteArray) (h : rgt id fl len d = true) : flg fl = true ∧ 0 ≤ id ∧ id ≤ mst fl ∧ lng fl len = true ∧ ((d.size : Int) = if fR fl = true then 0 else len) := by
  unfold rgt at h
  simp only [Bool.and_eq_true, decide_eq_true_eq] at h
  exact ⟨h.1.1.1, h.1.1.2.1, h.1.1.2.2, h.1.2, h.2⟩
theorem mst_le (fl : Int) : mst fl ≤ 536870911 := by unfold mst; split <;> omega

theorem wraps_i64 (n : Int) (h₀ : 0 ≤ n) (h₁ : n < 2 ^ 62) : IntKind.i64.wrap n = n := by rw [IntKind.wrap_i64]; omega
theorem jn (i : Nat) (x y : Int) (hx : 0 ≤ x) (hm : x % 2 ^ i = 0) (hx1 : x < 4611686018427387904) (hy : 0 ≤ y) (hy1 : y < 2 ^ i) (hy2 : y < 4611686018427387904) : Go.bits .or .i64 x y = x + y :=
  bits_join .i64 62 (by decide) wraps_i64 i x y hx hm (by omega) hy hy1 (by omega)
def bi (b : Bool) : Int := if b = true then 1 else 0
theorem bi_range (b : Bool) : 0 ≤ bi b ∧ bi b ≤ 1 := by cases b <;> decide
/-- A frame's rank. -/
def kf (id fl : Int) : Int := if fE fl = true then (((id / 262144 * 4 + 3) * 262144 + id % 262144) * 2 + bi (fR fl)) * 2 + bi (fD fl) else (id * 4 + bi (fR fl) * 2) * 524288 * 2 + bi (fD fl)
def kv (id fl len : Int) (d : ByteArray) : Int := if (rgt id fl len d && !fX fl) = true then kf id fl else -1
theorem kf_pos (id fl : Int) (h : 0 ≤ id) : 0 ≤ kf id fl := by
  have h1 := bi_range (fR fl)
  have h2 := bi_range (fD fl)
  unfold kf
  split <;> omega
theorem bit_eq' (id fl len : Int) (d : ByteArray) (h : flg fl = true) : frame_bit.f id fl len d 2 = some (bi (fR fl)) ∧ frame_bit.f id fl len d 8 = some (bi (fD fl)) := by
  have hh := has_fl fl (flg_range fl h).1 (flg_range fl h).2
  simp only [frame_bit.f, frame_has.f, ob, hh.2.1, hh.2.2.2.1, bi]
  constructor <;> split <;> rfl
theorem key_eq (k : Nat) (hk : 2 ≤ k) (id fl len : Int) (d : ByteArray) : frame_Key.f k id fl len d = some (kv id fl len d) := by
  obtain ⟨k, rfl⟩ : ∃ m, k = m + 1 := ⟨k - 1, by omega⟩
  have ht : frame_Key.j0 (k + 1) true id fl len d = some (-1) := rfl
  cases h : rgt id fl len d with
  | false =>
    simp only [frame_Key.f, right4 (k + 1) (by omega) id fl len d h, ob, ht, kv, h]
    rw [if_neg (by decide)]
    rfl
  | true =>
    obtain ⟨hf, i0, i1, _, _⟩ := rgt_facts id fl len d h
    have hh := has_fl fl (flg_range fl hf).1 (flg_range fl hf).2
    simp only [frame_Key.f, right0 (k + 1) (by omega) id fl len d h, ob, kv, h, if_true, Bool.true_and, frame_has.f, hh.2.2.1]
    cases hx : fX fl with
    | true => rw [ht]; rfl
    | false =>
      obtain ⟨b1, b2⟩ := bit_eq' id fl len d hf
      simp only [frame_Key.j0, frame_has.f, hh.1, b1, b2, ob, kf, Bool.false_eq_true, if_false, Bool.not_false, if_true]
      have r1 := bi_range (fR fl)
      have r2 := bi_range (fD fl)
      generalize bi (fR fl) = r at *
      generalize bi (fD fl) = e at *
      have hm := mst_le fl
      have w1 : wrap64 (id / 262144 * 4) = id / 262144 * 4 := w64 (by omega) (by omega)
      have o1 : Go.bits .or .i64 (id / 262144 * 4) 3 = id / 262144 * 4 + 3 := jn 2 _ _ (by omega) (by omega) (by omega) (by omega) (by omega) (by omega)
      have w2 : wrap64 ((id / 262144 * 4 + 3) * 262144) = (id / 262144 * 4 + 3) * 262144 := w64 (by omega) (by omega)
      have m1 : Go.bits .and .i64 id 262143 = id % 262144 := bits_mask .i64 62 (by decide) wraps_i64 18 (by decide) id i0 (by omega)
      have o2 : Go.bits .or .i64 ((id / 262144 * 4 + 3) * 262144) (id % 262144) = (id / 262144 * 4 + 3) * 262144 + id % 262144 := jn 18 _ _ (by omega) (by omega) (by omega) (by omega) (by omega) (by omega)
      have w3 : wrap64 (((id / 262144 * 4 + 3) * 262144 + id % 262144) * 2) = ((id / 262144 * 4 + 3) * 262144 + id % 262144) * 2 := w64 (by omega) (by omega)
      have o3 : Go.bits .or .i64 (((id / 262144 * 4 + 3) * 262144 + id % 262144) * 2) r = ((id / 262144 * 4 + 3) * 262144 + id % 262144) * 2 + r := jn 1 _ _ (by omega) (by omega) (by omega) (by omega) (by omega) (by omega)
      have w4 : wrap64 ((((id / 262144 * 4 + 3) * 262144 + id % 262144) * 2 + r) * 2) = (((id / 262144 * 4 + 3) * 262144 + id % 262144) * 2 + r) * 2 := w64 (by omega) (by omega)
      have o4 : Go.bits .or .i64 ((((id / 262144 * 4 + 3) * 262144 + id % 262144) * 2 + r) * 2) e = (((id / 262144 * 4 + 3) * 262144 + id % 262144) * 2 + r) * 2 + e := jn 1 _ _ (by omega) (by omega) (by omega) (by omega) (by omega) (by omega)
      have v1 : wrap64 (id * 4) = id * 4 := w64 (by omega) (by omega)
      have v2 : wrap64 (r * 2) = r * 2 := w64 (by omega) (by omega)
      have p1 : Go.bits .or .i64 (id * 4) (r * 2) = id * 4 + r * 2 := jn 2 _ _ (by omega) (by omega) (by omega) (by omega) (by omega) (by omega)
      have v3 : wrap64 ((id * 4 + r * 2) * 524288) = (id * 4 + r * 2) * 524288 := w64 (by omega) (by omega)
      have v4 : wrap64 ((id * 4 + r * 2) * 524288 * 2) = (id * 4 + r * 2) * 524288 * 2 := w64 (by omega) (by omega)
      have p2 : Go.bits .or .i64 ((id * 4 + r * 2) * 524288 * 2) e = (id * 4 + r * 2) * 524288 * 2 + e := jn 1 _ _ (by omega) (by omega) (by omega) (by omega) (by omega) (by omega)
      simp only [w1, o1, w2, m1, o2, w3, o3, w4, o4, v1, v2, p1, v3, v4, p2]
      split <;> rfl
theorem less_eq (k : Nat) (hk : 2 ≤ k) (i f l : Int) (d : ByteArray) (i2 f2 l2 : Int) (d2 : ByteArray) : frame_Less.f k i f l d i2 f2 l2 d2 = some (decide (0 ≤ kv i f l d ∧ 0 ≤ kv i2 f2 l2 d2 ∧ kv i f l d < kv i2 f2 l2 d2)) := by
  simp only [frame_Less.f, key_eq k hk, ob]
  generalize kv i f l d = a
  generalize kv i2 f2 l2 d2 = b
  by_cases h1 : a ≥ 0
  · by_cases h2 : b ≥ 0
    · rw [if_pos h1, if_pos h2]; congr 1; rw [decide_eq_decide]; omega
    · rw [if_pos h1, if_neg h2]; congr 1; symm; rw [decide_eq_false_iff_not]; omega
  · rw [if_neg h1]; congr 1; symm; rw [decide_eq_false_iff_not]; omega

theorem alive_k : ∃ K, ∀ k, K ≤ k → signalboxlaw02_alive.f k = some true :=
  Ev.of signalboxlaw02_alive.mono (k := 20) (by decide +kernel)

theorem and11_all : ∀ x : Fin 64, Go.bits .and .i64 (x.val : Int) 11 = bi (fE x.val) + 2 * bi (fR x.val) + 8 * bi (fD x.val) := by decide +kernel
theorem and11 (fl : Int) (h0 : 0 ≤ fl) (h1 : fl ≤ 63) : Go.bits .and .i64 fl 11 = bi (fE fl) + 2 * bi (fR fl) + 8 * bi (fD fl) := by
  have := and11_all ⟨fl.toNat, by omega⟩
  have e : (fl.toNat : Int) = fl := by omega
  simpa only [e] using this
/-- Two frames that have a rank, and the same id, have the same rank just where these flags are the same; other ids, other ranks. -/
theorem kv_same (i f l : Int) (d : ByteArray) (i2 f2 l2 : Int) (d2 : ByteArray) (h1 : 0 ≤ kv i f l d) (h2 : 0 ≤ kv i2 f2 l2 d2) :
    (kv i f l d = kv i2 f2 l2 d2) ↔ i = i2 ∧ Go.bits .and .i64 f 11 = Go.bits .and .i64 f2 11 := by
  unfold kv at h1 h2 ⊢
  by_cases g1 : (rgt i f l d && !fX f) = true
  · by_cases g2 : (rgt i2 f2 l2 d2 && !fX f2) = true
    · rw [if_pos g1, if_pos g2]
      simp only [Bool.and_eq_true, Bool.not_eq_true'] at g1 g2
      obtain ⟨ha, i0, i1, _, _⟩ := rgt_facts i f l d g1.1
      obtain ⟨hb, j0, j1, _, _⟩ := rgt_facts i2 f2 l2 d2 g2.1
      rw [and11 f (flg_range f ha).1 (flg_range f ha).2, and11 f2 (flg_range f2 hb).1 (flg_range f2 hb).2]
      unfold mst at i1 j1
      rw [g1.2] at i1
      rw [g2.2] at j1
      have r1 := bi_range (fR f)
      have r2 := bi_range (fR f2)
      have e1 := bi_range (fD f)
      have e2 := bi_range (fD f2)
      have t1 : bi true = 1 := rfl
      have t0 : bi false = 0 := rfl
      unfold kf
      generalize bi (fR f) = ra at *
      generalize bi (fR f2) = rb at *
      generalize bi (fD f) = da at *
      generalize bi (fD f2) = db at *
      cases hE : fE f <;> cases hE2 : fE f2 <;> simp only [hE, hE2, Bool.or_false, if_true, Bool.false_eq_true, if_false, t1, t0] at * <;> omega
    · rw [if_neg g2] at h2; omega
  · rw [if_neg g1] at h1; omega
theorem FrameOrder : signalboxlaw02_FrameOrder.Pure := by
  intro i f l d i2 f2 l2 d2 i3 f3 l3 d3 hi hf hl hd hi2 hf2 hl2 hd2 hi3 hf3 hl3 hd3
  obtain ⟨K, hK⟩ := alive_k
  obtain ⟨M, hM⟩ : ∃ M, M = K + 5000 := ⟨_, rfl⟩
  refine ⟨M + 2, ?_⟩
  have hs := kv_same i f l d i2 f2 l2 d2
  have ha : ∀ k, M ≤ k → signalboxlaw02_alive.f k = some true := fun k hk => hK k (by omega)
  simp only [signalboxlaw02_FrameOrder.f, signalboxlaw02_FrameOrder.j0, signalboxlaw02_FrameOrder.j1, key_eq (M + 1) (by omega), key_eq (M + 2) (by omega), key_eq M (by omega), less_eq M (by omega), less_eq (M + 1) (by omega), less_eq (M + 2) (by omega), ob, ha M (by omega), ha (M + 1) (by omega), ha (M + 2) (by omega)]
  generalize Go.bits .and .i64 f 11 = fa at *
  generalize Go.bits .and .i64 f2 11 = fb at *
  generalize kv i f l d = a at *
  generalize kv i2 f2 l2 d2 = b at *
  generalize kv i3 f3 l3 d3 = c at *
  clear hK
  have h0 : decide (0 ≤ a ∧ 0 ≤ a ∧ a < a) = false := by rw [decide_eq_false_iff_not]; omega
  rw [h0, if_neg (by decide)]
  clear h0
  by_cases p : 0 ≤ a ∧ 0 ≤ b ∧ a < b
  · have dp := decide_eq_true p
    have dq : decide (0 ≤ b ∧ 0 ≤ a ∧ b < a) = false := by rw [decide_eq_false_iff_not]; omega
    have n1 : ¬ a < 0 := by omega
    have n2 : decide (b < 0) = false := by rw [decide_eq_false_iff_not]; omega
    have hs := (not_congr (hs p.1 p.2.1)).mp (by omega)
    have hf : i = i2 → (fa == fb) = false := fun e => by rw [beq_eq_false_iff_ne]; exact fun h => hs ⟨e, h⟩
    have hend : (if i = i2 then if (false == (fa == fb)) = true then some true else some false else if (false == false) = true then some true else some false) = some true := by
      split
      · next e => rw [hf e]; rfl
      · rfl
    by_cases r : 0 ≤ b ∧ 0 ≤ c ∧ b < c
    · have dr := decide_eq_true r
      have ds : decide (0 ≤ a ∧ 0 ≤ c ∧ a < c) = true := by rw [decide_eq_true_eq]; omega
      simp only [dp, dq, dr, ds, if_true, Bool.false_eq_true, if_false, Bool.not_true, n1, n2, hend]
    · have dr := decide_eq_false r
      simp only [dp, dq, dr, if_true, Bool.false_eq_true, if_false, Bool.not_true, n1, n2, hend]
  · have dp := decide_eq_false p
    simp only [dp, Bool.false_eq_true, if_false]
    by_cases na : a < 0
    · simp only [na, if_true]
    · by_cases nb : b < 0
      · simp only [na, if_false, nb, decide_true, if_true]
      · have hs := hs (by omega) (by omega)
        have n2 : decide (b < 0) = false := by rw [decide_eq_false_iff_not]; omega
        simp only [na, if_false, n2, Bool.false_eq_true]
        by_cases q : 0 ≤ b ∧ 0 ≤ a ∧ b < a
        · have dq := decide_eq_true q
          have hs := (not_congr hs).mp (by omega)
          have hf : i = i2 → (fa == fb) = false := fun e => by rw [beq_eq_false_iff_ne]; exact fun h => hs ⟨e, h⟩
          simp only [dq]
          split
          · next e => rw [hf e]; rfl
          · rfl
        · have dq := decide_eq_false q
          have hs := hs.mp (by omega)
          simp only [dq, hs.1, hs.2, if_true]
          rw [if_pos]
          simp

end Go.Proofs.Ytipaiggajialpaa.Pure
