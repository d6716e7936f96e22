/- ArbLeast: the bits of any frame's key, and which of any frames has the least one, is as the document says. Conditions: none beyond the statement's own. -/
import Derived.Test.YtlhglkmiclcbcaaPArbLeastx10
namespace Go.Proofs.Ytlhglkmiclcbcaa.Pure
open Go.RowKit Go.Proofs.Ytlhglkmiclcbcaa.PArbLeast Go.Proofs.YtlhglkmiclcbcaaW.PrintWords Go.Proofs.YtlhglkmiclcbcaaW.PrintLast
set_option linter.unusedVariables false
set_option linter.unusedSimpArgs false

theorem wf_i64 {n : Int} (h : (Lit.int .i64 n).wf = true) : -9223372036854775808 ≤ n ∧ n ≤ 9223372036854775807 := by
  simp only [Lit.wf, Bool.and_eq_true, decide_eq_true_eq] at h
  exact h
theorem wf_u32 {n : Int} (h : (Lit.int .u32 n).wf = true) : 0 ≤ n ∧ n ≤ 4294967295 := by
  simp only [Lit.wf, Bool.and_eq_true, decide_eq_true_eq] at h
  exact h
theorem wf_i32 {n : Int} (h : (Lit.int .i32 n).wf = true) : -2147483648 ≤ n ∧ n ≤ 2147483647 := by
  simp only [Lit.wf, Bool.and_eq_true, decide_eq_true_eq] at h
  exact h
theorem w64 {n : Int} (h0 : -9223372036854775808 ≤ n) (h1 : n ≤ 9223372036854775807) : wrap64 n = n := by unfold wrap64; omega

/-- 'Option.bind_some' as an equation that simp carries along (not by 'rfl': else the kernel unfolds what is bound). -/
theorem ob {α β : Type} (a : α) (f : α → Option β) : (some a).bind f = f a := by
  have h : (some a).bind f = f a := rfl
  exact h.symm.symm

theorem up1 (j : Nat) (h : j < 1000000000) : wrap64 ((j : Int) + 1) = ((j + 1 : Nat) : Int) := by rw [w64 (by omega) (by omega)]; omega

theorem bt_size {s : ByteArray} {i : Nat} (h : i < s.size) : bt s (i : Int) = (s.data.toList[i]'(by rw [Array.length_toList]; exact h)).toNat := by
  have e := bt_at s (i : Int) (by simpa using h)
  rw [← e]
  simp
  rfl
theorem bt_none {s : ByteArray} {i : Int} (h : (s.size : Int) ≤ i) : bt s i = 0 := by
  unfold bt
  rw [dif_neg (by omega)]
theorem bt_num (l : List Int) (hl : ∀ x ∈ l, 0 ≤ x ∧ x ≤ 255) (i : Nat) (h : i < l.length) : bt (strOfNums l) i = l[i] := by
  have hs : i < (strOfNums l).size := by rw [strOfNums_size]; exact h
  rw [bt_size hs]
  have hx := hl l[i] (List.getElem_mem h)
  have : (strOfNums l).data.toList[i]'(by rw [Array.length_toList]; exact hs) = UInt8.ofNat (l[i]).toNat := by
    simp [strOfNums]
  rw [this]
  simp
  omega
theorem bytes_ext {s t : ByteArray} (hz : s.size = t.size) (h : ∀ i : Nat, i < s.size → bt s i = bt t i) : s = t := by
  have : s.data.toList = t.data.toList := by
    apply List.ext_getElem
    · rw [Array.length_toList, Array.length_toList]; exact hz
    · intro i h1 h2
      rw [Array.length_toList] at h1 h2
      have e := h i h1
      rw [bt_size h1, bt_size (show i < t.size from h2)] at e
      have e2 : (s.data.toList[i]).toNat = (t.data.toList[i]).toNat := by exact_mod_cast e
      exact UInt8.toNat_inj.mp e2
  obtain ⟨a⟩ := s
  obtain ⟨b⟩ := t
  have : a.toList = b.toList := this
  rw [Array.toList_inj.mp this]
theorem toList_inj' {s t : ByteArray} : s.toList = t.toList ↔ s = t := by
  constructor
  · intro h
    rw [ByteArray.toList_eq, ByteArray.toList_eq] at h
    obtain ⟨a⟩ := s
    obtain ⟨b⟩ := t
    have h : a.toList = b.toList := h
    rw [Array.toList_inj.mp h]
  · intro h; rw [h]
theorem str_beq (s t : ByteArray) : (s.toList == t.toList) = decide (s = t) := by
  rw [Bool.eq_iff_iff]
  simp [toList_inj']
/-- The comparison of two texts as the print has it, without 'toList' (which the kernel had better not unfold). -/
theorem ite_tl {α : Type} (x y : ByteArray) (p q : α) : (if x.toList = y.toList then p else q) = if x = y then p else q := by
  by_cases h : x = y
  · rw [if_pos h, if_pos (by rw [h])]
  · rw [if_neg h, if_neg (fun e => h (toList_inj'.mp e))]
theorem ite_tl0 {α : Type} (x : ByteArray) (p q : α) : (if x.toList = ([] : List UInt8) then p else q) = if x = ⟨#[]⟩ then p else q := by
  have e : (⟨#[]⟩ : ByteArray).toList = [] := by rw [ByteArray.toList_eq]
  by_cases h : x = ⟨#[]⟩
  · rw [if_pos h, if_pos (by rw [h, e])]
  · rw [if_neg h, if_neg (fun e2 => h (toList_inj'.mp (by rw [e2, e])))]

/-! The flags of a frame, by number. -/
def fE (fl : Int) : Bool := decide (fl % 2 = 1)
def fR (fl : Int) : Bool := decide (fl / 2 % 2 = 1)
def fX (fl : Int) : Bool := decide (fl / 4 % 2 = 1)
def fD (fl : Int) : Bool := decide (fl / 8 % 2 = 1)
def fB (fl : Int) : Bool := decide (fl / 16 % 2 = 1)
def fS (fl : Int) : Bool := decide (fl / 32 % 2 = 1)
theorem has_all : ∀ x : Fin 64, ((Go.bits .and .i64 (x.val : Int) 1) != 0) = fE x.val ∧ ((Go.bits .and .i64 (x.val : Int) 2) != 0) = fR x.val ∧ ((Go.bits .and .i64 (x.val : Int) 4) != 0) = fX x.val ∧ ((Go.bits .and .i64 (x.val : Int) 8) != 0) = fD x.val
    ∧ ((Go.bits .and .i64 (x.val : Int) 48) != 0) = (fB x.val || fS x.val) ∧ ((Go.bits .and .i64 (x.val : Int) 5) != 0) = (fE x.val || fX x.val)
    ∧ ((x.val : Int) == 4) = (fX x.val && !fE x.val && !fR x.val && !fD x.val && !fB x.val && !fS x.val) := by decide +kernel
theorem has_fl (fl : Int) (h0 : 0 ≤ fl) (h1 : fl ≤ 63) : ((Go.bits .and .i64 fl 1) != 0) = fE fl ∧ ((Go.bits .and .i64 fl 2) != 0) = fR fl ∧ ((Go.bits .and .i64 fl 4) != 0) = fX fl ∧ ((Go.bits .and .i64 fl 8) != 0) = fD fl
    ∧ ((Go.bits .and .i64 fl 48) != 0) = (fB fl || fS fl) ∧ ((Go.bits .and .i64 fl 5) != 0) = (fE fl || fX fl) ∧ (fl == 4) = (fX fl && !fE fl && !fR fl && !fD fl && !fB fl && !fS fl) := by
  have := has_all ⟨fl.toNat, by omega⟩
  have e : (fl.toNat : Int) = fl := by omega
  simpa only [e] using this
/-- Has a length a code? -/
def isCode (len : Int) : Bool := (frst (fun x => x == len) 0 szL).2.2
def flg (fl : Int) : Bool := decide (0 ≤ fl ∧ fl ≤ 63) && (if fX fl = true then fl == 4 else if fD fl = true then !fR fl else !(fB fl || fS fl))
def mst (fl : Int) : Int := if (fE fl || fX fl) = true then 536870911 else 2047
def lng (fl len : Int) : Bool := if fX fl = true then len == 8 else if fD fl = true then isCode len else decide (0 ≤ len ∧ len ≤ 8)
/-- May a frame be? -/
def rgt (id fl len : Int) (d : ByteArray) : Bool := flg fl && decide (0 ≤ id ∧ id ≤ mst fl) && lng fl len && decide ((d.size : Int) = if fR fl = true then 0 else len)
theorem flags_eq (k : Nat) (hk : 1 ≤ k) (id fl len : Int) (d : ByteArray) : frame_flags.f k id fl len d = some (flg fl) := by
  obtain ⟨k, rfl⟩ : ∃ m, k = m + 1 := ⟨k - 1, by omega⟩
  simp only [frame_flags.f, frame_flags.j0, frame_has.f, ob, flg]
  by_cases h0 : fl < 0
  · rw [if_pos h0, if_pos trivial]
    have : ¬ (0 ≤ fl ∧ fl ≤ 63) := by omega
    simp [this]
  · rw [if_neg h0]
    by_cases h1 : fl > 63
    · rw [if_pos (by simpa using h1)]
      have : ¬ (0 ≤ fl ∧ fl ≤ 63) := by omega
      simp [this]
    · rw [if_neg (by simpa using h1)]
      have hh := has_fl fl (by omega) (by omega)
      have : 0 ≤ fl ∧ fl ≤ 63 := by omega
      rw [hh.2.1, hh.2.2.1, hh.2.2.2.1, hh.2.2.2.2.1]
      simp only [this, and_self, decide_true, Bool.true_and]
      split
      · rfl
      · split <;> rfl
theorem flg_range (fl : Int) (h : flg fl = true) : 0 ≤ fl ∧ fl ≤ 63 := by
  unfold flg at h
  simp only [Bool.and_eq_true, decide_eq_true_eq] at h
  exact h.1
theorem most_eq (id fl len : Int) (d : ByteArray) (h : flg fl = true) : frame_most.f id fl len d = some (mst fl) := by
  have hh := has_fl fl (flg_range fl h).1 (flg_range fl h).2
  simp only [frame_most.f, frame_has.f, ob, hh.2.2.2.2.2.1, mst]
  split <;> rfl
theorem long_eq (id fl len : Int) (d : ByteArray) (h : flg fl = true) : frame_long.f id fl len d = some (lng fl len) := by
  have hh := has_fl fl (flg_range fl h).1 (flg_range fl h).2
  simp only [frame_long.f, frame_has.f, ob, hh.2.2.1, hh.2.2.2.1, lng, frame_Code.f, isCode]
  split
  · rfl
  · split
    · rfl
    · by_cases h0 : len ≥ 0
      · rw [if_pos h0]
        congr 1
        simp
        omega
      · rw [if_neg h0]
        simp
        omega
theorem right_eq (k : Nat) (hk : 1 ≤ k) (id fl len : Int) (d : ByteArray) : frame_Right.f k id fl len d = some (if rgt id fl len d = true then 0 else 4) := by
  obtain ⟨k, rfl⟩ : ∃ m, k = m + 1 := ⟨k - 1, by omega⟩
  simp only [frame_Right.f, flags_eq (k + 1) (by omega), ob, frame_Right.j0]
  cases hf : flg fl with
  | false => simp [rgt, hf]
  | true =>
    have hh := has_fl fl (flg_range fl hf).1 (flg_range fl hf).2
    simp only [if_true, most_eq id fl len d hf, long_eq id fl len d hf, ob, frame_has.f, hh.2.1]
    by_cases h0 : id < 0
    · rw [if_pos h0]
      have : ¬ (0 ≤ id ∧ id ≤ mst fl) := by omega
      simp [rgt, this]
    · rw [if_neg h0]
      by_cases h1 : id > mst fl
      · rw [if_pos (by simpa using h1)]
        have : ¬ (0 ≤ id ∧ id ≤ mst fl) := by omega
        simp [rgt, this]
      · rw [if_neg (by simpa using h1)]
        have h2 : 0 ≤ id ∧ id ≤ mst fl := by omega
        cases hl : lng fl len with
        | false => simp [rgt, hl]
        | true =>
          simp only [rgt, hf, hl, h2, and_self, decide_true, Bool.true_and, if_true]
          cases hr : fR fl with
          | false =>
            simp only [Bool.false_eq_true, if_false, decide_eq_true_eq]
            split <;> rfl
          | true =>
            simp only [if_true, decide_eq_true_eq]
            split <;> rfl
theorem right0 (k : Nat) (hk : 1 ≤ k) (id fl len : Int) (d : ByteArray) (h : rgt id fl len d = true) : frame_Right.f k id fl len d = some 0 := by rw [right_eq k hk, if_pos h]
theorem right4 (k : Nat) (hk : 1 ≤ k) (id fl len : Int) (d : ByteArray) (h : rgt id fl len d = false) : frame_Right.f k id fl len d = some 4 := by rw [right_eq k hk, if_neg (by simp [h])]
theorem rgt_facts (id fl len : Int) (d : ByteArray) (h : rgt id fl len d = true) : flg fl = true ∧ 0 ≤ id ∧ id ≤ mst fl ∧ lng fl len = true ∧ ((d.size : Int) = if fR fl = true then 0 else len) := by
  unfold rgt at h
  simp only [Bool.and_eq_true, decide_eq_true_eq] at h
  exact ⟨h.1.1.1, h.1.1.2.1, h.1.1.2.2, h.1.2, h.2⟩
theorem mst_le (fl : Int) : mst fl ≤ 536870911 := by unfold mst; split <;> omega

theorem rhas_all : ∀ x : Fin 64, (Int.tmod (wrap64 (Int.tdiv (x.val : Int) 1)) 2 == 1) = fE x.val ∧ (Int.tmod (wrap64 (Int.tdiv (x.val : Int) 2)) 2 == 1) = fR x.val ∧ (Int.tmod (wrap64 (Int.tdiv (x.val : Int) 4)) 2 == 1) = fX x.val ∧ (Int.tmod (wrap64 (Int.tdiv (x.val : Int) 8)) 2 == 1) = fD x.val
    ∧ (Int.tmod (wrap64 (Int.tdiv (x.val : Int) 16)) 2 == 1) = fB x.val ∧ (Int.tmod (wrap64 (Int.tdiv (x.val : Int) 32)) 2 == 1) = fS x.val := by decide +kernel
theorem rhas (id fl len : Int) (d : ByteArray) (h0 : 0 ≤ fl) (h1 : fl ≤ 63) : signalboxref02_Has.f id fl len d 1 = some (fE fl) ∧ signalboxref02_Has.f id fl len d 2 = some (fR fl) ∧ signalboxref02_Has.f id fl len d 4 = some (fX fl) ∧ signalboxref02_Has.f id fl len d 8 = some (fD fl)
    ∧ signalboxref02_Has.f id fl len d 16 = some (fB fl) ∧ signalboxref02_Has.f id fl len d 32 = some (fS fl) := by
  have := rhas_all ⟨fl.toNat, by omega⟩
  have e : (fl.toNat : Int) = fl := by omega
  simp only [e] at this
  simp only [signalboxref02_Has.f, if_neg (show ¬ fl < 0 by omega)]
  obtain ⟨a, b, c, d, e, f⟩ := this
  rw [if_neg (by decide), if_neg (by decide), if_neg (by decide), if_neg (by decide), if_neg (by decide), if_neg (by decide), a, b, c, d, e, f]
  exact ⟨rfl, rfl, rfl, rfl, rfl, rfl⟩
theorem frst_any (p : Int → Bool) (l : List Int) (i : Int) : (frst p i l).2.2 = l.any p := by
  induction l generalizing i with
  | nil => rfl
  | cons x l ih =>
    unfold frst
    cases hb : p x with
    | true => simp [hb]
    | false => simp [hb, ih]
theorem isCode_iff (len : Int) : isCode len = true ↔ len = 0 ∨ len = 1 ∨ len = 2 ∨ len = 3 ∨ len = 4 ∨ len = 5 ∨ len = 6 ∨ len = 7 ∨ len = 8 ∨ len = 12 ∨ len = 16 ∨ len = 20 ∨ len = 24 ∨ len = 32 ∨ len = 48 ∨ len = 64 := by
  have he : isCode len = szL.any (fun x => x == len) := frst_any _ _ _
  rw [he]
  simp only [szL, List.any_cons, List.any_nil, Bool.or_eq_true, beq_iff_eq, Bool.or_false, eq_comm (b := len)]
theorem rcode_l0 (len : Int) (d : Nat) : ∀ (k j : Nat), j + d = 16 → d + 1 ≤ k →
    signalboxref02_Code.l0 k len szL j = some (if (frst (fun x => x == len) j (szL.drop j)).2.2 = true then (frst (fun x => x == len) j (szL.drop j)).1 else -1) := by
  induction d with
  | zero =>
    intro k j hj hk
    obtain ⟨k, rfl⟩ : ∃ m, k = m + 1 := ⟨k - 1, by omega⟩
    obtain rfl : j = 16 := by omega
    rfl
  | succ d ih =>
    intro k j hj hk
    obtain ⟨k, rfl⟩ : ∃ m, k = m + 1 := ⟨k - 1, by omega⟩
    have ih := ih k (j + 1) (by omega) (by omega)
    rw [frst_step _ j (by omega)]
    have e : wrap64 ((j : Int) + 1) = ((j + 1 : Nat) : Int) := by unfold wrap64; omega
    have er : rd szL (j : Int) = szAt j := by
      have : j < szL.length := by show j < 16; omega
      simp [rd, szAt]
    have el : (szL.length : Int) = 16 := rfl
    simp only [signalboxref02_Code.l0, e, ih, er, el]
    rw [if_pos (by omega), if_pos (by omega)]
    by_cases h : szAt j = len
    · have hb : (szAt j == len) = true := by simpa using h
      simp only [if_pos h, hb, if_true]
    · have hb : (szAt j == len) = false := by simpa using h
      simp only [if_neg h, hb, Bool.false_eq_true, if_false]
theorem rcode (k : Nat) (hk : 20 ≤ k) (len : Int) : ∃ c, signalboxref02_Code.f k len = some c ∧ decide (c < 0) = !isCode len := by
  refine ⟨_, (show signalboxref02_Code.f k len = _ by simp only [signalboxref02_Code.f, signalboxref02_Sizes.f, ob]; exact rcode_l0 len 16 k 0 (by omega) (by omega)), ?_⟩
  have hd : szL.drop 0 = szL := rfl
  rw [hd]
  have hc : isCode len = (frst (fun x => x == len) ((0 : Nat) : Int) szL).2.2 := rfl
  rw [hc]
  have hp : ∀ (p : Int → Bool) (l : List Int) (i : Int), 0 ≤ i → 0 ≤ (frst p i l).1 := by
    intro p l
    induction l with
    | nil => intro i _; exact Int.le_refl 0
    | cons x l ih =>
      intro i hi
      unfold frst
      split
      · exact hi
      · exact ih (i + 1) (by omega)
  have := hp (fun x => x == len) szL ((0 : Nat) : Int) (by decide)
  cases (frst (fun x => x == len) ((0 : Nat) : Int) szL).2.2 with
  | true => simpa using this
  | false => simp
theorem size0 (d : ByteArray) : (d.toList == ([] : List UInt8)) = decide ((d.size : Int) = 0) := by
  rw [Bool.eq_iff_iff, beq_iff_eq, decide_eq_true_eq, ByteArray.toList_eq]
  obtain ⟨⟨l⟩⟩ := d
  show l = [] ↔ ((l.length : Nat) : Int) = 0
  cases l with
  | nil => simp
  | cons a l => simp; omega
def rl3 (r : Bool) (len : Int) (d : ByteArray) : Bool := decide ((d.size : Int) = if r = true then 0 else len)
def rl2 (x d r : Bool) (len : Int) (b : ByteArray) : Bool := decide (0 ≤ len ∧ len ≤ 64) && (if d = true then isCode len else decide (len ≤ 8)) && (!x || len == 8) && rl3 r len b
theorem rj3 (k : Nat) (hk : 1 ≤ k) (r bad : Bool) (id fl len : Int) (d : ByteArray) : signalboxref02_Right.j3 k r bad id fl len d = some (!bad && rl3 r len d) := by
  obtain ⟨k, rfl⟩ : ∃ m, k = m + 1 := ⟨k - 1, by omega⟩
  simp only [signalboxref02_Right.j3, size0, rl3]
  cases bad <;> cases r <;> simp <;> rfl
theorem rj2 (k : Nat) (hk : 22 ≤ k) (x d r bad : Bool) (id fl len : Int) (b : ByteArray) : signalboxref02_Right.j2 k x d r bad id fl len b = some (!bad && rl2 x d r len b) := by
  obtain ⟨k, rfl⟩ : ∃ m, k = m + 1 := ⟨k - 1, by omega⟩
  obtain ⟨c, hc, hd⟩ := rcode k (by omega) len
  have hd' : (c < 0) = (isCode len = false) := by
    rw [← decide_eq_true_eq (p := c < 0), hd]
    cases isCode len <;> simp
  simp only [signalboxref02_Right.j2, rj3 k (by omega), hc, ob, hd', rl2]
  cases bad with
  | true => simp
  | false =>
    by_cases h0 : len < 0
    · have : ¬ (0 ≤ len ∧ len ≤ 64) := by omega
      simp [h0, this]
    · by_cases h1 : len > 64
      · have : ¬ (0 ≤ len ∧ len ≤ 64) := by omega
        simp [h0, h1, this]
      · have h2 : 0 ≤ len ∧ len ≤ 64 := by omega
        simp only [h0, h1, h2, and_self, decide_true, Bool.true_and, if_false, Bool.not_false]
        cases d with
        | true =>
          cases isCode len <;> cases x <;> simp [bne]
        | false =>
          by_cases h3 : len > 8
          · have : ¬ len ≤ 8 := by omega
            simp [h3, this]
          · have : len ≤ 8 := by omega
            cases x <;> simp [h3, this, bne]
theorem rj1 (k : Nat) (hk : 23 ≤ k) (x d r e bad : Bool) (id fl len : Int) (b : ByteArray) : signalboxref02_Right.j1 k x d r e bad id fl len b = some (!bad && (decide (id ≤ 2047) || e || x) && rl2 x d r len b) := by
  obtain ⟨k, rfl⟩ : ∃ m, k = m + 1 := ⟨k - 1, by omega⟩
  simp only [signalboxref02_Right.j1, rj2 k (by omega)]
  cases bad with
  | true => simp
  | false =>
    by_cases h : id > 2047
    · have : ¬ id ≤ 2047 := by omega
      cases e <;> cases x <;> simp [h, this]
    · have : id ≤ 2047 := by omega
      simp [h, this]
theorem rright_eq (k : Nat) (hk : 30 ≤ k) (id fl len : Int) (b : ByteArray) : signalboxref02_Right.f k id fl len b = some (rgt id fl len b) := by
  obtain ⟨k, rfl⟩ : ∃ m, k = m + 1 := ⟨k - 1, by omega⟩
  have ht : ∀ k, signalboxref02_Right.j0 (k + 1) true id fl len b = some false := fun k => rfl
  simp only [signalboxref02_Right.f, ht]
  by_cases h0 : fl < 0
  · have : ¬ (0 ≤ fl ∧ fl ≤ 63) := by omega
    simp [h0, rgt, flg, this]
  by_cases h1 : fl > 63
  · have : ¬ (0 ≤ fl ∧ fl ≤ 63) := by omega
    simp [h0, h1, rgt, flg, this]
  rw [if_neg h0, if_neg h1]
  by_cases h2 : id < 0
  · have : ¬ (0 ≤ id ∧ id ≤ mst fl) := by omega
    simp [h2, rgt, this]
  rw [if_neg h2]
  have hm := mst_le fl
  by_cases h3 : id > 536870911
  · have : ¬ (0 ≤ id ∧ id ≤ mst fl) := by omega
    have e : decide (id > 536870911) = true := by simpa using h3
    rw [e, ht]
    simp [rgt, this]
  have e : decide (id > 536870911) = false := by simpa using h3
  rw [e]
  obtain ⟨a1, a2, a4, a8, a16, a32⟩ := rhas id fl len b (by omega) (by omega)
  have hx := (has_fl fl (by omega) (by omega)).2.2.2.2.2.2
  have hr : 0 ≤ fl ∧ fl ≤ 63 := by omega
  have hc := isCode_iff len
  have hm2 : decide (0 ≤ id ∧ id ≤ mst fl) = (decide (id ≤ 2047) || fE fl || fX fl) := by
    unfold mst
    split
    · next h => rw [Bool.or_assoc, h, Bool.or_true, decide_eq_true_eq]; omega
    · next h => rw [Bool.or_assoc, Bool.eq_false_iff.mpr h, Bool.or_false, Bool.eq_iff_iff]; simp; omega
  simp only [signalboxref02_Right.j0, a1, a2, a4, a8, a16, a32, ob, rj1 k (by omega), show rgt id fl len b = (flg fl && decide (0 ≤ id ∧ id ≤ mst fl) && lng fl len && rl3 (fR fl) len b) from rfl, hm2, flg, lng, rl2, hr, hx, and_self, decide_true, Bool.true_and]
  clear a1 a2 a4 a8 a16 a32 hx e
  have c3 : ∀ z, (decide (0 ≤ len) && (decide (len ≤ 64) && (isCode len && z))) = (isCode len && z) := by
    intro z
    cases hi : isCode len with
    | false => simp
    | true => have := hc.mp hi; cases z <;> simp; omega
  have c4 : ∀ z, (decide (0 ≤ len) && (decide (len ≤ 64) && (decide (len ≤ 8) && z))) = (decide (0 ≤ len) && (decide (len ≤ 8) && z)) := by
    intro z
    rw [Bool.eq_iff_iff]
    cases z <;> simp
    omega
  have c5 : ∀ z, (decide (0 ≤ len) && (decide (len ≤ 8) && (len == 8 && z))) = (len == 8 && z) := by
    intro z
    rw [Bool.eq_iff_iff]
    cases z <;> simp
    omega
  cases fX fl <;> cases fE fl <;> cases fR fl <;> cases fD fl <;> cases fB fl <;> cases fS fl <;> simp [c3, c4, c5, Bool.and_assoc, Bool.decide_and]

theorem wraps_i64 (n : Int) (h₀ : 0 ≤ n) (h₁ : n < 2 ^ 62) : IntKind.i64.wrap n = n := by rw [IntKind.wrap_i64]; omega
theorem jn (i : Nat) (x y : Int) (hx : 0 ≤ x) (hm : x % 2 ^ i = 0) (hx1 : x < 4611686018427387904) (hy : 0 ≤ y) (hy1 : y < 2 ^ i) (hy2 : y < 4611686018427387904) : Go.bits .or .i64 x y = x + y :=
  bits_join .i64 62 (by decide) wraps_i64 i x y hx hm (by omega) hy hy1 (by omega)
def bi (b : Bool) : Int := if b = true then 1 else 0
theorem bi_range (b : Bool) : 0 ≤ bi b ∧ bi b ≤ 1 := by cases b <;> decide
/-- A frame's rank. -/
def kf (id fl : Int) : Int := if fE fl = true then (((id / 262144 * 4 + 3) * 262144 + id % 262144) * 2 + bi (fR fl)) * 2 + bi (fD fl) else (id * 4 + bi (fR fl) * 2) * 524288 * 2 + bi (fD fl)
def kv (id fl len : Int) (d : ByteArray) : Int := if (rgt id fl len d && !fX fl) = true then kf id fl else -1
theorem kf_pos (id fl : Int) (h : 0 ≤ id) : 0 ≤ kf id fl := by
  have h1 := bi_range (fR fl)
  have h2 := bi_range (fD fl)
  unfold kf
  split <;> omega
theorem bit_eq' (id fl len : Int) (d : ByteArray) (h : flg fl = true) : frame_bit.f id fl len d 2 = some (bi (fR fl)) ∧ frame_bit.f id fl len d 8 = some (bi (fD fl)) := by
  have hh := has_fl fl (flg_range fl h).1 (flg_range fl h).2
  simp only [frame_bit.f, frame_has.f, ob, hh.2.1, hh.2.2.2.1, bi]
  constructor <;> split <;> rfl
theorem key_eq (k : Nat) (hk : 2 ≤ k) (id fl len : Int) (d : ByteArray) : frame_Key.f k id fl len d = some (kv id fl len d) := by
  obtain ⟨k, rfl⟩ : ∃ m, k = m + 1 := ⟨k - 1, by omega⟩
  have ht : frame_Key.j0 (k + 1) true id fl len d = some (-1) := rfl
  cases h : rgt id fl len d with
  | false =>
    simp only [frame_Key.f, right4 (k + 1) (by omega) id fl len d h, ob, ht, kv, h]
    rw [if_neg (by decide)]
    rfl
  | true =>
    obtain ⟨hf, i0, i1, _, _⟩ := rgt_facts id fl len d h
    have hh := has_fl fl (flg_range fl hf).1 (flg_range fl hf).2
    simp only [frame_Key.f, right0 (k + 1) (by omega) id fl len d h, ob, kv, h, if_true, Bool.true_and, frame_has.f, hh.2.2.1]
    cases hx : fX fl with
    | true => rw [ht]; rfl
    | false =>
      obtain ⟨b1, b2⟩ := bit_eq' id fl len d hf
      simp only [frame_Key.j0, frame_has.f, hh.1, b1, b2, ob, kf, Bool.false_eq_true, if_false, Bool.not_false, if_true]
      have r1 := bi_range (fR fl)
      have r2 := bi_range (fD fl)
      generalize bi (fR fl) = r at *
      generalize bi (fD fl) = e at *
      have hm := mst_le fl
      have w1 : wrap64 (id / 262144 * 4) = id / 262144 * 4 := w64 (by omega) (by omega)
      have o1 : Go.bits .or .i64 (id / 262144 * 4) 3 = id / 262144 * 4 + 3 := jn 2 _ _ (by omega) (by omega) (by omega) (by omega) (by omega) (by omega)
      have w2 : wrap64 ((id / 262144 * 4 + 3) * 262144) = (id / 262144 * 4 + 3) * 262144 := w64 (by omega) (by omega)
      have m1 : Go.bits .and .i64 id 262143 = id % 262144 := bits_mask .i64 62 (by decide) wraps_i64 18 (by decide) id i0 (by omega)
      have o2 : Go.bits .or .i64 ((id / 262144 * 4 + 3) * 262144) (id % 262144) = (id / 262144 * 4 + 3) * 262144 + id % 262144 := jn 18 _ _ (by omega) (by omega) (by omega) (by omega) (by omega) (by omega)
      have w3 : wrap64 (((id / 262144 * 4 + 3) * 262144 + id % 262144) * 2) = ((id / 262144 * 4 + 3) * 262144 + id % 262144) * 2 := w64 (by omega) (by omega)
      have o3 : Go.bits .or .i64 (((id / 262144 * 4 + 3) * 262144 + id % 262144) * 2) r = ((id / 262144 * 4 + 3) * 262144 + id % 262144) * 2 + r := jn 1 _ _ (by omega) (by omega) (by omega) (by omega) (by omega) (by omega)
      have w4 : wrap64 ((((id / 262144 * 4 + 3) * 262144 + id % 262144) * 2 + r) * 2) = (((id / 262144 * 4 + 3) * 262144 + id % 262144) * 2 + r) * 2 := w64 (by omega) (by omega)
      have o4 : Go.bits .or .i64 ((((id / 262144 * 4 + 3) * 262144 + id % 262144) * 2 + r) * 2) e = (((id / 262144 * 4 + 3) * 262144 + id % 262144) * 2 + r) * 2 + e := jn 1 _ _ (by omega) (by omega) (by omega) (by omega) (by omega) (by omega)
      have v1 : wrap64 (id * 4) = id * 4 := w64 (by omega) (by omega)
      have v2 : wrap64 (r * 2) = r * 2 := w64 (by omega) (by omega)
      have p1 : Go.bits .or .i64 (id * 4) (r * 2) = id * 4 + r * 2 := jn 2 _ _ (by omega) (by omega) (by omega) (by omega) (by omega) (by omega)
      have v3 : wrap64 ((id * 4 + r * 2) * 524288) = (id * 4 + r * 2) * 524288 := w64 (by omega) (by omega)
      have v4 : wrap64 ((id * 4 + r * 2) * 524288 * 2) = (id * 4 + r * 2) * 524288 * 2 := w64 (by omega) (by omega)
      have p2 : Go.bits .or .i64 ((id * 4 + r * 2) * 524288 * 2) e = (id * 4 + r * 2) * 524288 * 2 + e := jn 1 _ _ (by omega) (by omega) (by omega) (by omega) (by omega) (by omega)
      simp only [w1, o1, w2, m1, o2, w3, o3, w4, o4, v1, v2, p1, v3, v4, p2]
      split <;> rfl
theorem less_eq (k : Nat) (hk : 2 ≤ k) (i f l : Int) (d : ByteArray) (i2 f2 l2 : Int) (d2 : ByteArray) : frame_Less.f k i f l d i2 f2 l2 d2 = some (decide (0 ≤ kv i f l d ∧ 0 ≤ kv i2 f2 l2 d2 ∧ kv i f l d < kv i2 f2 l2 d2)) := by
  simp only [frame_Less.f, key_eq k hk, ob]
  generalize kv i f l d = a
  generalize kv i2 f2 l2 d2 = b
  by_cases h1 : a ≥ 0
  · by_cases h2 : b ≥ 0
    · rw [if_pos h1, if_pos h2]; congr 1; rw [decide_eq_decide]; omega
    · rw [if_pos h1, if_neg h2]; congr 1; symm; rw [decide_eq_false_iff_not]; omega
  · rw [if_neg h1]; congr 1; symm; rw [decide_eq_false_iff_not]; omega

/-- The bits of a number, the highest first. -/
def bl (a : Int) : Nat → List Bool
  | 0 => []
  | w + 1 => bl (a / 2) w ++ [a % 2 == 1]
def hv (acc : Int) (l : List Bool) : Int := l.foldl (fun x b => 2 * x + bi b) acc
theorem bl_length (w : Nat) : ∀ a, (bl a w).length = w := by
  induction w with
  | zero => intro a; rfl
  | succ w ih => intro a; simp [bl, ih]
theorem hv_append (acc : Int) (l m : List Bool) : hv acc (l ++ m) = hv (hv acc l) m := by simp [hv]
theorem hv_one (acc : Int) (b : Bool) : hv acc [b] = 2 * acc + bi b := rfl
theorem hv_bl (w : Nat) : ∀ (a acc : Int), 0 ≤ a → a < 2 ^ w → hv acc (bl a w) = acc * 2 ^ w + a := by
  induction w with
  | zero => 
    intro a acc h0 h1
    have : a = 0 := by omega
    subst this
    simp [bl, hv]
  | succ w ih =>
    intro a acc h0 h1
    have hp : (2 : Int) ^ (w + 1) = 2 ^ w * 2 := Int.pow_succ 2 w
    rw [bl, hv_append, hv_one, ih (a / 2) acc (by omega) (by omega), hp, ← Int.mul_assoc]
    generalize acc * 2 ^ w = z
    have hb : bi (a % 2 == 1) = a % 2 := by
      have : a % 2 = 0 ∨ a % 2 = 1 := by omega
      rcases this with h | h <;> rw [h] <;> rfl
    rw [hb]
    omega
theorem hv_zeros (d : Nat) : ∀ acc : Int, hv acc (List.replicate d false) = acc * 2 ^ d := by
  induction d with
  | zero => intro acc; simp [hv]
  | succ d ih =>
    intro acc
    rw [List.replicate_succ, show false :: List.replicate d false = [false] ++ List.replicate d false from rfl, hv_append, hv_one, ih, Int.pow_succ]
    have : bi false = 0 := rfl
    rw [this, Int.add_zero, Int.mul_comm 2 acc, Int.mul_assoc, Int.mul_comm 2]
theorem hv_range (l : List Bool) : ∀ (acc : Int), 0 ≤ acc → 0 ≤ hv acc l ∧ hv acc l < (acc + 1) * 2 ^ l.length := by
  induction l with
  | nil => intro acc h; simp [hv]; omega
  | cons b l ih =>
    intro acc h
    have hb := bi_range b
    have e : hv acc (b :: l) = hv (2 * acc + bi b) l := rfl
    have := ih (2 * acc + bi b) (by omega)
    rw [e, List.length_cons, Int.pow_succ]
    refine ⟨this.1, Int.lt_of_lt_of_le this.2 ?_⟩
    have hp : (0 : Int) < 2 ^ l.length := Int.pow_pos (by decide)
    have : (2 * acc + bi b + 1) * 2 ^ l.length ≤ (2 * acc + 2) * 2 ^ l.length := Int.mul_le_mul_of_nonneg_right (by omega) (by omega)
    have e2 : (acc + 1) * (2 ^ l.length * 2) = (2 * acc + 2) * 2 ^ l.length := by
      rw [Int.mul_comm (2 ^ l.length) 2, ← Int.mul_assoc]; congr 1; omega
    rw [e2]; exact this
theorem bits_l1_eq (k : Nat) (x0 x1 : Int) (x5 : List Bool) (x6 x7 x8 : Int) : signalboxref02_Bits.l1 (k + 1) x0 x1 x5 x6 x7 x8 = if x8 < (wrap64 ((wrap64 (x1 - 1)) - x6)) then (signalboxref02_Bits.l1 k x0 x1 x5 x6 (wrap64 (Int.tdiv x7 2)) (wrap64 (x8 + 1))) else (if x5.length < 140737488355328 then (signalboxref02_Bits.l0 k x0 x1 (x5 ++ [((Int.tmod x7 2) == 1)]) (wrap64 (x6 + 1))) else (none)) := rfl
theorem bits_l1 (k w : Nat) (hw : w ≤ 40) (x0 : Int) (l : List Bool) (j : Nat) (hj : j < w) (hl : l.length < 100) (d : Nat) : ∀ (K i : Nat) (a : Int), 0 ≤ a → a ≤ 536870911 → i + d = w - 1 - j → K = k + d + 1 →
    signalboxref02_Bits.l1 K x0 w l j a i = signalboxref02_Bits.l0 k x0 w (l ++ [a / 2 ^ d % 2 == 1]) ((j + 1 : Nat) : Int) := by
  induction d with
  | zero =>
    intro K i a h0 h1 hi hK
    subst hK
    have e0 : wrap64 ((w : Int) - 1) = (w : Int) - 1 := w64 (by omega) (by omega)
    have e1 : wrap64 ((wrap64 ((w : Int) - 1)) - j) = (w : Int) - 1 - j := by rw [e0]; exact w64 (by omega) (by omega)
    have e2 : wrap64 ((j : Int) + 1) = ((j + 1 : Nat) : Int) := by rw [w64 (by omega) (by omega)]; omega
    have e3 : Int.tmod a 2 = a % 2 := Int.tmod_eq_emod_of_nonneg h0
    simp only [signalboxref02_Bits.l1, e1, e2, e3]
    rw [if_neg (by omega), if_pos (by omega)]
    simp
  | succ d ih =>
    intro K i a h0 h1 hi hK
    subst hK
    have e0 : wrap64 ((w : Int) - 1) = (w : Int) - 1 := w64 (by omega) (by omega)
    have e1 : wrap64 ((wrap64 ((w : Int) - 1)) - j) = (w : Int) - 1 - j := by rw [e0]; exact w64 (by omega) (by omega)
    have e2 : wrap64 ((i : Int) + 1) = ((i + 1 : Nat) : Int) := by rw [w64 (by omega) (by omega)]; omega
    have e3 : wrap64 (Int.tdiv a 2) = a / 2 := by rw [Int.tdiv_eq_ediv_of_nonneg h0, w64 (by omega) (by omega)]
    have ih := ih (k + d + 1) (i + 1) (a / 2) (by omega) (by omega) (by omega) rfl
    show signalboxref02_Bits.l1 (k + d + 1 + 1) x0 w l j a i = _
    rw [bits_l1_eq, e1, e2, e3, if_pos (by omega), ih, Int.ediv_ediv_of_nonneg (by decide), Int.pow_succ, Int.mul_comm]
theorem bits_l0 (w : Nat) (hw : w ≤ 40) (x0 : Int) (h0 : 0 ≤ x0) (h1 : x0 ≤ 536870911) (d : Nat) : ∀ (k j : Nat), j + d = w → d * 50 + 1 ≤ k →
    signalboxref02_Bits.l0 k x0 w (bl (x0 / 2 ^ d) j) j = some (bl x0 w) := by
  induction d with
  | zero =>
    intro k j hj hk
    obtain ⟨k, rfl⟩ : ∃ m, k = m + 1 := ⟨k - 1, by omega⟩
    obtain rfl : j = w := by omega
    simp only [signalboxref02_Bits.l0]
    rw [if_neg (by omega)]
    simp
  | succ d ih =>
    intro k j hj hk
    obtain ⟨k, rfl⟩ : ∃ m, k = m + 1 := ⟨k - 1, by omega⟩
    obtain ⟨q, hq⟩ : ∃ q, k = q + d + 1 := ⟨k - d - 1, by omega⟩
    have ih := ih q (j + 1) (by omega) (by omega)
    have hl1 := bits_l1 q w hw x0 (bl (x0 / 2 ^ (d + 1)) j) j (by omega) (by rw [bl_length]; omega) d k 0 x0 h0 h1 (by omega) hq
    simp only [signalboxref02_Bits.l0]
    rw [if_pos (by omega)]
    refine Eq.trans hl1 (Eq.trans ?_ ih)
    have e : x0 / 2 ^ d / 2 = x0 / 2 ^ (d + 1) := by rw [Int.ediv_ediv_of_nonneg (Int.pow_nonneg (by decide)), Int.pow_succ]
    rw [bl, e]
theorem bits_eq (k : Nat) (hk : 2100 ≤ k) (w : Nat) (hw : w ≤ 40) (x0 : Int) (h0 : 0 ≤ x0) (h1 : x0 < 2 ^ w) (h2 : x0 ≤ 536870911) : signalboxref02_Bits.f k x0 w = some (bl x0 w) := by
  have := bits_l0 w hw x0 h0 h2 w k 0 (by omega) (by omega)
  unfold signalboxref02_Bits.f
  rw [Int.ediv_eq_zero_of_lt h0 h1] at this
  exact this
theorem kb_l0 (id fl len : Int) (b : ByteArray) (h0 : 0 ≤ fl) (h1 : fl ≤ 63) (d : Nat) : ∀ (k j : Nat) (l : List Bool), j + d = 19 → d + 1 ≤ k → l.length + d ≤ 100 →
    signalboxref02_KeyBits.l0 k l j id fl len b = some (l ++ List.replicate d false ++ [fD fl]) := by
  induction d with
  | zero =>
    intro k j l hj hk hl
    obtain ⟨k, rfl⟩ : ∃ m, k = m + 1 := ⟨k - 1, by omega⟩
    simp only [signalboxref02_KeyBits.l0]
    rw [if_neg (by omega), (rhas id fl len b h0 h1).2.2.2.1, ob, if_pos (by omega)]
    simp
  | succ d ih =>
    intro k j l hj hk hl
    obtain ⟨k, rfl⟩ : ∃ m, k = m + 1 := ⟨k - 1, by omega⟩
    have e2 : wrap64 ((j : Int) + 1) = ((j + 1 : Nat) : Int) := by rw [w64 (by omega) (by omega)]; omega
    simp only [signalboxref02_KeyBits.l0, e2]
    have hl2 : (l ++ [false]).length = l.length + 1 := by simp
    rw [if_pos (by omega), if_pos (by omega), ih k (j + 1) (l ++ [false]) (by omega) (by omega) (by omega)]
    simp [List.replicate_succ]
theorem kb_eq (k : Nat) (hk : 2200 ≤ k) (id fl len : Int) (b : ByteArray) (h0 : 0 ≤ fl) (h1 : fl ≤ 63) (i0 : 0 ≤ id) (i1 : id ≤ mst fl) (hx : fX fl = false) :
    ∃ l, signalboxref02_KeyBits.f k id fl len b = some l ∧ l.length = 33 ∧ hv 0 l = kf id fl := by
  obtain ⟨a1, a2, _, a8, _, _⟩ := rhas id fl len b h0 h1
  have hm := mst_le fl
  simp only [signalboxref02_KeyBits.f, a1, a2, a8, ob]
  cases he : fE fl with
  | true =>
    have w1 : wrap64 (Int.tdiv id 262144) = id / 262144 := by rw [Int.tdiv_eq_ediv_of_nonneg i0, w64 (by omega) (by omega)]
    have w2 : Int.tmod id 262144 = id % 262144 := Int.tmod_eq_emod_of_nonneg i0
    have b1 := bits_eq k (by omega) 11 (by decide) (id / 262144) (by omega) (by omega) (by omega)
    have b2 := bits_eq k (by omega) 18 (by decide) (id % 262144) (by omega) (by omega) (by omega)
    have b1' : signalboxref02_Bits.f k (id / 262144) 11 = some (bl (id / 262144) 11) := b1
    have b2' : signalboxref02_Bits.f k (id % 262144) 18 = some (bl (id % 262144) 18) := b2
    simp only [w1, w2, b1', b2', ob, if_true, List.length_append, bl_length, List.length_nil, List.length_cons]
    refine ⟨([] ++ bl (id / 262144) 11 ++ [true, true] ++ bl (id % 262144) 18 ++ [fR fl]) ++ [fD fl], rfl, by simp [bl_length], ?_⟩
    rw [hv_append, hv_append, hv_append, hv_append, List.nil_append, hv_bl 11 _ _ (by omega) (by omega), hv_bl 18 _ _ (by omega) (by omega), hv_one, hv_one]
    have : ∀ z, hv z [true, true] = 2 * (2 * z + 1) + 1 := fun z => rfl
    rw [this]
    unfold kf
    rw [he, if_pos rfl]
    omega
  | false =>
    have hi : id ≤ 2047 := by
      unfold mst at i1
      rw [he, hx] at i1
      exact i1
    have b1' : signalboxref02_Bits.f k id 11 = some (bl id 11) := bits_eq k (by omega) 11 (by decide) id i0 (by omega) (by omega)
    simp only [b1', ob, Bool.false_eq_true, if_false, List.length_append, bl_length, List.length_nil, List.length_cons]
    refine ⟨([] ++ bl id 11 ++ [fR fl, false]) ++ List.replicate 19 false ++ [fD fl], kb_l0 id fl len b h0 h1 19 k 0 _ (by omega) (by omega) (by simp [bl_length]), by simp [bl_length], ?_⟩
    rw [hv_append, hv_append, hv_append, List.nil_append, hv_bl 11 _ _ i0 (by omega), hv_zeros, hv_one]
    have : ∀ z, hv z [fR fl, false] = 2 * (2 * z + bi (fR fl)) + 0 := fun z => rfl
    rw [this]
    unfold kf
    rw [he, if_neg (by decide)]
    omega
theorem rk_l0 (l : List Bool) (hl : l.length ≤ 40) (d : Nat) : ∀ (k j : Nat) (acc : Int), j + d = l.length → d + 1 ≤ k → 0 ≤ acc → acc < 2 ^ j →
    signalboxref02_Key.l0 k acc l j = some (hv acc (l.drop j)) := by
  induction d with
  | zero =>
    intro k j acc hj hk h0 h1
    obtain ⟨k, rfl⟩ : ∃ m, k = m + 1 := ⟨k - 1, by omega⟩
    simp only [signalboxref02_Key.l0]
    rw [if_neg (by omega), List.drop_eq_nil_of_le (by omega)]
    rfl
  | succ d ih =>
    intro k j acc hj hk h0 h1
    obtain ⟨k, rfl⟩ : ∃ m, k = m + 1 := ⟨k - 1, by omega⟩
    have hj2 : j < l.length := by omega
    have hp : (2 : Int) ^ j ≤ 2 ^ 40 := by
      have := Nat.pow_le_pow_right (show 0 < 2 by decide) (show j ≤ 40 by omega)
      exact_mod_cast this
    have hp2 : (2 : Int) ^ (j + 1) = 2 ^ j * 2 := Int.pow_succ 2 j
    have e1 : wrap64 ((j : Int) + 1) = ((j + 1 : Nat) : Int) := by rw [w64 (by omega) (by omega)]; omega
    have e2 : wrap64 (2 * acc) = 2 * acc := w64 (by omega) (by omega)
    have e3 : wrap64 (2 * acc + 1) = 2 * acc + 1 := w64 (by omega) (by omega)
    have er : rdOf false l (j : Int) = l[j] := by simp [rdOf, hj2]
    have hd : l.drop j = l[j] :: l.drop (j + 1) := List.drop_eq_getElem_cons hj2
    simp only [signalboxref02_Key.l0, e1, e2, e3, er]
    rw [if_pos (by omega), if_pos (by omega), hd]
    have hh : ∀ b, hv acc (b :: l.drop (j + 1)) = hv (2 * acc + bi b) (l.drop (j + 1)) := fun b => rfl
    rw [hh]
    cases l[j] with
    | true => rw [if_pos rfl, ih k (j + 1) (2 * acc + 1) (by omega) (by omega) (by omega) (by omega)]; rfl
    | false => rw [if_neg (by decide), ih k (j + 1) (2 * acc) (by omega) (by omega) (by omega) (by omega), show bi false = 0 from rfl, Int.add_zero]
theorem rkey_eq (k : Nat) (hk : 2300 ≤ k) (id fl len : Int) (d : ByteArray) : signalboxref02_Key.f k id fl len d = some (kv id fl len d) := by
  obtain ⟨k, rfl⟩ : ∃ m, k = m + 1 := ⟨k - 1, by omega⟩
  have ht : signalboxref02_Key.j0 (k + 1) true id fl len d = some (-1) := rfl
  simp only [signalboxref02_Key.f, rright_eq (k + 1) (by omega), ob]
  cases h : rgt id fl len d with
  | false =>
    simp only [ht, kv, h]
    rw [if_neg (by decide)]
    rfl
  | true =>
    obtain ⟨hf, i0, i1, _, _⟩ := rgt_facts id fl len d h
    simp only [if_true, (rhas id fl len d (flg_range fl hf).1 (flg_range fl hf).2).2.2.1, ob, kv, h, Bool.true_and]
    cases hx : fX fl with
    | true => rw [ht]; rfl
    | false =>
      obtain ⟨l, e, hl, hl2⟩ := kb_eq k (by omega) id fl len d (flg_range fl hf).1 (flg_range fl hf).2 i0 i1 hx
      simp only [signalboxref02_Key.j0, e, ob, Bool.false_eq_true, if_false, Bool.not_false, if_true]
      rw [← hl2]
      exact rk_l0 l (by omega) l.length k 0 0 (by omega) (by omega) (by decide) (by decide)

theorem alive_k : ∃ K, ∀ k, K ≤ k → signalboxlaw09_alive.f k = some true :=
  Ev.of signalboxlaw09_alive.mono (k := 200) (by decide +kernel)

theorem son_app (x y : List Int) : strOfNums x ++ strOfNums y = strOfNums (x ++ y) := by
  apply ByteArray.ext
  simp [strOfNums]
theorem son_list (x : List Int) : (strOfNums x).toList = x.map (fun n => UInt8.ofNat n.toNat) := by
  rw [ByteArray.toList_eq]
  simp [strOfNums]

theorem kf_range (id fl : Int) (h0 : 0 ≤ id) (h1 : id ≤ mst fl) (hx : fX fl = false) : 0 ≤ kf id fl ∧ kf id fl < 8589934592 := by
  have r1 := bi_range (fR fl)
  have r2 := bi_range (fD fl)
  have hm := mst_le fl
  unfold kf
  cases he : fE fl with
  | true =>
    rw [if_pos rfl]
    omega
  | false =>
    have hi : id ≤ 2047 := by
      unfold mst at h1
      rw [he, hx] at h1
      exact h1
    rw [if_neg (by decide)]
    omega
theorem kv_range (id fl len : Int) (d : ByteArray) : kv id fl len d = -1 ∨ (0 ≤ kv id fl len d ∧ kv id fl len d < 8589934592) := by
  unfold kv
  cases h : rgt id fl len d with
  | false => left; rw [if_neg (by simp)]
  | true =>
    cases hx : fX fl with
    | true => left; rw [if_neg (by simp)]
    | false =>
      right
      obtain ⟨hf, i0, i1, _, _⟩ := rgt_facts id fl len d h
      rw [if_pos (by simp)]
      exact kf_range id fl i0 i1 hx
/-- The first bits of a key, as bytes. -/
def cb (K : Nat) : Nat → List Int
  | 0 => []
  | i + 1 => cb K i ++ [48 + ((K / 2 ^ (32 - i) % 2 : Nat) : Int)]
theorem cb_len (K : Nat) : ∀ n, (cb K n).length = n
  | 0 => rfl
  | n + 1 => by rw [cb, List.length_append, cb_len K n]; rfl
def fldT (K : Nat) : ByteArray := strOfNums (cb K 33)
theorem and1 (x : Int) (h0 : 0 ≤ x) (h1 : x < 4611686018427387904) : Go.bits .and .i64 x 1 = x % 2 := bits_mask .i64 62 (by decide) wraps_i64 1 (by decide) x h0 (by omega)
theorem crc_l0 (K : Nat) (hK : K < 8589934592) : ∀ (d k i : Nat), i + d = 33 → crc_Bits.l0 (k + (d + 1)) K 33 (cb K i) 33 i = some (fldT K)
  | 0, k, i, hi => by
    obtain rfl : i = 33 := by omega
    rw [show k + (0 + 1) = k + 1 from rfl, crc_Bits.l0, if_neg (by decide)]
    rfl
  | d + 1, k, i, hi => by
    have c1 : (i : Int) < 33 := by omega
    have hl := cb_len K i
    have w1 : wrap64 (33 - 1 : Int) = 32 := by rw [w64 (by decide) (by decide)]; rfl
    have w2 : wrap64 (32 - (i : Int)) = ((32 - i : Nat) : Int) := by rw [w64 (by omega) (by omega)]; omega
    have hs : shr .i64 (K : Int) ((32 - i : Nat) : Int) = ((K / 2 ^ (32 - i) : Nat) : Int) := by
      unfold shr
      rw [Int.toNat_natCast, Nat.min_eq_left (by show 32 - i ≤ 64; omega)]
      norm_cast
    have hle : K / 2 ^ (32 - i) ≤ K := Nat.div_le_self _ _
    obtain ⟨Q, hQ⟩ : ∃ Q, K / 2 ^ (32 - i) = Q := ⟨_, rfl⟩
    have ih := crc_l0 K hK d k (i + 1) (by omega)
    rw [cb, hQ] at ih
    rw [hQ] at hs hle
    rw [show k + (d + 1 + 1) = (k + (d + 1)) + 1 by omega, crc_Bits.l0, if_pos c1, w1, w2, if_pos (by omega), if_pos (by omega), hs, and1 _ (by omega) (by omega), up1 i (by omega)]
    have e : (48 + ((Q : Nat) : Int) % 2 % 256) % 256 = 48 + ((Q % 2 : Nat) : Int) := by omega
    rw [e]
    exact ih
theorem crc_eq (K : Nat) (hK : K < 8589934592) (k : Nat) (hk : 40 ≤ k) : crc_Bits.f k K 33 = some (fldT K) := by
  obtain ⟨q, rfl⟩ : ∃ q, k = q + (33 + 1) + 1 := ⟨k - 35, by omega⟩
  unfold crc_Bits.f
  rw [if_neg (by omega), if_neg (by decide), decide_eq_false (by decide), crc_Bits.j0, if_neg (by decide)]
  exact crc_l0 K hK 33 q 0 (by omega)
theorem crc_neg (k : Nat) (hk : 1 ≤ k) : crc_Bits.f k (-1) 33 = some (⟨#[]⟩ : ByteArray) := by
  obtain ⟨q, rfl⟩ : ∃ q, k = q + 1 := ⟨k - 1, by omega⟩
  unfold crc_Bits.f
  rw [if_pos (by decide), crc_Bits.j0, if_pos rfl]
/-- The text of a rank; -1 has none. -/
def fieldV (v : Int) : ByteArray := if v < 0 then (⟨#[]⟩ : ByteArray) else fldT v.toNat
theorem field_eq (k : Nat) (hk : 100 ≤ k) (id fl len : Int) (d : ByteArray) : arb_Field.f k id fl len d = some (fieldV (kv id fl len d)) := by
  unfold arb_Field.f fieldV
  rw [key_eq k (by omega), ob]
  rcases kv_range id fl len d with h | ⟨h0, h1⟩
  · rw [h, crc_neg k (by omega), ob, if_pos (by decide)]
  · rw [if_neg (by omega)]
    obtain ⟨K, hK⟩ : ∃ K : Nat, kv id fl len d = K := ⟨(kv id fl len d).toNat, by omega⟩
    rw [hK, Int.toNat_natCast, crc_eq K (by omega) k (by omega), ob]

/-- The bits of a rank as the document says them are these bytes. -/
def bch (b : Bool) : Int := if b = true then 49 else 48
def cbw (a w : Nat) : Nat → List Int
  | 0 => []
  | i + 1 => cbw a w i ++ [48 + ((a / 2 ^ (w - 1 - i) % 2 : Nat) : Int)]
theorem cbw_half (a w : Nat) : ∀ i, i ≤ w → cbw a (w + 1) i = cbw (a / 2) w i
  | 0, _ => rfl
  | i + 1, h => by
    rw [cbw, cbw, cbw_half a w i (by omega), Nat.div_div_eq_div_mul, show w + 1 - 1 - i = (w - 1 - i) + 1 by omega, Nat.pow_succ, Nat.mul_comm]
theorem bl_cbw : ∀ (w a : Nat), (bl (a : Int) w).map bch = cbw a w w
  | 0, a => rfl
  | w + 1, a => by
    rw [bl, List.map_append, cbw, cbw_half a w w (Nat.le_refl _), show (a : Int) / 2 = ((a / 2 : Nat) : Int) by omega, bl_cbw w (a / 2)]
    congr 1
    rw [show w + 1 - 1 - w = 0 by omega, Nat.pow_zero, Nat.div_one]
    show [bch ((a : Int) % 2 == 1)] = _
    have h : a % 2 = 0 ∨ a % 2 = 1 := by omega
    unfold bch
    rcases h with h | h
    · rw [h, show ((a : Int) % 2) = 0 by omega]; rfl
    · rw [h, show ((a : Int) % 2) = 1 by omega]; rfl
theorem cb_cbw (a : Nat) : ∀ i, cb a i = cbw a 33 i
  | 0 => rfl
  | i + 1 => by rw [cb, cbw, cb_cbw a i]
/-- A list of bits is its number's. -/
theorem bl_hv (l : List Bool) : bl (hv 0 l) l.length = l := by
  obtain ⟨m, rfl⟩ : ∃ m, l = m.reverse := ⟨l.reverse, by simp⟩
  induction m with
  | nil => rfl
  | cons b m ih =>
    rw [List.reverse_cons, List.length_append, hv_append, hv_one]
    show bl _ (m.reverse.length + 1) = _
    rw [bl]
    have r := bi_range b
    rw [show (2 * hv 0 m.reverse + bi b) / 2 = hv 0 m.reverse by omega, ih]
    congr 2
    rw [show (2 * hv 0 m.reverse + bi b) % 2 = bi b by omega]
    cases b <;> rfl
theorem rfield_l0 (l : List Bool) (hl : l.length ≤ 100) : ∀ (d k i : Nat), i + d = l.length → signalboxref09_Field.l0 (k + (d + 1)) (strOfNums ((l.take i).map bch)) l i = some (strOfNums (l.map bch))
  | 0, k, i, hi => by
    obtain rfl : i = l.length := by omega
    have hlt : ¬ (l.length : Int) < (l.length : Int) := Int.lt_irrefl _
    rw [show k + (0 + 1) = k + 1 from rfl, signalboxref09_Field.l0, if_neg hlt, List.take_length]
  | d + 1, k, i, hi => by
    have c1 : (i : Int) < (l.length : Int) := by omega
    have c2 : 0 ≤ (i : Int) := by omega
    have hi' : i < l.length := by omega
    have er : rdOf false l (i : Int) = l[i] := by simp [rdOf, hi']
    have ih := rfield_l0 l hl d k (i + 1) (by omega)
    rw [List.take_add_one, List.getElem?_eq_getElem hi', List.map_append, ← son_app] at ih
    have hz : (strOfNums ((l.take i).map bch)).size + 1 ≤ 9223372036854775807 := by rw [strOfNums_size, List.length_map, List.length_take]; omega
    rw [show k + (d + 1 + 1) = (k + (d + 1)) + 1 by omega, signalboxref09_Field.l0, if_pos c1, if_pos c2, er, up1 i (by omega), if_pos hz, if_pos hz]
    cases hb : l[i] with
    | true => rw [hb] at ih; rw [if_pos rfl]; exact ih
    | false => rw [hb] at ih; rw [if_neg (by decide)]; exact ih
theorem rfield_eq (k : Nat) (hk : 2400 ≤ k) (id fl len : Int) (d : ByteArray) : signalboxref09_Field.f k id fl len d = some (fieldV (kv id fl len d)) := by
  unfold signalboxref09_Field.f
  rw [rkey_eq k (by omega), ob]
  by_cases hn : kv id fl len d < 0
  · rw [if_pos hn]
    unfold fieldV
    rw [if_pos hn]
  · rw [if_neg hn]
    have hk2 : kv id fl len d = kf id fl ∧ rgt id fl len d = true ∧ fX fl = false := by
      unfold kv at hn ⊢
      cases h : rgt id fl len d <;> cases hx : fX fl <;> simp [h, hx] at hn ⊢
    obtain ⟨e1, e2, e3⟩ := hk2
    obtain ⟨hf, i0, i1, _, _⟩ := rgt_facts id fl len d e2
    obtain ⟨l, e, hl, hl2⟩ := kb_eq k (by omega) id fl len d (flg_range fl hf).1 (flg_range fl hf).2 i0 i1 e3
    rw [e, ob]
    unfold fieldV
    rw [if_neg hn, e1]
    obtain ⟨K, hK⟩ : ∃ K : Nat, kf id fl = K := ⟨(kf id fl).toNat, by rw [← e1]; omega⟩
    have h1 := bl_hv l
    rw [hl2, hl, hK] at h1
    rw [hK, Int.toNat_natCast]
    obtain ⟨q, rfl⟩ : ∃ q, k = q + (l.length + 1) := ⟨k - (l.length + 1), by omega⟩
    have h2 := rfield_l0 l (by omega) l.length q 0 (by omega)
    refine h2.trans ?_
    rw [← h1, bl_cbw 33 K, ← cb_cbw]
    rfl

/-- The rank of one of some frames. -/
def kk (l : List S33) (i : Nat) : Int := kv (rd_T33 l (i : Int)).f0 (rd_T33 l (i : Int)).f1 (rd_T33 l (i : Int)).f2 (rd_T33 l (i : Int)).f3
/-- Is it the first one of the least of the first ones? -/
def isB (l : List S33) (n b : Nat) : Prop := b < n ∧ 0 ≤ kk l b ∧ ∀ j, j < n → kk l j < 0 ∨ kk l b < kk l j ∨ (kk l b = kk l j ∧ b ≤ j)
def stB (l : List S33) (n : Nat) (x : Int × Bool) : Prop := (x = (0, false) ∧ ∀ j, j < n → kk l j < 0) ∨ ∃ b : Nat, x = ((b : Int), true) ∧ isB l n b
theorem least_l0 (l : List S33) (hl : l.length ≤ 100) : ∀ (d k i : Nat) (x : Int × Bool), 2 ≤ k → i + d = l.length → stB l i x → ∃ y, arb_Least.l0 (k + (d + 1)) l x.1 x.2 l (l.length : Int) i = some y ∧ stB l l.length y
  | 0, k, i, x, hk, hi, hx => by
    obtain rfl : i = l.length := by omega
    have hlt : ¬ (l.length : Int) < (l.length : Int) := Int.lt_irrefl _
    refine ⟨x, ?_, hx⟩
    rw [show k + (0 + 1) = k + 1 from rfl, arb_Least.l0, if_neg hlt]
  | d + 1, k, i, x, hk, hi, hx => by
    have c1 : (i : Int) < (l.length : Int) := by omega
    have c2 : 0 ≤ (i : Int) := by omega
    rw [show k + (d + 1 + 1) = (k + (d + 1)) + 1 by omega, arb_Least.l0, if_pos c1, if_pos c2, if_pos c1, key_eq _ (by omega), ob, up1 i (by omega), show kv (rd_T33 l (i : Int)).f0 (rd_T33 l (i : Int)).f1 (rd_T33 l (i : Int)).f2 (rd_T33 l (i : Int)).f3 = kk l i from rfl]
    by_cases hp : kk l i ≥ 0
    · rw [if_pos hp]
      rcases hx with ⟨rfl, hn⟩ | ⟨b, rfl, hb⟩
      · rw [if_neg (by decide)]
        refine least_l0 l hl d k (i + 1) ((i : Int), true) hk (by omega) (Or.inr ⟨i, rfl, by omega, hp, fun j hj => ?_⟩)
        by_cases hji : j = i
        · subst hji; exact Or.inr (Or.inr ⟨rfl, Nat.le_refl _⟩)
        · exact Or.inl (hn j (by omega))
      · have hbi : b < i := hb.1
        rw [if_pos rfl, if_pos (show (0 : Int) ≤ ((b : Int), true).1 by show (0 : Int) ≤ b; omega), if_pos (show ((b : Int), true).1 < (l.length : Int) by show (b : Int) < _; omega), less_eq _ (by omega), ob]
        have e : (decide (0 ≤ kk l i ∧ 0 ≤ kk l b ∧ kk l i < kk l b)) = decide (kk l i < kk l b) := by
          rw [decide_eq_decide]
          exact ⟨fun h => h.2.2, fun h => ⟨hp, hb.2.1, h⟩⟩
        show ∃ y, (if decide (0 ≤ kk l i ∧ 0 ≤ kk l b ∧ kk l i < kk l b) = true then _ else _) = some y ∧ _
        rw [e]
        by_cases hlt : kk l i < kk l b
        · rw [decide_eq_true hlt, if_pos rfl]
          refine least_l0 l hl d k (i + 1) ((i : Int), true) hk (by omega) (Or.inr ⟨i, rfl, by omega, hp, fun j hj => ?_⟩)
          by_cases hji : j = i
          · subst hji; exact Or.inr (Or.inr ⟨rfl, Nat.le_refl _⟩)
          · rcases hb.2.2 j (by omega) with h | h | h
            · exact Or.inl h
            · exact Or.inr (Or.inl (by omega))
            · exact Or.inr (Or.inl (by omega))
        · rw [decide_eq_false hlt, if_neg (by decide)]
          refine least_l0 l hl d k (i + 1) ((b : Int), true) hk (by omega) (Or.inr ⟨b, rfl, by omega, hb.2.1, fun j hj => ?_⟩)
          by_cases hji : j = i
          · subst hji
            rcases Int.lt_or_eq_of_le (Int.not_lt.mp hlt) with h | h
            · exact Or.inr (Or.inl h)
            · exact Or.inr (Or.inr ⟨h, by omega⟩)
          · exact hb.2.2 j (by omega)
    · rw [if_neg hp]
      refine least_l0 l hl d k (i + 1) x hk (by omega) ?_
      rcases hx with ⟨rfl, hn⟩ | ⟨b, rfl, hb⟩
      · refine Or.inl ⟨rfl, fun j hj => ?_⟩
        by_cases hji : j = i
        · subst hji; omega
        · exact hn j (by omega)
      · refine Or.inr ⟨b, rfl, by have := hb.1; omega, hb.2.1, fun j hj => ?_⟩
        by_cases hji : j = i
        · subst hji; exact Or.inl (by omega)
        · exact hb.2.2 j (by omega)
theorem least_eq (l : List S33) (hl : l.length ≤ 100) (k : Nat) (hk : l.length + 3 ≤ k) : ∃ y, arb_Least.f k l = some y ∧ stB l l.length y := by
  obtain ⟨q, rfl⟩ : ∃ q, k = q + (l.length + 1) := ⟨k - (l.length + 1), by omega⟩
  exact least_l0 l hl l.length q 0 (0, false) (by omega) (by omega) (Or.inl ⟨rfl, fun j hj => absurd hj (Nat.not_lt_zero _)⟩)
theorem isB_one (l : List S33) (n a b : Nat) (ha : isB l n a) (hb : isB l n b) : a = b := by
  have h1 := ha.2.2 b hb.1
  have h2 := hb.2.2 a ha.1
  have h3 := ha.2.1
  have h4 := hb.2.1
  omega

theorem rleast_l1 (l : List S33) (hl : l.length ≤ 100) (fin : Int × Bool) (i : Nat) (hi : i < l.length) (hf : isB l l.length i → fin = ((i : Int), true)) (X : Nat) (hX : 2400 ≤ X) (hgo : ¬ isB l l.length i → ∀ k, X ≤ k → signalboxref09_Least.l0 k l ((i + 1 : Nat) : Int) = some fin) :
    ∀ (e k m : Nat) (b : Bool), X + 2 * e + 4 ≤ k → m + e = l.length → (b = true ↔ 0 ≤ kk l i ∧ ∀ j, j < m → kk l j < 0 ∨ kk l i < kk l j ∨ (kk l i = kk l j ∧ i ≤ j)) → signalboxref09_Least.l1 k l i b m = some fin
  | e, k, m, false, hk, hm, hb => by
    obtain ⟨k, rfl⟩ : ∃ q, k = q + 2 := ⟨k - 2, by omega⟩
    have hnb : ¬ isB l l.length i := fun h => by
      have := hb.mpr ⟨h.2.1, fun j hj => h.2.2 j (by omega)⟩
      cases this
    have hgo := hgo hnb k (by omega)
    rw [signalboxref09_Least.l1]
    split
    · rw [signalboxref09_Least.j2, if_neg (by decide), if_neg (by decide), up1 i (by omega)]; exact hgo
    · rw [signalboxref09_Least.j2, if_neg (by decide), if_neg (by decide), up1 i (by omega)]; exact hgo
  | 0, k, m, true, hk, hm, hb => by
    obtain ⟨k, rfl⟩ : ∃ q, k = q + 2 := ⟨k - 2, by omega⟩
    obtain rfl : m = l.length := by omega
    have hlt : ¬ (l.length : Int) < (l.length : Int) := Int.lt_irrefl _
    obtain ⟨h1, h2⟩ := hb.mp rfl
    rw [signalboxref09_Least.l1, if_neg hlt, signalboxref09_Least.j2, if_neg (by decide), if_pos rfl, hf ⟨hi, h1, h2⟩]
  | e + 1, k, m, true, hk, hm, hb => by
    obtain ⟨k, rfl⟩ : ∃ q, k = q + 2 := ⟨k - 2, by omega⟩
    have c1 : (m : Int) < (l.length : Int) := by omega
    have c2 : 0 ≤ (m : Int) := by omega
    have c3 : 0 ≤ (i : Int) := by omega
    have c4 : (i : Int) < (l.length : Int) := by omega
    obtain ⟨h1, h2⟩ := hb.mp rfl
    have ih := fun b hb => rleast_l1 l hl fin i hi hf X hX hgo e k (m + 1) b (by omega) (by omega) hb
    rw [signalboxref09_Least.l1, if_pos c1, signalboxref09_Least.j2, if_pos rfl, if_pos c2, if_pos c1, rkey_eq k (by omega), ob, up1 m (by omega), if_pos c3, if_pos c4, rkey_eq k (by omega), ob, ob]
    simp only [ob]
    show (if kk l m < 0 then _ else (if kk l i < kk l m then _ else (if kk l i = kk l m then _ else _))) = _
    by_cases q1 : kk l m < 0
    · rw [if_pos q1]
      refine ih true ⟨fun _ => ⟨h1, fun j hj => ?_⟩, fun _ => rfl⟩
      by_cases hjm : j = m
      · subst hjm; exact Or.inl q1
      · exact h2 j (by omega)
    rw [if_neg q1]
    by_cases q2 : kk l i < kk l m
    · rw [if_pos q2]
      refine ih true ⟨fun _ => ⟨h1, fun j hj => ?_⟩, fun _ => rfl⟩
      by_cases hjm : j = m
      · subst hjm; exact Or.inr (Or.inl q2)
      · exact h2 j (by omega)
    rw [if_neg q2]
    by_cases q3 : kk l i = kk l m
    · rw [if_pos q3]
      refine ih _ ?_
      rw [decide_eq_true_eq]
      constructor
      · intro h
        refine ⟨h1, fun j hj => ?_⟩
        by_cases hjm : j = m
        · subst hjm; exact Or.inr (Or.inr ⟨q3, by omega⟩)
        · exact h2 j (by omega)
      · intro h
        have := h.2 m (by omega)
        omega
    · rw [if_neg q3]
      refine ih false ⟨fun h => absurd h (by decide), fun h => ?_⟩
      have := h.2 m (by omega)
      omega
theorem rleast_l0 (l : List S33) (hl : l.length ≤ 100) (fin : Int × Bool) (hf : stB l l.length fin) : ∀ (d k i : Nat), 2400 + d * (2 * l.length + 6) + 1 ≤ k → i + d = l.length → (∀ j, j < i → ¬ isB l l.length j) → signalboxref09_Least.l0 k l i = some fin
  | 0, k, i, hk, hi, hn => by
    obtain ⟨k, rfl⟩ : ∃ q, k = q + 1 := ⟨k - 1, by omega⟩
    obtain rfl : i = l.length := by omega
    have hlt : ¬ (l.length : Int) < (l.length : Int) := Int.lt_irrefl _
    rw [signalboxref09_Least.l0, if_neg hlt]
    rcases hf with ⟨rfl, _⟩ | ⟨b, rfl, hb⟩
    · rfl
    · exact absurd hb (hn b hb.1)
  | d + 1, k, i, hk, hi, hn => by
    obtain ⟨k, rfl⟩ : ∃ q, k = q + 1 := ⟨k - 1, by omega⟩
    have hm : (d + 1) * (2 * l.length + 6) = d * (2 * l.length + 6) + (2 * l.length + 6) := Nat.succ_mul _ _
    have c1 : (i : Int) < (l.length : Int) := by omega
    have c2 : 0 ≤ (i : Int) := by omega
    rw [signalboxref09_Least.l0, if_pos c1, if_pos c2, rkey_eq k (by omega), ob]
    refine rleast_l1 l hl fin i (by omega) ?_ (2400 + d * (2 * l.length + 6) + 1) (by omega) ?_ l.length k 0 _ (by omega) (by omega) ?_
    · intro hb
      rcases hf with ⟨_, h⟩ | ⟨b, rfl, h⟩
      · have := h i (by omega)
        have := hb.2.1
        omega
      · rw [isB_one l _ b i h hb]
    · intro hb k' hk'
      refine rleast_l0 l hl fin hf d k' (i + 1) hk' (by omega) (fun j hj => ?_)
      by_cases hji : j = i
      · subst hji; exact hb
      · exact hn j (by omega)
    · show decide (kk l i ≥ 0) = true ↔ _
      rw [decide_eq_true_eq]
      exact ⟨fun h => ⟨h, fun j hj => absurd hj (Nat.not_lt_zero _)⟩, fun h => h.1⟩
theorem rleast_eq (l : List S33) (hl : l.length ≤ 100) (fin : Int × Bool) (hf : stB l l.length fin) (k : Nat) (hk : 2400 + l.length * (2 * l.length + 6) + 1 ≤ k) : signalboxref09_Least.f k l = some fin :=
  rleast_l0 l hl fin hf l.length k 0 hk (by omega) (fun j hj => absurd hj (Nat.not_lt_zero _))
theorem arbleast_l0 (l : List S33) (hl : l.length ≤ 20) (K : Nat) (hal : ∀ k, K ≤ k → signalboxlaw09_alive.f k = some true) : ∀ (d k i : Nat), K + 100000 ≤ k → i + d = l.length → signalboxlaw09_ArbLeast.l0 (k + (d + 1)) l l (l.length : Int) i = some true
  | 0, k, i, hk, hi => by
    obtain rfl : i = l.length := by omega
    have hlt : ¬ (l.length : Int) < (l.length : Int) := Int.lt_irrefl _
    obtain ⟨y, e1, hy⟩ := least_eq l (by omega) k (by omega)
    have hm : l.length * (2 * l.length + 6) ≤ 20 * 46 := Nat.mul_le_mul hl (by omega)
    rw [show k + (0 + 1) = k + 1 from rfl, signalboxlaw09_ArbLeast.l0, if_neg hlt, e1, ob, rleast_eq l (by omega) y hy k (by omega), ob, if_pos rfl, if_pos (by simp), hal k (by omega), ob]
  | d + 1, k, i, hk, hi => by
    have c1 : (i : Int) < (l.length : Int) := by omega
    have c2 : 0 ≤ (i : Int) := by omega
    rw [show k + (d + 1 + 1) = (k + (d + 1)) + 1 by omega, signalboxlaw09_ArbLeast.l0, if_pos c1, if_pos c2, if_pos c1, field_eq _ (by omega), ob, rfield_eq _ (by omega), ob, if_pos rfl, up1 i (by omega)]
    exact arbleast_l0 l hl K hal d k (i + 1) hk (by omega)
theorem ArbLeastL : signalboxlaw09_ArbLeast.Pure := by
  intro l _ _ _
  obtain ⟨K, hal⟩ := alive_k
  obtain ⟨M, hM⟩ : ∃ M, M = K + 100000 := ⟨_, rfl⟩
  refine ⟨M + (l.length + 1), ?_⟩
  unfold signalboxlaw09_ArbLeast.f
  by_cases h : (l.length : Int) > 20
  · rw [if_pos h, hal _ (by omega), ob]
  · rw [if_neg h]
    exact arbleast_l0 l (by omega) K hal l.length M 0 (by omega) (by omega)

theorem ArbLeast : signalboxlaw09_ArbLeast.Pure := ArbLeastL

end Go.Proofs.Ytlhglkmiclcbcaa.Pure
