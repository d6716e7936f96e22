/- ErrsMakes: the frame that tells of any class, with any numbers, is as the document says; it may be, is of that class, and has these numbers. Conditions: none beyond the statement's own. -/
import Derived.Test.YtnllfhogpjageaaPErrsMakesx7
namespace Go.Proofs.Ytnllfhogpjageaa.Pure
open Go.RowKit Go.Proofs.Ytnllfhogpjageaa.PErrsMakes Go.Proofs.YtnllfhogpjageaaW.PrintWords Go.Proofs.YtnllfhogpjageaaW.PrintLast
set_option linter.unusedVariables false
set_option linter.unusedSimpArgs false

theorem wf_i64 {n : Int} (h : (Lit.int .i64 n).wf = true) : -9223372036854775808 ≤ n ∧ n ≤ 9223372036854775807 := by
  simp only [Lit.wf, Bool.and_eq_true, decide_eq_true_eq] at h
  exact h
theorem wf_u32 {n : Int} (h : (Lit.int .u32 n).wf = true) : 0 ≤ n ∧ n ≤ 4294967295 := by
  simp only [Lit.wf, Bool.and_eq_true, decide_eq_true_eq] at h
  exact h
theorem wf_i32 {n : Int} (h : (Lit.int .i32 n).wf = true) : -2147483648 ≤ n ∧ n ≤ 2147483647 := by
  simp only [Lit.wf, Bool.and_eq_true, decide_eq_true_eq] at h
  exact h
theorem w64 {n : Int} (h0 : -9223372036854775808 ≤ n) (h1 : n ≤ 9223372036854775807) : wrap64 n = n := by unfold wrap64; omega

/-- 'Option.bind_some' as an equation that simp carries along (not by 'rfl': else the kernel unfolds what is bound). -/
theorem ob {α β : Type} (a : α) (f : α → Option β) : (some a).bind f = f a := by
  have h : (some a).bind f = f a := rfl
  exact h.symm.symm

theorem up1 (j : Nat) (h : j < 1000000000) : wrap64 ((j : Int) + 1) = ((j + 1 : Nat) : Int) := by rw [w64 (by omega) (by omega)]; omega

theorem bt_size {s : ByteArray} {i : Nat} (h : i < s.size) : bt s (i : Int) = (s.data.toList[i]'(by rw [Array.length_toList]; exact h)).toNat := by
  have e := bt_at s (i : Int) (by simpa using h)
  rw [← e]
  simp
  rfl
theorem bt_none {s : ByteArray} {i : Int} (h : (s.size : Int) ≤ i) : bt s i = 0 := by
  unfold bt
  rw [dif_neg (by omega)]
theorem bt_num (l : List Int) (hl : ∀ x ∈ l, 0 ≤ x ∧ x ≤ 255) (i : Nat) (h : i < l.length) : bt (strOfNums l) i = l[i] := by
  have hs : i < (strOfNums l).size := by rw [strOfNums_size]; exact h
  rw [bt_size hs]
  have hx := hl l[i] (List.getElem_mem h)
  have : (strOfNums l).data.toList[i]'(by rw [Array.length_toList]; exact hs) = UInt8.ofNat (l[i]).toNat := by
    simp [strOfNums]
  rw [this]
  simp
  omega
theorem bytes_ext {s t : ByteArray} (hz : s.size = t.size) (h : ∀ i : Nat, i < s.size → bt s i = bt t i) : s = t := by
  have : s.data.toList = t.data.toList := by
    apply List.ext_getElem
    · rw [Array.length_toList, Array.length_toList]; exact hz
    · intro i h1 h2
      rw [Array.length_toList] at h1 h2
      have e := h i h1
      rw [bt_size h1, bt_size (show i < t.size from h2)] at e
      have e2 : (s.data.toList[i]).toNat = (t.data.toList[i]).toNat := by exact_mod_cast e
      exact UInt8.toNat_inj.mp e2
  obtain ⟨a⟩ := s
  obtain ⟨b⟩ := t
  have : a.toList = b.toList := this
  rw [Array.toList_inj.mp this]
theorem toList_inj' {s t : ByteArray} : s.toList = t.toList ↔ s = t := by
  constructor
  · intro h
    rw [ByteArray.toList_eq, ByteArray.toList_eq] at h
    obtain ⟨a⟩ := s
    obtain ⟨b⟩ := t
    have h : a.toList = b.toList := h
    rw [Array.toList_inj.mp h]
  · intro h; rw [h]
theorem str_beq (s t : ByteArray) : (s.toList == t.toList) = decide (s = t) := by
  rw [Bool.eq_iff_iff]
  simp [toList_inj']
/-- The comparison of two texts as the print has it, without 'toList' (which the kernel had better not unfold). -/
theorem ite_tl {α : Type} (x y : ByteArray) (p q : α) : (if x.toList = y.toList then p else q) = if x = y then p else q := by
  by_cases h : x = y
  · rw [if_pos h, if_pos (by rw [h])]
  · rw [if_neg h, if_neg (fun e => h (toList_inj'.mp e))]
theorem ite_tl0 {α : Type} (x : ByteArray) (p q : α) : (if x.toList = ([] : List UInt8) then p else q) = if x = ⟨#[]⟩ then p else q := by
  have e : (⟨#[]⟩ : ByteArray).toList = [] := by rw [ByteArray.toList_eq]
  by_cases h : x = ⟨#[]⟩
  · rw [if_pos h, if_pos (by rw [h, e])]
  · rw [if_neg h, if_neg (fun e2 => h (toList_inj'.mp (by rw [e2, e])))]

/-! The flags of a frame, by number. -/
def fE (fl : Int) : Bool := decide (fl % 2 = 1)
def fR (fl : Int) : Bool := decide (fl / 2 % 2 = 1)
def fX (fl : Int) : Bool := decide (fl / 4 % 2 = 1)
def fD (fl : Int) : Bool := decide (fl / 8 % 2 = 1)
def fB (fl : Int) : Bool := decide (fl / 16 % 2 = 1)
def fS (fl : Int) : Bool := decide (fl / 32 % 2 = 1)
theorem has_all : ∀ x : Fin 64, ((Go.bits .and .i64 (x.val : Int) 1) != 0) = fE x.val ∧ ((Go.bits .and .i64 (x.val : Int) 2) != 0) = fR x.val ∧ ((Go.bits .and .i64 (x.val : Int) 4) != 0) = fX x.val ∧ ((Go.bits .and .i64 (x.val : Int) 8) != 0) = fD x.val
    ∧ ((Go.bits .and .i64 (x.val : Int) 48) != 0) = (fB x.val || fS x.val) ∧ ((Go.bits .and .i64 (x.val : Int) 5) != 0) = (fE x.val || fX x.val)
    ∧ ((x.val : Int) == 4) = (fX x.val && !fE x.val && !fR x.val && !fD x.val && !fB x.val && !fS x.val) := by decide +kernel
theorem has_fl (fl : Int) (h0 : 0 ≤ fl) (h1 : fl ≤ 63) : ((Go.bits .and .i64 fl 1) != 0) = fE fl ∧ ((Go.bits .and .i64 fl 2) != 0) = fR fl ∧ ((Go.bits .and .i64 fl 4) != 0) = fX fl ∧ ((Go.bits .and .i64 fl 8) != 0) = fD fl
    ∧ ((Go.bits .and .i64 fl 48) != 0) = (fB fl || fS fl) ∧ ((Go.bits .and .i64 fl 5) != 0) = (fE fl || fX fl) ∧ (fl == 4) = (fX fl && !fE fl && !fR fl && !fD fl && !fB fl && !fS fl) := by
  have := has_all ⟨fl.toNat, by omega⟩
  have e : (fl.toNat : Int) = fl := by omega
  simpa only [e] using this
/-- Has a length a code? -/
def isCode (len : Int) : Bool := (frst (fun x => x == len) 0 szL).2.2
def flg (fl : Int) : Bool := decide (0 ≤ fl ∧ fl ≤ 63) && (if fX fl = true then fl == 4 else if fD fl = true then !fR fl else !(fB fl || fS fl))
def mst (fl : Int) : Int := if (fE fl || fX fl) = true then 536870911 else 2047
def lng (fl len : Int) : Bool := if fX fl = true then len == 8 else if fD fl = true then isCode len else decide (0 ≤ len ∧ len ≤ 8)
/-- May a frame be? -/
def rgt (id fl len : Int) (d : ByteArray) : Bool := flg fl && decide (0 ≤ id ∧ id ≤ mst fl) && lng fl len && decide ((d.size : Int) = if fR fl = true then 0 else len)
theorem flags_eq (k : Nat) (hk : 1 ≤ k) (id fl len : Int) (d : ByteArray) : frame_flags.f k id fl len d = some (flg fl) := by
  obtain ⟨k, rfl⟩ : ∃ m, k = m + 1 := ⟨k - 1, by omega⟩
  simp only [frame_flags.f, frame_flags.j0, frame_has.f, ob, flg]
  by_cases h0 : fl < 0
  · rw [if_pos h0, if_pos trivial]
    have : ¬ (0 ≤ fl ∧ fl ≤ 63) := by omega
    simp [this]
  · rw [if_neg h0]
    by_cases h1 : fl > 63
    · rw [if_pos (by simpa using h1)]
      have : ¬ (0 ≤ fl ∧ fl ≤ 63) := by omega
      simp [this]
    · rw [if_neg (by simpa using h1)]
      have hh := has_fl fl (by omega) (by omega)
      have : 0 ≤ fl ∧ fl ≤ 63 := by omega
      rw [hh.2.1, hh.2.2.1, hh.2.2.2.1, hh.2.2.2.2.1]
      simp only [this, and_self, decide_true, Bool.true_and]
      split
      · rfl
      · split <;> rfl
theorem flg_range (fl : Int) (h : flg fl = true) : 0 ≤ fl ∧ fl ≤ 63 := by
  unfold flg at h
  simp only [Bool.and_eq_true, decide_eq_true_eq] at h
  exact h.1
theorem most_eq (id fl len : Int) (d : ByteArray) (h : flg fl = true) : frame_most.f id fl len d = some (mst fl) := by
  have hh := has_fl fl (flg_range fl h).1 (flg_range fl h).2
  simp only [frame_most.f, frame_has.f, ob, hh.2.2.2.2.2.1, mst]
  split <;> rfl
theorem long_eq (id fl len : Int) (d : ByteArray) (h : flg fl = true) : frame_long.f id fl len d = some (lng fl len) := by
  have hh := has_fl fl (flg_range fl h).1 (flg_range fl h).2
  simp only [frame_long.f, frame_has.f, ob, hh.2.2.1, hh.2.2.2.1, lng, frame_Code.f, isCode]
  split
  · rfl
  · split
    · rfl
    · by_cases h0 : len ≥ 0
      · rw [if_pos h0]
        congr 1
        simp
        omega
      · rw [if_neg h0]
        simp
        omega
theorem right_eq (k : Nat) (hk : 1 ≤ k) (id fl len : Int) (d : ByteArray) : frame_Right.f k id fl len d = some (if rgt id fl len d = true then 0 else 4) := by
  obtain ⟨k, rfl⟩ : ∃ m, k = m + 1 := ⟨k - 1, by omega⟩
  simp only [frame_Right.f, flags_eq (k + 1) (by omega), ob, frame_Right.j0]
  cases hf : flg fl with
  | false => simp [rgt, hf]
  | true =>
    have hh := has_fl fl (flg_range fl hf).1 (flg_range fl hf).2
    simp only [if_true, most_eq id fl len d hf, long_eq id fl len d hf, ob, frame_has.f, hh.2.1]
    by_cases h0 : id < 0
    · rw [if_pos h0]
      have : ¬ (0 ≤ id ∧ id ≤ mst fl) := by omega
      simp [rgt, this]
    · rw [if_neg h0]
      by_cases h1 : id > mst fl
      · rw [if_pos (by simpa using h1)]
        have : ¬ (0 ≤ id ∧ id ≤ mst fl) := by omega
        simp [rgt, this]
      · rw [if_neg (by simpa using h1)]
        have h2 : 0 ≤ id ∧ id ≤ mst fl := by omega
        cases hl : lng fl len with
        | false => simp [rgt, hl]
        | true =>
          simp only [rgt, hf, hl, h2, and_self, decide_true, Bool.true_and, if_true]
          cases hr : fR fl with
          | false =>
            simp only [Bool.false_eq_true, if_false, decide_eq_true_eq]
            split <;> rfl
          | true =>
            simp only [if_true, decide_eq_true_eq]
            split <;> rfl
theorem right0 (k : Nat) (hk : 1 ≤ k) (id fl len : Int) (d : ByteArray) (h : rgt id fl len d = true) : frame_Right.f k id fl len d = some 0 := by rw [right_eq k hk, if_pos h]
theorem right4 (k : Nat) (hk : 1 ≤ k) (id fl len : Int) (d : ByteArray) (h : rgt id fl len d = false) : frame_Right.f k id fl len d = some 4 := by rw [right_eq k hk, if_neg (by simp [h])]
theorem rgt_facts (id fl len : Int) (d : ByteArray) (h : rgt id fl len d = true) : flg fl = true ∧ 0 ≤ id ∧ id ≤ mst fl ∧ lng fl len = true ∧ ((d.size : Int) = if fR fl = true then 0 else len) := by
  unfold rgt at h
  simp only [Bool.and_eq_true, decide_eq_true_eq] at h
  exact ⟨h.1.1.1, h.1.1.2.1, h.1.1.2.2, h.1.2, h.2⟩
theorem mst_le (fl : Int) : mst fl ≤ 536870911 := by unfold mst; split <;> omega

theorem rhas_all : ∀ x : Fin 64, (Int.tmod (wrap64 (Int.tdiv (x.val : Int) 1)) 2 == 1) = fE x.val ∧ (Int.tmod (wrap64 (Int.tdiv (x.val : Int) 2)) 2 == 1) = fR x.val ∧ (Int.tmod (wrap64 (Int.tdiv (x.val : Int) 4)) 2 == 1) = fX x.val ∧ (Int.tmod (wrap64 (Int.tdiv (x.val : Int) 8)) 2 == 1) = fD x.val
    ∧ (Int.tmod (wrap64 (Int.tdiv (x.val : Int) 16)) 2 == 1) = fB x.val ∧ (Int.tmod (wrap64 (Int.tdiv (x.val : Int) 32)) 2 == 1) = fS x.val := by decide +kernel
theorem rhas (id fl len : Int) (d : ByteArray) (h0 : 0 ≤ fl) (h1 : fl ≤ 63) : signalboxref02_Has.f id fl len d 1 = some (fE fl) ∧ signalboxref02_Has.f id fl len d 2 = some (fR fl) ∧ signalboxref02_Has.f id fl len d 4 = some (fX fl) ∧ signalboxref02_Has.f id fl len d 8 = some (fD fl)
    ∧ signalboxref02_Has.f id fl len d 16 = some (fB fl) ∧ signalboxref02_Has.f id fl len d 32 = some (fS fl) := by
  have := rhas_all ⟨fl.toNat, by omega⟩
  have e : (fl.toNat : Int) = fl := by omega
  simp only [e] at this
  simp only [signalboxref02_Has.f, if_neg (show ¬ fl < 0 by omega)]
  obtain ⟨a, b, c, d, e, f⟩ := this
  rw [if_neg (by decide), if_neg (by decide), if_neg (by decide), if_neg (by decide), if_neg (by decide), if_neg (by decide), a, b, c, d, e, f]
  exact ⟨rfl, rfl, rfl, rfl, rfl, rfl⟩
theorem frst_any (p : Int → Bool) (l : List Int) (i : Int) : (frst p i l).2.2 = l.any p := by
  induction l generalizing i with
  | nil => rfl
  | cons x l ih =>
    unfold frst
    cases hb : p x with
    | true => simp [hb]
    | false => simp [hb, ih]
theorem isCode_iff (len : Int) : isCode len = true ↔ len = 0 ∨ len = 1 ∨ len = 2 ∨ len = 3 ∨ len = 4 ∨ len = 5 ∨ len = 6 ∨ len = 7 ∨ len = 8 ∨ len = 12 ∨ len = 16 ∨ len = 20 ∨ len = 24 ∨ len = 32 ∨ len = 48 ∨ len = 64 := by
  have he : isCode len = szL.any (fun x => x == len) := frst_any _ _ _
  rw [he]
  simp only [szL, List.any_cons, List.any_nil, Bool.or_eq_true, beq_iff_eq, Bool.or_false, eq_comm (b := len)]
theorem rcode_l0 (len : Int) (d : Nat) : ∀ (k j : Nat), j + d = 16 → d + 1 ≤ k →
    signalboxref02_Code.l0 k len szL j = some (if (frst (fun x => x == len) j (szL.drop j)).2.2 = true then (frst (fun x => x == len) j (szL.drop j)).1 else -1) := by
  induction d with
  | zero =>
    intro k j hj hk
    obtain ⟨k, rfl⟩ : ∃ m, k = m + 1 := ⟨k - 1, by omega⟩
    obtain rfl : j = 16 := by omega
    rfl
  | succ d ih =>
    intro k j hj hk
    obtain ⟨k, rfl⟩ : ∃ m, k = m + 1 := ⟨k - 1, by omega⟩
    have ih := ih k (j + 1) (by omega) (by omega)
    rw [frst_step _ j (by omega)]
    have e : wrap64 ((j : Int) + 1) = ((j + 1 : Nat) : Int) := by unfold wrap64; omega
    have er : rd szL (j : Int) = szAt j := by
      have : j < szL.length := by show j < 16; omega
      simp [rd, szAt]
    have el : (szL.length : Int) = 16 := rfl
    simp only [signalboxref02_Code.l0, e, ih, er, el]
    rw [if_pos (by omega), if_pos (by omega)]
    by_cases h : szAt j = len
    · have hb : (szAt j == len) = true := by simpa using h
      simp only [if_pos h, hb, if_true]
    · have hb : (szAt j == len) = false := by simpa using h
      simp only [if_neg h, hb, Bool.false_eq_true, if_false]
theorem rcode (k : Nat) (hk : 20 ≤ k) (len : Int) : ∃ c, signalboxref02_Code.f k len = some c ∧ decide (c < 0) = !isCode len := by
  refine ⟨_, (show signalboxref02_Code.f k len = _ by simp only [signalboxref02_Code.f, signalboxref02_Sizes.f, ob]; exact rcode_l0 len 16 k 0 (by omega) (by omega)), ?_⟩
  have hd : szL.drop 0 = szL := rfl
  rw [hd]
  have hc : isCode len = (frst (fun x => x == len) ((0 : Nat) : Int) szL).2.2 := rfl
  rw [hc]
  have hp : ∀ (p : Int → Bool) (l : List Int) (i : Int), 0 ≤ i → 0 ≤ (frst p i l).1 := by
    intro p l
    induction l with
    | nil => intro i _; exact Int.le_refl 0
    | cons x l ih =>
      intro i hi
      unfold frst
      split
      · exact hi
      · exact ih (i + 1) (by omega)
  have := hp (fun x => x == len) szL ((0 : Nat) : Int) (by decide)
  cases (frst (fun x => x == len) ((0 : Nat) : Int) szL).2.2 with
  | true => simpa using this
  | false => simp
theorem size0 (d : ByteArray) : (d.toList == ([] : List UInt8)) = decide ((d.size : Int) = 0) := by
  rw [Bool.eq_iff_iff, beq_iff_eq, decide_eq_true_eq, ByteArray.toList_eq]
  obtain ⟨⟨l⟩⟩ := d
  show l = [] ↔ ((l.length : Nat) : Int) = 0
  cases l with
  | nil => simp
  | cons a l => simp; omega
def rl3 (r : Bool) (len : Int) (d : ByteArray) : Bool := decide ((d.size : Int) = if r = true then 0 else len)
def rl2 (x d r : Bool) (len : Int) (b : ByteArray) : Bool := decide (0 ≤ len ∧ len ≤ 64) && (if d = true then isCode len else decide (len ≤ 8)) && (!x || len == 8) && rl3 r len b
theorem rj3 (k : Nat) (hk : 1 ≤ k) (r bad : Bool) (id fl len : Int) (d : ByteArray) : signalboxref02_Right.j3 k r bad id fl len d = some (!bad && rl3 r len d) := by
  obtain ⟨k, rfl⟩ : ∃ m, k = m + 1 := ⟨k - 1, by omega⟩
  simp only [signalboxref02_Right.j3, size0, rl3]
  cases bad <;> cases r <;> simp <;> rfl
theorem rj2 (k : Nat) (hk : 22 ≤ k) (x d r bad : Bool) (id fl len : Int) (b : ByteArray) : signalboxref02_Right.j2 k x d r bad id fl len b = some (!bad && rl2 x d r len b) := by
  obtain ⟨k, rfl⟩ : ∃ m, k = m + 1 := ⟨k - 1, by omega⟩
  obtain ⟨c, hc, hd⟩ := rcode k (by omega) len
  have hd' : (c < 0) = (isCode len = false) := by
    rw [← decide_eq_true_eq (p := c < 0), hd]
    cases isCode len <;> simp
  simp only [signalboxref02_Right.j2, rj3 k (by omega), hc, ob, hd', rl2]
  cases bad with
  | true => simp
  | false =>
    by_cases h0 : len < 0
    · have : ¬ (0 ≤ len ∧ len ≤ 64) := by omega
      simp [h0, this]
    · by_cases h1 : len > 64
      · have : ¬ (0 ≤ len ∧ len ≤ 64) := by omega
        simp [h0, h1, this]
      · have h2 : 0 ≤ len ∧ len ≤ 64 := by omega
        simp only [h0, h1, h2, and_self, decide_true, Bool.true_and, if_false, Bool.not_false]
        cases d with
        | true =>
          cases isCode len <;> cases x <;> simp [bne]
        | false =>
          by_cases h3 : len > 8
          · have : ¬ len ≤ 8 := by omega
            simp [h3, this]
          · have : len ≤ 8 := by omega
            cases x <;> simp [h3, this, bne]
theorem rj1 (k : Nat) (hk : 23 ≤ k) (x d r e bad : Bool) (id fl len : Int) (b : ByteArray) : signalboxref02_Right.j1 k x d r e bad id fl len b = some (!bad && (decide (id ≤ 2047) || e || x) && rl2 x d r len b) := by
  obtain ⟨k, rfl⟩ : ∃ m, k = m + 1 := ⟨k - 1, by omega⟩
  simp only [signalboxref02_Right.j1, rj2 k (by omega)]
  cases bad with
  | true => simp
  | false =>
    by_cases h : id > 2047
    · have : ¬ id ≤ 2047 := by omega
      cases e <;> cases x <;> simp [h, this]
    · have : id ≤ 2047 := by omega
      simp [h, this]
theorem rright_eq (k : Nat) (hk : 30 ≤ k) (id fl len : Int) (b : ByteArray) : signalboxref02_Right.f k id fl len b = some (rgt id fl len b) := by
  obtain ⟨k, rfl⟩ : ∃ m, k = m + 1 := ⟨k - 1, by omega⟩
  have ht : ∀ k, signalboxref02_Right.j0 (k + 1) true id fl len b = some false := fun k => rfl
  simp only [signalboxref02_Right.f, ht]
  by_cases h0 : fl < 0
  · have : ¬ (0 ≤ fl ∧ fl ≤ 63) := by omega
    simp [h0, rgt, flg, this]
  by_cases h1 : fl > 63
  · have : ¬ (0 ≤ fl ∧ fl ≤ 63) := by omega
    simp [h0, h1, rgt, flg, this]
  rw [if_neg h0, if_neg h1]
  by_cases h2 : id < 0
  · have : ¬ (0 ≤ id ∧ id ≤ mst fl) := by omega
    simp [h2, rgt, this]
  rw [if_neg h2]
  have hm := mst_le fl
  by_cases h3 : id > 536870911
  · have : ¬ (0 ≤ id ∧ id ≤ mst fl) := by omega
    have e : decide (id > 536870911) = true := by simpa using h3
    rw [e, ht]
    simp [rgt, this]
  have e : decide (id > 536870911) = false := by simpa using h3
  rw [e]
  obtain ⟨a1, a2, a4, a8, a16, a32⟩ := rhas id fl len b (by omega) (by omega)
  have hx := (has_fl fl (by omega) (by omega)).2.2.2.2.2.2
  have hr : 0 ≤ fl ∧ fl ≤ 63 := by omega
  have hc := isCode_iff len
  have hm2 : decide (0 ≤ id ∧ id ≤ mst fl) = (decide (id ≤ 2047) || fE fl || fX fl) := by
    unfold mst
    split
    · next h => rw [Bool.or_assoc, h, Bool.or_true, decide_eq_true_eq]; omega
    · next h => rw [Bool.or_assoc, Bool.eq_false_iff.mpr h, Bool.or_false, Bool.eq_iff_iff]; simp; omega
  simp only [signalboxref02_Right.j0, a1, a2, a4, a8, a16, a32, ob, rj1 k (by omega), show rgt id fl len b = (flg fl && decide (0 ≤ id ∧ id ≤ mst fl) && lng fl len && rl3 (fR fl) len b) from rfl, hm2, flg, lng, rl2, hr, hx, and_self, decide_true, Bool.true_and]
  clear a1 a2 a4 a8 a16 a32 hx e
  have c3 : ∀ z, (decide (0 ≤ len) && (decide (len ≤ 64) && (isCode len && z))) = (isCode len && z) := by
    intro z
    cases hi : isCode len with
    | false => simp
    | true => have := hc.mp hi; cases z <;> simp; omega
  have c4 : ∀ z, (decide (0 ≤ len) && (decide (len ≤ 64) && (decide (len ≤ 8) && z))) = (decide (0 ≤ len) && (decide (len ≤ 8) && z)) := by
    intro z
    rw [Bool.eq_iff_iff]
    cases z <;> simp
    omega
  have c5 : ∀ z, (decide (0 ≤ len) && (decide (len ≤ 8) && (len == 8 && z))) = (len == 8 && z) := by
    intro z
    rw [Bool.eq_iff_iff]
    cases z <;> simp
    omega
  cases fX fl <;> cases fE fl <;> cases fR fl <;> cases fD fl <;> cases fB fl <;> cases fS fl <;> simp [c3, c4, c5, Bool.and_assoc, Bool.decide_and]

/-- The class by an identifier and a byte. -/
def clsN (id b : Int) : Int := if id = 64 ∧ b = 0 then 5 else if id = 256 ∧ b = 0 then 6 else if id = 4 then (if b = 1 then 1 else if b = 4 then 2 else if b = 16 then 3 else if b = 64 then 4 else 0) else 0
/-- Are all bytes nought that must be? -/
abbrev nought (d : ByteArray) : Prop := bt d 0 = 0 ∧ bt d 2 = 0 ∧ bt d 3 = 0 ∧ bt d 4 = 0 ∧ bt d 5 = 0
abbrev frmE (fl len : Int) (d : ByteArray) : Prop := fl = 4 ∧ len = 8 ∧ d.size = 8 ∧ nought d
def cls (id fl len : Int) (d : ByteArray) : Int := if frmE fl len d then clsN id (bt d 1) else 0
def dat (b t r : Int) : List Int := [0, b, 0, 0, 0, 0, mn (mx t 0) 255, mn (mx r 0) 255]
theorem mnx (t : Int) : 0 ≤ mn (mx t 0) 255 ∧ mn (mx t 0) 255 ≤ 255 := by
  unfold mn mx
  (repeat' split) <;> omega
theorem mnx_id (t : Int) (h : 0 ≤ t ∧ t ≤ 255) : mn (mx t 0) 255 = t := by
  unfold mn mx
  (repeat' split) <;> omega
theorem dat_range (b t r : Int) (hb : 0 ≤ b ∧ b ≤ 255) : ∀ x ∈ dat b t r, 0 ≤ x ∧ x ≤ 255 := by
  intro x hx
  have h1 := mnx t
  have h2 := mnx r
  unfold dat at hx
  simp only [List.mem_cons, List.not_mem_nil, or_false] at hx
  rcases hx with rfl | rfl | rfl | rfl | rfl | rfl | rfl | rfl <;> omega
theorem dat_bt (b t r : Int) (hb : 0 ≤ b ∧ b ≤ 255) : bt (strOfNums (dat b t r)) 0 = 0 ∧ bt (strOfNums (dat b t r)) 1 = b ∧ bt (strOfNums (dat b t r)) 2 = 0 ∧ bt (strOfNums (dat b t r)) 3 = 0 ∧ bt (strOfNums (dat b t r)) 4 = 0 ∧ bt (strOfNums (dat b t r)) 5 = 0 ∧ bt (strOfNums (dat b t r)) 6 = mn (mx t 0) 255 ∧ bt (strOfNums (dat b t r)) 7 = mn (mx r 0) 255 := by
  have h := fun i hi => bt_num (dat b t r) (dat_range b t r hb) i hi
  exact ⟨h 0 (by simp [dat]), h 1 (by simp [dat]), h 2 (by simp [dat]), h 3 (by simp [dat]), h 4 (by simp [dat]), h 5 (by simp [dat]), h 6 (by simp [dat]), h 7 (by simp [dat])⟩
theorem dat_size (b t r : Int) : (strOfNums (dat b t r)).size = 8 := by rw [strOfNums_size]; rfl
theorem mkB_range (c : Int) : 0 ≤ mkB c ∧ mkB c ≤ 255 := by unfold mkB; (repeat' split) <;> omega
theorem dat_iff (d : ByteArray) (hd : d.size = 8) (b : Int) (hb : 0 ≤ b ∧ b ≤ 255) : d = strOfNums (dat b (bt d 6) (bt d 7)) ↔ nought d ∧ bt d 1 = b := by
  obtain ⟨h0, h1, h2, h3, h4, h5, h6, h7⟩ := dat_bt b (bt d 6) (bt d 7) hb
  rw [mnx_id _ (bt_range d 6)] at h6
  rw [mnx_id _ (bt_range d 7)] at h7
  constructor
  · intro h
    generalize strOfNums (dat b (bt d 6) (bt d 7)) = e at *
    subst h
    exact ⟨⟨h0, h2, h3, h4, h5⟩, h1⟩
  · rintro ⟨⟨g0, g2, g3, g4, g5⟩, g1⟩
    apply bytes_ext
    · rw [hd, dat_size]
    · intro i hi
      have hc : i = 0 ∨ i = 1 ∨ i = 2 ∨ i = 3 ∨ i = 4 ∨ i = 5 ∨ i = 6 ∨ i = 7 := by omega
      rcases hc with rfl | rfl | rfl | rfl | rfl | rfl | rfl | rfl
      · exact g0.trans h0.symm
      · exact g1.trans h1.symm
      · exact g2.trans h2.symm
      · exact g3.trans h3.symm
      · exact g4.trans h4.symm
      · exact g5.trans h5.symm
      · exact h6.symm
      · exact h7.symm
theorem made_at (c t r : Int) (o : Bool) (i : Int) (h1 : 1 ≤ c) (h6 : c ≤ 6) : errs_Made.f c t r o i = some (mkI c, 4, 8, strOfNums (dat (mkB c) t r), true) := by
  unfold errs_Made.f
  rw [if_neg (by omega), if_neg (by omega)]
  rfl
theorem cls_step (k : Nat) (c : Nat) (h1 : 1 ≤ c) (h6 : c ≤ 6) (id : Int) (d : ByteArray) (hd : d.size = 8) :
    errs_Class.l0 (k + 1) c id 4 8 d = if id = mkI c ∧ nought d ∧ bt d 1 = mkB c then some (c : Int) else errs_Class.l0 k ((c + 1 : Nat) : Int) id 4 8 d := by
  have g1 : (c : Int) ≤ 6 := by omega
  have g2 : 6 < (d.size : Int) := by omega
  have g3 : 7 < (d.size : Int) := by omega
  have e6 : wrap64 (bt d 6) = bt d 6 := by have := bt_range d 6; exact w64 (by omega) (by omega)
  have e7 : wrap64 (bt d 7) = bt d 7 := by have := bt_range d 7; exact w64 (by omega) (by omega)
  have hm := made_at c (bt d 6) (bt d 7) false 0 (by omega) g1
  simp only [errs_Class.l0, if_pos g1, if_pos g2, if_pos g3, e6, e7, hm, ob, up1 c (by omega)]
  have hi := dat_iff d hd (mkB c) (mkB_range c)
  have hb : ((id == mkI c && ((4 : Int) == 4 && ((8 : Int) == 8 && (d.toList == (strOfNums (dat (mkB c) (bt d 6) (bt d 7))).toList)))) = true) ↔ (id = mkI c ∧ nought d ∧ bt d 1 = mkB c) := by
    simp only [Bool.and_eq_true, beq_iff_eq, toList_inj', hi]
    exact ⟨fun h => ⟨h.1, h.2.2.2⟩, fun h => ⟨h.1, trivial, trivial, h.2⟩⟩
  by_cases hh : id = mkI c ∧ nought d ∧ bt d 1 = mkB c
  · rw [if_pos hh, if_pos (hb.mpr hh)]
  · rw [if_neg hh, if_neg (fun h => hh (hb.mp h))]
theorem mks : mkI 1 = 4 ∧ mkI 2 = 4 ∧ mkI 3 = 4 ∧ mkI 4 = 4 ∧ mkI 5 = 64 ∧ mkI 6 = 256 ∧ mkB 1 = 1 ∧ mkB 2 = 4 ∧ mkB 3 = 16 ∧ mkB 4 = 64 ∧ mkB 5 = 0 ∧ mkB 6 = 0 := by decide
theorem cls_l0 (k : Nat) (hk : 7 ≤ k) (id : Int) (d : ByteArray) (hd : d.size = 8) : errs_Class.l0 k 1 id 4 8 d = some (if nought d then clsN id (bt d 1) else 0) := by
  obtain ⟨k, rfl⟩ : ∃ m, k = m + 1 + 1 + 1 + 1 + 1 + 1 + 1 := ⟨k - 7, by omega⟩
  obtain ⟨i1, i2, i3, i4, i5, i6, b1, b2, b3, b4, b5, b6⟩ := mks
  have e : errs_Class.l0 (k + 1) 7 id 4 8 d = some 0 := by
    simp only [errs_Class.l0]
    rw [if_neg (by decide)]
  have s1 := cls_step (k + 1 + 1 + 1 + 1 + 1 + 1) 1 (by decide) (by decide) id d hd
  have s2 := cls_step (k + 1 + 1 + 1 + 1 + 1) 2 (by decide) (by decide) id d hd
  have s3 := cls_step (k + 1 + 1 + 1 + 1) 3 (by decide) (by decide) id d hd
  have s4 := cls_step (k + 1 + 1 + 1) 4 (by decide) (by decide) id d hd
  have s5 := cls_step (k + 1 + 1) 5 (by decide) (by decide) id d hd
  have s6 := cls_step (k + 1) 6 (by decide) (by decide) id d hd
  simp only [show ((1 : Nat) : Int) = 1 from rfl, show ((2 : Nat) : Int) = 2 from rfl, show ((3 : Nat) : Int) = 3 from rfl, show ((4 : Nat) : Int) = 4 from rfl, show ((5 : Nat) : Int) = 5 from rfl, show ((6 : Nat) : Int) = 6 from rfl, show ((7 : Nat) : Int) = 7 from rfl, show ((1 + 1 : Nat) : Int) = 2 from rfl, show ((2 + 1 : Nat) : Int) = 3 from rfl, show ((3 + 1 : Nat) : Int) = 4 from rfl, show ((4 + 1 : Nat) : Int) = 5 from rfl, show ((5 + 1 : Nat) : Int) = 6 from rfl, show ((6 + 1 : Nat) : Int) = 7 from rfl, i1, i2, i3, i4, i5, i6, b1, b2, b3, b4, b5, b6] at s1 s2 s3 s4 s5 s6
  rw [s1, s2, s3, s4, s5, s6, e]
  unfold clsN
  generalize bt d 1 = b
  by_cases hn : nought d
  · rw [if_pos hn]
    by_cases hi4 : id = 4
    · subst hi4
      by_cases h1 : b = 1
      · subst h1; rw [if_pos ⟨rfl, hn, rfl⟩]; rfl
      rw [if_neg (fun h => h1 h.2.2)]
      by_cases h2 : b = 4
      · subst h2; rw [if_pos ⟨rfl, hn, rfl⟩]; rfl
      rw [if_neg (fun h => h2 h.2.2)]
      by_cases h3 : b = 16
      · subst h3; rw [if_pos ⟨rfl, hn, rfl⟩]; rfl
      rw [if_neg (fun h => h3 h.2.2)]
      by_cases h4 : b = 64
      · subst h4; rw [if_pos ⟨rfl, hn, rfl⟩]; rfl
      rw [if_neg (fun h => h4 h.2.2), if_neg (fun h => absurd h.1 (by decide)), if_neg (fun h => absurd h.1 (by decide)), if_neg (fun h => absurd h.1 (by decide)), if_neg (fun h => absurd h.1 (by decide)), if_pos rfl, if_neg h1, if_neg h2, if_neg h3, if_neg h4]
    · rw [if_neg (fun h => hi4 h.1), if_neg (fun h => hi4 h.1), if_neg (fun h => hi4 h.1), if_neg (fun h => hi4 h.1)]
      by_cases h5 : id = 64 ∧ b = 0
      · rw [if_pos ⟨h5.1, hn, h5.2⟩, if_pos h5]
      rw [if_neg (fun h => h5 ⟨h.1, h.2.2⟩), if_neg h5]
      by_cases h6 : id = 256 ∧ b = 0
      · rw [if_pos ⟨h6.1, hn, h6.2⟩, if_pos h6]
      rw [if_neg (fun h => h6 ⟨h.1, h.2.2⟩), if_neg h6, if_neg hi4]
  · rw [if_neg hn, if_neg (fun h => hn h.2.1), if_neg (fun h => hn h.2.1), if_neg (fun h => hn h.2.1), if_neg (fun h => hn h.2.1), if_neg (fun h => hn h.2.1), if_neg (fun h => hn h.2.1)]
theorem flg4 : flg 4 = true ∧ mst 4 = 536870911 ∧ fR 4 = false ∧ fX 4 = true := by decide
theorem rgt4 (id len : Int) (d : ByteArray) : rgt id 4 len d = true ↔ 0 ≤ id ∧ id ≤ 536870911 ∧ len = 8 ∧ d.size = 8 := by
  obtain ⟨f1, f2, f3, f4⟩ := flg4
  unfold rgt lng
  rw [f1, f2, f3, f4]
  simp only [Bool.true_and, if_true, Bool.false_eq_true, if_false, Bool.and_eq_true, decide_eq_true_eq, beq_iff_eq]
  omega
theorem clsN_id (id b : Int) (h : clsN id b ≠ 0) : id = 4 ∨ id = 64 ∨ id = 256 := by
  unfold clsN at h
  by_cases h5 : id = 64
  · omega
  by_cases h6 : id = 256
  · omega
  rw [if_neg (fun h => h5 h.1), if_neg (fun h => h6 h.1)] at h
  by_cases h4 : id = 4
  · omega
  · rw [if_neg h4] at h; exact absurd rfl h
theorem class_eq (k : Nat) (hk : 20 ≤ k) (id fl len : Int) (d : ByteArray) : errs_Class.f k id fl len d = some (cls id fl len d) := by
  obtain ⟨k, rfl⟩ : ∃ m, k = m + 1 := ⟨k - 1, by omega⟩
  have ht : errs_Class.j0 (k + 1) true id fl len d = some 0 := rfl
  unfold errs_Class.f cls
  by_cases hf : fl = 4
  · subst hf
    rw [if_pos rfl, right_eq (k + 1) (by omega), ob]
    by_cases hr : rgt id 4 len d = true
    · obtain ⟨r1, r2, rfl, r4⟩ := (rgt4 id len d).mp hr
      rw [if_pos hr]
      have : ((0 : Int) != 0) = false := rfl
      rw [this]
      simp only [errs_Class.j0, Bool.false_eq_true, if_false]
      rw [cls_l0 k (by omega) id d r4]
      by_cases hn : nought d
      · rw [if_pos hn, if_pos ⟨rfl, rfl, r4, hn⟩]
      · rw [if_neg hn, if_neg (fun h => hn h.2.2.2)]
    · rw [if_neg hr]
      have : ((4 : Int) != 0) = true := rfl
      rw [this, ht]
      by_cases hh : frmE 4 len d
      · rw [if_pos hh]
        obtain ⟨_, h2, h3, _⟩ := hh
        by_cases hc : clsN id (bt d 1) = 0
        · rw [hc]
        · exfalso
          rcases clsN_id _ _ hc with h | h | h <;> exact hr ((rgt4 id len d).mpr ⟨by omega, by omega, h2, h3⟩)
      · rw [if_neg hh]
  · rw [if_neg hf, ht, if_neg (fun h => hf h.1)]

theorem cls_range (id fl len : Int) (d : ByteArray) : 0 ≤ cls id fl len d ∧ cls id fl len d ≤ 6 ∧ (cls id fl len d ≠ 0 → d.size = 8) := by
  unfold cls
  by_cases h : frmE fl len d
  · rw [if_pos h]
    refine ⟨?_, ?_, fun _ => h.2.2.1⟩
    · unfold clsN; (repeat' split) <;> omega
    · unfold clsN; (repeat' split) <;> omega
  · rw [if_neg h]; exact ⟨by decide, by decide, fun h => absurd rfl h⟩
theorem counts_eq (k : Nat) (hk : 20 ≤ k) (id fl len : Int) (d : ByteArray) : errs_Counts.f k id fl len d = some (if cls id fl len d = 0 then (0, 0, false) else (bt d 6, bt d 7, true)) := by
  obtain ⟨_, _, h8⟩ := cls_range id fl len d
  have e6 : wrap64 (bt d 6) = bt d 6 := by have := bt_range d 6; exact w64 (by omega) (by omega)
  have e7 : wrap64 (bt d 7) = bt d 7 := by have := bt_range d 7; exact w64 (by omega) (by omega)
  unfold errs_Counts.f
  rw [class_eq k hk, ob]
  by_cases h : cls id fl len d = 0
  · rw [if_pos h, if_pos h]
  · have := h8 h
    rw [if_neg h, if_neg h, if_pos (by omega), if_pos (by omega), e6, e7]

theorem alive_k : ∃ K, ∀ k, K ≤ k → signalboxlaw19_alive.f k = some true :=
  Ev.of signalboxlaw19_alive.mono (k := 40) (by decide +kernel)

theorem cut_eq (t : Int) : signalboxref19_cut.f t = some (mn (mx t 0) 255) := by
  unfold signalboxref19_cut.f mn mx
  by_cases h1 : t < 0
  · rw [if_pos h1, if_pos h1]; rfl
  · rw [if_neg h1, if_neg h1]
    by_cases h2 : t > 255
    · rw [if_pos h2, if_pos h2]
    · rw [if_neg h2, if_neg h2]
      congr 1
      omega
theorem rmade_at (k : Nat) (hk : 1 ≤ k) (c t r : Int) (o : Bool) (i : Int) (h1 : 1 ≤ c) (h6 : c ≤ 6) : signalboxref19_Made.f k c t r o i = some (mkI c, 4, 8, strOfNums (dat (mkB c) t r), true) := by
  obtain ⟨k, rfl⟩ : ∃ m, k = m + 1 := ⟨k - 1, by omega⟩
  unfold signalboxref19_Made.f
  have hd : decide (c > 6) = false := decide_eq_false (by omega)
  rw [if_neg (by omega), hd]
  simp only [signalboxref19_Made.j0, Bool.false_eq_true, if_false, ob, cut_eq]
  rw [if_pos (by omega), if_pos (show c < (([0, 4, 4, 4, 4, 64, 256] : List Int).length : Int) from (show c < 7 by omega)), if_pos (show c < (([0, 1, 4, 16, 64, 0, 0] : List Int).length : Int) from (show c < 7 by omega))]
  have hcc : c = 1 ∨ c = 2 ∨ c = 3 ∨ c = 4 ∨ c = 5 ∨ c = 6 := by omega
  rcases hcc with rfl | rfl | rfl | rfl | rfl | rfl <;> rfl
theorem made_cls (c t r : Int) (h1 : 1 ≤ c) (h6 : c ≤ 6) : cls (mkI c) 4 8 (strOfNums (dat (mkB c) t r)) = c := by
  obtain ⟨h0, hb, g2, g3, g4, g5, _, _⟩ := dat_bt (mkB c) t r (mkB_range c)
  unfold cls
  rw [if_pos ⟨rfl, rfl, dat_size _ _ _, h0, g2, g3, g4, g5⟩, hb]
  have hcc : c = 1 ∨ c = 2 ∨ c = 3 ∨ c = 4 ∨ c = 5 ∨ c = 6 := by omega
  rcases hcc with rfl | rfl | rfl | rfl | rfl | rfl <;> decide
theorem ErrsMakes : signalboxlaw19_ErrsMakes.Pure := by
  intro c t r o i _ _ _ _
  obtain ⟨K, hal⟩ := alive_k
  obtain ⟨M, hM⟩ : ∃ M, M = K + 100 := ⟨_, rfl⟩
  refine ⟨M + 1, ?_⟩
  have A := hal M (by omega)
  by_cases hc : 1 ≤ c ∧ c ≤ 6
  · have hcl := made_cls c t r hc.1 hc.2
    have hcl0 : ¬ cls (mkI c) 4 8 (strOfNums (dat (mkB c) t r)) = 0 := by rw [hcl]; omega
    obtain ⟨_, _, _, _, _, _, h6, h7⟩ := dat_bt (mkB c) t r (mkB_range c)
    have hi : 0 ≤ mkI c ∧ mkI c ≤ 536870911 := by unfold mkI; (repeat' split) <;> omega
    have hrt : rgt (mkI c) 4 8 (strOfNums (dat (mkB c) t r)) = true := (rgt4 _ _ _).mpr ⟨hi.1, hi.2, rfl, dat_size _ _ _⟩
    have hct := counts_eq M (by omega) (mkI c) 4 8 (strOfNums (dat (mkB c) t r))
    have hcs := class_eq M (by omega) (mkI c) 4 8 (strOfNums (dat (mkB c) t r))
    have hrr := rright_eq M (by omega) (mkI c) 4 8 (strOfNums (dat (mkB c) t r))
    rw [if_neg hcl0, h6, h7] at hct
    rw [hcl] at hcs
    rw [hrt] at hrr
    simp only [signalboxlaw19_ErrsMakes.f, made_at c t r o i hc.1 hc.2, rmade_at (M + 1) (by omega) c t r o i hc.1 hc.2, ob, beq_self_eq_true, Bool.not_true, Bool.or_self, Bool.false_eq_true, if_false, bne_self_eq_false]
    generalize strOfNums (dat (mkB c) t r) = D at hct hcs hrr
    simp only [signalboxlaw19_ErrsMakes.j0, Bool.false_eq_true, if_false, hct, ob, if_true, hrr, hcs, A]
  · have m1 : errs_Made.f c t r o i = some (0, 0, 0, (⟨#[]⟩ : ByteArray), false) := by
      unfold errs_Made.f
      by_cases h1 : c ≤ 0
      · rw [if_pos h1]
      · rw [if_neg h1, if_pos (by omega)]
    have m2 : signalboxref19_Made.f (M + 1) c t r o i = some (0, 0, 0, (⟨#[]⟩ : ByteArray), false) := by
      have ht : signalboxref19_Made.j0 (M + 1) c true t r o i = some (0, 0, 0, (⟨#[]⟩ : ByteArray), false) := rfl
      unfold signalboxref19_Made.f
      by_cases h1 : c < 1
      · rw [if_pos h1, ht]
      · have hd : decide (c > 6) = true := decide_eq_true (by omega)
        rw [if_neg h1, hd, ht]
    have hct := counts_eq M (by omega) 0 0 0 (⟨#[]⟩ : ByteArray)
    have hc0 : cls 0 0 0 (⟨#[]⟩ : ByteArray) = 0 := by unfold cls; rw [if_neg (fun h => absurd h.1 (by decide))]
    rw [if_pos hc0] at hct
    have h00 : wrap64 (0 + 0) = 0 := by decide +kernel
    simp only [signalboxlaw19_ErrsMakes.f, m1, m2, ob, beq_self_eq_true, Bool.not_true, Bool.or_self, Bool.false_eq_true, if_false, bne_self_eq_false, signalboxlaw19_ErrsMakes.j0, hct, h00, if_true, A]

end Go.Proofs.Ytnllfhogpjageaa.Pure
