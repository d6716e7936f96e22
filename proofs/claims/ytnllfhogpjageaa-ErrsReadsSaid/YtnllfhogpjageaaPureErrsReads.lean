/- ErrsReads: of which class any frame is, its word, and its numbers, is as the document says. Conditions: none beyond the statement's own. -/
import Derived.Test.YtnllfhogpjageaaPErrsReadsx7
namespace Go.Proofs.Ytnllfhogpjageaa.Pure
open Go.RowKit Go.Proofs.Ytnllfhogpjageaa.PErrsReads Go.Proofs.YtnllfhogpjageaaW.PrintWords Go.Proofs.YtnllfhogpjageaaW.PrintLast
set_option linter.unusedVariables false
set_option linter.unusedSimpArgs false

theorem wf_i64 {n : Int} (h : (Lit.int .i64 n).wf = true) : -9223372036854775808 ≤ n ∧ n ≤ 9223372036854775807 := by
  simp only [Lit.wf, Bool.and_eq_true, decide_eq_true_eq] at h
  exact h
theorem wf_u32 {n : Int} (h : (Lit.int .u32 n).wf = true) : 0 ≤ n ∧ n ≤ 4294967295 := by
  simp only [Lit.wf, Bool.and_eq_true, decide_eq_true_eq] at h
  exact h
theorem wf_i32 {n : Int} (h : (Lit.int .i32 n).wf = true) : -2147483648 ≤ n ∧ n ≤ 2147483647 := by
  simp only [Lit.wf, Bool.and_eq_true, decide_eq_true_eq] at h
  exact h
theorem w64 {n : Int} (h0 : -9223372036854775808 ≤ n) (h1 : n ≤ 9223372036854775807) : wrap64 n = n := by unfold wrap64; omega

/-- 'Option.bind_some' as an equation that simp carries along (not by 'rfl': else the kernel unfolds what is bound). -/
theorem ob {α β : Type} (a : α) (f : α → Option β) : (some a).bind f = f a := by
  have h : (some a).bind f = f a := rfl
  exact h.symm.symm

theorem up1 (j : Nat) (h : j < 1000000000) : wrap64 ((j : Int) + 1) = ((j + 1 : Nat) : Int) := by rw [w64 (by omega) (by omega)]; omega

theorem bt_size {s : ByteArray} {i : Nat} (h : i < s.size) : bt s (i : Int) = (s.data.toList[i]'(by rw [Array.length_toList]; exact h)).toNat := by
  have e := bt_at s (i : Int) (by simpa using h)
  rw [← e]
  simp
  rfl
theorem bt_none {s : ByteArray} {i : Int} (h : (s.size : Int) ≤ i) : bt s i = 0 := by
  unfold bt
  rw [dif_neg (by omega)]
theorem bt_num (l : List Int) (hl : ∀ x ∈ l, 0 ≤ x ∧ x ≤ 255) (i : Nat) (h : i < l.length) : bt (strOfNums l) i = l[i] := by
  have hs : i < (strOfNums l).size := by rw [strOfNums_size]; exact h
  rw [bt_size hs]
  have hx := hl l[i] (List.getElem_mem h)
  have : (strOfNums l).data.toList[i]'(by rw [Array.length_toList]; exact hs) = UInt8.ofNat (l[i]).toNat := by
    simp [strOfNums]
  rw [this]
  simp
  omega
theorem bytes_ext {s t : ByteArray} (hz : s.size = t.size) (h : ∀ i : Nat, i < s.size → bt s i = bt t i) : s = t := by
  have : s.data.toList = t.data.toList := by
    apply List.ext_getElem
    · rw [Array.length_toList, Array.length_toList]; exact hz
    · intro i h1 h2
      rw [Array.length_toList] at h1 h2
      have e := h i h1
      rw [bt_size h1, bt_size (show i < t.size from h2)] at e
      have e2 : (s.data.toList[i]).toNat = (t.data.toList[i]).toNat := by exact_mod_cast e
      exact UInt8.toNat_inj.mp e2
  obtain ⟨a⟩ := s
  obtain ⟨b⟩ := t
  have : a.toList = b.toList := this
  rw [Array.toList_inj.mp this]
theorem toList_inj' {s t : ByteArray} : s.toList = t.toList ↔ s = t := by
  constructor
  · intro h
    rw [ByteArray.toList_eq, ByteArray.toList_eq] at h
    obtain ⟨a⟩ := s
    obtain ⟨b⟩ := t
    have h : a.toList = b.toList := h
    rw [Array.toList_inj.mp h]
  · intro h; rw [h]
theorem str_beq (s t : ByteArray) : (s.toList == t.toList) = decide (s = t) := by
  rw [Bool.eq_iff_iff]
  simp [toList_inj']
/-- The comparison of two texts as the print has it, without 'toList' (which the kernel had better not unfold). -/
theorem ite_tl {α : Type} (x y : ByteArray) (p q : α) : (if x.toList = y.toList then p else q) = if x = y then p else q := by
  by_cases h : x = y
  · rw [if_pos h, if_pos (by rw [h])]
  · rw [if_neg h, if_neg (fun e => h (toList_inj'.mp e))]
theorem ite_tl0 {α : Type} (x : ByteArray) (p q : α) : (if x.toList = ([] : List UInt8) then p else q) = if x = ⟨#[]⟩ then p else q := by
  have e : (⟨#[]⟩ : ByteArray).toList = [] := by rw [ByteArray.toList_eq]
  by_cases h : x = ⟨#[]⟩
  · rw [if_pos h, if_pos (by rw [h, e])]
  · rw [if_neg h, if_neg (fun e2 => h (toList_inj'.mp (by rw [e2, e])))]

/-! The flags of a frame, by number. -/
def fE (fl : Int) : Bool := decide (fl % 2 = 1)
def fR (fl : Int) : Bool := decide (fl / 2 % 2 = 1)
def fX (fl : Int) : Bool := decide (fl / 4 % 2 = 1)
def fD (fl : Int) : Bool := decide (fl / 8 % 2 = 1)
def fB (fl : Int) : Bool := decide (fl / 16 % 2 = 1)
def fS (fl : Int) : Bool := decide (fl / 32 % 2 = 1)
theorem has_all : ∀ x : Fin 64, ((Go.bits .and .i64 (x.val : Int) 1) != 0) = fE x.val ∧ ((Go.bits .and .i64 (x.val : Int) 2) != 0) = fR x.val ∧ ((Go.bits .and .i64 (x.val : Int) 4) != 0) = fX x.val ∧ ((Go.bits .and .i64 (x.val : Int) 8) != 0) = fD x.val
    ∧ ((Go.bits .and .i64 (x.val : Int) 48) != 0) = (fB x.val || fS x.val) ∧ ((Go.bits .and .i64 (x.val : Int) 5) != 0) = (fE x.val || fX x.val)
    ∧ ((x.val : Int) == 4) = (fX x.val && !fE x.val && !fR x.val && !fD x.val && !fB x.val && !fS x.val) := by decide +kernel
theorem has_fl (fl : Int) (h0 : 0 ≤ fl) (h1 : fl ≤ 63) : ((Go.bits .and .i64 fl 1) != 0) = fE fl ∧ ((Go.bits .and .i64 fl 2) != 0) = fR fl ∧ ((Go.bits .and .i64 fl 4) != 0) = fX fl ∧ ((Go.bits .and .i64 fl 8) != 0) = fD fl
    ∧ ((Go.bits .and .i64 fl 48) != 0) = (fB fl || fS fl) ∧ ((Go.bits .and .i64 fl 5) != 0) = (fE fl || fX fl) ∧ (fl == 4) = (fX fl && !fE fl && !fR fl && !fD fl && !fB fl && !fS fl) := by
  have := has_all ⟨fl.toNat, by omega⟩
  have e : (fl.toNat : Int) = fl := by omega
  simpa only [e] using this
/-- Has a length a code? -/
def isCode (len : Int) : Bool := (frst (fun x => x == len) 0 szL).2.2
def flg (fl : Int) : Bool := decide (0 ≤ fl ∧ fl ≤ 63) && (if fX fl = true then fl == 4 else if fD fl = true then !fR fl else !(fB fl || fS fl))
def mst (fl : Int) : Int := if (fE fl || fX fl) = true then 536870911 else 2047
def lng (fl len : Int) : Bool := if fX fl = true then len == 8 else if fD fl = true then isCode len else decide (0 ≤ len ∧ len ≤ 8)
/-- May a frame be? -/
def rgt (id fl len : Int) (d : ByteArray) : Bool := flg fl && decide (0 ≤ id ∧ id ≤ mst fl) && lng fl len && decide ((d.size : Int) = if fR fl = true then 0 else len)
theorem flags_eq (k : Nat) (hk : 1 ≤ k) (id fl len : Int) (d : ByteArray) : frame_flags.f k id fl len d = some (flg fl) := by
  obtain ⟨k, rfl⟩ : ∃ m, k = m + 1 := ⟨k - 1, by omega⟩
  simp only [frame_flags.f, frame_flags.j0, frame_has.f, ob, flg]
  by_cases h0 : fl < 0
  · rw [if_pos h0, if_pos trivial]
    have : ¬ (0 ≤ fl ∧ fl ≤ 63) := by omega
    simp [this]
  · rw [if_neg h0]
    by_cases h1 : fl > 63
    · rw [if_pos (by simpa using h1)]
      have : ¬ (0 ≤ fl ∧ fl ≤ 63) := by omega
      simp [this]
    · rw [if_neg (by simpa using h1)]
      have hh := has_fl fl (by omega) (by omega)
      have : 0 ≤ fl ∧ fl ≤ 63 := by omega
      rw [hh.2.1, hh.2.2.1, hh.2.2.2.1, hh.2.2.2.2.1]
      simp only [this, and_self, decide_true, Bool.true_and]
      split
      · rfl
      · split <;> rfl
theorem flg_range (fl : Int) (h : flg fl = true) : 0 ≤ fl ∧ fl ≤ 63 := by
  unfold flg at h
  simp only [Bool.and_eq_true, decide_eq_true_eq] at h
  exact h.1
theorem most_eq (id fl len : Int) (d : ByteArray) (h : flg fl = true) : frame_most.f id fl len d = some (mst fl) := by
  have hh := has_fl fl (flg_range fl h).1 (flg_range fl h).2
  simp only [frame_most.f, frame_has.f, ob, hh.2.2.2.2.2.1, mst]
  split <;> rfl
theorem long_eq (id fl len : Int) (d : ByteArray) (h : flg fl = true) : frame_long.f id fl len d = some (lng fl len) := by
  have hh := has_fl fl (flg_range fl h).1 (flg_range fl h).2
  simp only [frame_long.f, frame_has.f, ob, hh.2.2.1, hh.2.2.2.1, lng, frame_Code.f, isCode]
  split
  · rfl
  · split
    · rfl
    · by_cases h0 : len ≥ 0
      · rw [if_pos h0]
        congr 1
        simp
        omega
      · rw [if_neg h0]
        simp
        omega
theorem right_eq (k : Nat) (hk : 1 ≤ k) (id fl len : Int) (d : ByteArray) : frame_Right.f k id fl len d = some (if rgt id fl len d = true then 0 else 4) := by
  obtain ⟨k, rfl⟩ : ∃ m, k = m + 1 := ⟨k - 1, by omega⟩
  simp only [frame_Right.f, flags_eq (k + 1) (by omega), ob, frame_Right.j0]
  cases hf : flg fl with
  | false => simp [rgt, hf]
  | true =>
    have hh := has_fl fl (flg_range fl hf).1 (flg_range fl hf).2
    simp only [if_true, most_eq id fl len d hf, long_eq id fl len d hf, ob, frame_has.f, hh.2.1]
    by_cases h0 : id < 0
    · rw [if_pos h0]
      have : ¬ (0 ≤ id ∧ id ≤ mst fl) := by omega
      simp [rgt, this]
    · rw [if_neg h0]
      by_cases h1 : id > mst fl
      · rw [if_pos (by simpa using h1)]
        have : ¬ (0 ≤ id ∧ id ≤ mst fl) := by omega
        simp [rgt, this]
      · rw [if_neg (by simpa using h1)]
        have h2 : 0 ≤ id ∧ id ≤ mst fl := by omega
        cases hl : lng fl len with
        | false => simp [rgt, hl]
        | true =>
          simp only [rgt, hf, hl, h2, and_self, decide_true, Bool.true_and, if_true]
          cases hr : fR fl with
          | false =>
            simp only [Bool.false_eq_true, if_false, decide_eq_true_eq]
            split <;> rfl
          | true =>
            simp only [if_true, decide_eq_true_eq]
            split <;> rfl
theorem right0 (k : Nat) (hk : 1 ≤ k) (id fl len : Int) (d : ByteArray) (h : rgt id fl len d = true) : frame_Right.f k id fl len d = some 0 := by rw [right_eq k hk, if_pos h]
theorem right4 (k : Nat) (hk : 1 ≤ k) (id fl len : Int) (d : ByteArray) (h : rgt id fl len d = false) : frame_Right.f k id fl len d = some 4 := by rw [right_eq k hk, if_neg (by simp [h])]
theorem rgt_facts (id fl len : Int) (d : ByteArray) (h : rgt id fl len d = true) : flg fl = true ∧ 0 ≤ id ∧ id ≤ mst fl ∧ lng fl len = true ∧ ((d.size : Int) = if fR fl = true then 0 else len) := by
  unfold rgt at h
  simp only [Bool.and_eq_true, decide_eq_true_eq] at h
  exact ⟨h.1.1.1, h.1.1.2.1, h.1.1.2.2, h.1.2, h.2⟩
theorem mst_le (fl : Int) : mst fl ≤ 536870911 := by unfold mst; split <;> omega

/-- The class by an identifier and a byte. -/
def clsN (id b : Int) : Int := if id = 64 ∧ b = 0 then 5 else if id = 256 ∧ b = 0 then 6 else if id = 4 then (if b = 1 then 1 else if b = 4 then 2 else if b = 16 then 3 else if b = 64 then 4 else 0) else 0
/-- Are all bytes nought that must be? -/
abbrev nought (d : ByteArray) : Prop := bt d 0 = 0 ∧ bt d 2 = 0 ∧ bt d 3 = 0 ∧ bt d 4 = 0 ∧ bt d 5 = 0
abbrev frmE (fl len : Int) (d : ByteArray) : Prop := fl = 4 ∧ len = 8 ∧ d.size = 8 ∧ nought d
def cls (id fl len : Int) (d : ByteArray) : Int := if frmE fl len d then clsN id (bt d 1) else 0
def dat (b t r : Int) : List Int := [0, b, 0, 0, 0, 0, mn (mx t 0) 255, mn (mx r 0) 255]
theorem mnx (t : Int) : 0 ≤ mn (mx t 0) 255 ∧ mn (mx t 0) 255 ≤ 255 := by
  unfold mn mx
  (repeat' split) <;> omega
theorem mnx_id (t : Int) (h : 0 ≤ t ∧ t ≤ 255) : mn (mx t 0) 255 = t := by
  unfold mn mx
  (repeat' split) <;> omega
theorem dat_range (b t r : Int) (hb : 0 ≤ b ∧ b ≤ 255) : ∀ x ∈ dat b t r, 0 ≤ x ∧ x ≤ 255 := by
  intro x hx
  have h1 := mnx t
  have h2 := mnx r
  unfold dat at hx
  simp only [List.mem_cons, List.not_mem_nil, or_false] at hx
  rcases hx with rfl | rfl | rfl | rfl | rfl | rfl | rfl | rfl <;> omega
theorem dat_bt (b t r : Int) (hb : 0 ≤ b ∧ b ≤ 255) : bt (strOfNums (dat b t r)) 0 = 0 ∧ bt (strOfNums (dat b t r)) 1 = b ∧ bt (strOfNums (dat b t r)) 2 = 0 ∧ bt (strOfNums (dat b t r)) 3 = 0 ∧ bt (strOfNums (dat b t r)) 4 = 0 ∧ bt (strOfNums (dat b t r)) 5 = 0 ∧ bt (strOfNums (dat b t r)) 6 = mn (mx t 0) 255 ∧ bt (strOfNums (dat b t r)) 7 = mn (mx r 0) 255 := by
  have h := fun i hi => bt_num (dat b t r) (dat_range b t r hb) i hi
  exact ⟨h 0 (by simp [dat]), h 1 (by simp [dat]), h 2 (by simp [dat]), h 3 (by simp [dat]), h 4 (by simp [dat]), h 5 (by simp [dat]), h 6 (by simp [dat]), h 7 (by simp [dat])⟩
theorem dat_size (b t r : Int) : (strOfNums (dat b t r)).size = 8 := by rw [strOfNums_size]; rfl
theorem mkB_range (c : Int) : 0 ≤ mkB c ∧ mkB c ≤ 255 := by unfold mkB; (repeat' split) <;> omega
theorem dat_iff (d : ByteArray) (hd : d.size = 8) (b : Int) (hb : 0 ≤ b ∧ b ≤ 255) : d = strOfNums (dat b (bt d 6) (bt d 7)) ↔ nought d ∧ bt d 1 = b := by
  obtain ⟨h0, h1, h2, h3, h4, h5, h6, h7⟩ := dat_bt b (bt d 6) (bt d 7) hb
  rw [mnx_id _ (bt_range d 6)] at h6
  rw [mnx_id _ (bt_range d 7)] at h7
  constructor
  · intro h
    generalize strOfNums (dat b (bt d 6) (bt d 7)) = e at *
    subst h
    exact ⟨⟨h0, h2, h3, h4, h5⟩, h1⟩
  · rintro ⟨⟨g0, g2, g3, g4, g5⟩, g1⟩
    apply bytes_ext
    · rw [hd, dat_size]
    · intro i hi
      have hc : i = 0 ∨ i = 1 ∨ i = 2 ∨ i = 3 ∨ i = 4 ∨ i = 5 ∨ i = 6 ∨ i = 7 := by omega
      rcases hc with rfl | rfl | rfl | rfl | rfl | rfl | rfl | rfl
      · exact g0.trans h0.symm
      · exact g1.trans h1.symm
      · exact g2.trans h2.symm
      · exact g3.trans h3.symm
      · exact g4.trans h4.symm
      · exact g5.trans h5.symm
      · exact h6.symm
      · exact h7.symm
theorem made_at (c t r : Int) (o : Bool) (i : Int) (h1 : 1 ≤ c) (h6 : c ≤ 6) : errs_Made.f c t r o i = some (mkI c, 4, 8, strOfNums (dat (mkB c) t r), true) := by
  unfold errs_Made.f
  rw [if_neg (by omega), if_neg (by omega)]
  rfl
theorem cls_step (k : Nat) (c : Nat) (h1 : 1 ≤ c) (h6 : c ≤ 6) (id : Int) (d : ByteArray) (hd : d.size = 8) :
    errs_Class.l0 (k + 1) c id 4 8 d = if id = mkI c ∧ nought d ∧ bt d 1 = mkB c then some (c : Int) else errs_Class.l0 k ((c + 1 : Nat) : Int) id 4 8 d := by
  have g1 : (c : Int) ≤ 6 := by omega
  have g2 : 6 < (d.size : Int) := by omega
  have g3 : 7 < (d.size : Int) := by omega
  have e6 : wrap64 (bt d 6) = bt d 6 := by have := bt_range d 6; exact w64 (by omega) (by omega)
  have e7 : wrap64 (bt d 7) = bt d 7 := by have := bt_range d 7; exact w64 (by omega) (by omega)
  have hm := made_at c (bt d 6) (bt d 7) false 0 (by omega) g1
  simp only [errs_Class.l0, if_pos g1, if_pos g2, if_pos g3, e6, e7, hm, ob, up1 c (by omega)]
  have hi := dat_iff d hd (mkB c) (mkB_range c)
  have hb : ((id == mkI c && ((4 : Int) == 4 && ((8 : Int) == 8 && (d.toList == (strOfNums (dat (mkB c) (bt d 6) (bt d 7))).toList)))) = true) ↔ (id = mkI c ∧ nought d ∧ bt d 1 = mkB c) := by
    simp only [Bool.and_eq_true, beq_iff_eq, toList_inj', hi]
    exact ⟨fun h => ⟨h.1, h.2.2.2⟩, fun h => ⟨h.1, trivial, trivial, h.2⟩⟩
  by_cases hh : id = mkI c ∧ nought d ∧ bt d 1 = mkB c
  · rw [if_pos hh, if_pos (hb.mpr hh)]
  · rw [if_neg hh, if_neg (fun h => hh (hb.mp h))]
theorem mks : mkI 1 = 4 ∧ mkI 2 = 4 ∧ mkI 3 = 4 ∧ mkI 4 = 4 ∧ mkI 5 = 64 ∧ mkI 6 = 256 ∧ mkB 1 = 1 ∧ mkB 2 = 4 ∧ mkB 3 = 16 ∧ mkB 4 = 64 ∧ mkB 5 = 0 ∧ mkB 6 = 0 := by decide
theorem cls_l0 (k : Nat) (hk : 7 ≤ k) (id : Int) (d : ByteArray) (hd : d.size = 8) : errs_Class.l0 k 1 id 4 8 d = some (if nought d then clsN id (bt d 1) else 0) := by
  obtain ⟨k, rfl⟩ : ∃ m, k = m + 1 + 1 + 1 + 1 + 1 + 1 + 1 := ⟨k - 7, by omega⟩
  obtain ⟨i1, i2, i3, i4, i5, i6, b1, b2, b3, b4, b5, b6⟩ := mks
  have e : errs_Class.l0 (k + 1) 7 id 4 8 d = some 0 := by
    simp only [errs_Class.l0]
    rw [if_neg (by decide)]
  have s1 := cls_step (k + 1 + 1 + 1 + 1 + 1 + 1) 1 (by decide) (by decide) id d hd
  have s2 := cls_step (k + 1 + 1 + 1 + 1 + 1) 2 (by decide) (by decide) id d hd
  have s3 := cls_step (k + 1 + 1 + 1 + 1) 3 (by decide) (by decide) id d hd
  have s4 := cls_step (k + 1 + 1 + 1) 4 (by decide) (by decide) id d hd
  have s5 := cls_step (k + 1 + 1) 5 (by decide) (by decide) id d hd
  have s6 := cls_step (k + 1) 6 (by decide) (by decide) id d hd
  simp only [show ((1 : Nat) : Int) = 1 from rfl, show ((2 : Nat) : Int) = 2 from rfl, show ((3 : Nat) : Int) = 3 from rfl, show ((4 : Nat) : Int) = 4 from rfl, show ((5 : Nat) : Int) = 5 from rfl, show ((6 : Nat) : Int) = 6 from rfl, show ((7 : Nat) : Int) = 7 from rfl, show ((1 + 1 : Nat) : Int) = 2 from rfl, show ((2 + 1 : Nat) : Int) = 3 from rfl, show ((3 + 1 : Nat) : Int) = 4 from rfl, show ((4 + 1 : Nat) : Int) = 5 from rfl, show ((5 + 1 : Nat) : Int) = 6 from rfl, show ((6 + 1 : Nat) : Int) = 7 from rfl, i1, i2, i3, i4, i5, i6, b1, b2, b3, b4, b5, b6] at s1 s2 s3 s4 s5 s6
  rw [s1, s2, s3, s4, s5, s6, e]
  unfold clsN
  generalize bt d 1 = b
  by_cases hn : nought d
  · rw [if_pos hn]
    by_cases hi4 : id = 4
    · subst hi4
      by_cases h1 : b = 1
      · subst h1; rw [if_pos ⟨rfl, hn, rfl⟩]; rfl
      rw [if_neg (fun h => h1 h.2.2)]
      by_cases h2 : b = 4
      · subst h2; rw [if_pos ⟨rfl, hn, rfl⟩]; rfl
      rw [if_neg (fun h => h2 h.2.2)]
      by_cases h3 : b = 16
      · subst h3; rw [if_pos ⟨rfl, hn, rfl⟩]; rfl
      rw [if_neg (fun h => h3 h.2.2)]
      by_cases h4 : b = 64
      · subst h4; rw [if_pos ⟨rfl, hn, rfl⟩]; rfl
      rw [if_neg (fun h => h4 h.2.2), if_neg (fun h => absurd h.1 (by decide)), if_neg (fun h => absurd h.1 (by decide)), if_neg (fun h => absurd h.1 (by decide)), if_neg (fun h => absurd h.1 (by decide)), if_pos rfl, if_neg h1, if_neg h2, if_neg h3, if_neg h4]
    · rw [if_neg (fun h => hi4 h.1), if_neg (fun h => hi4 h.1), if_neg (fun h => hi4 h.1), if_neg (fun h => hi4 h.1)]
      by_cases h5 : id = 64 ∧ b = 0
      · rw [if_pos ⟨h5.1, hn, h5.2⟩, if_pos h5]
      rw [if_neg (fun h => h5 ⟨h.1, h.2.2⟩), if_neg h5]
      by_cases h6 : id = 256 ∧ b = 0
      · rw [if_pos ⟨h6.1, hn, h6.2⟩, if_pos h6]
      rw [if_neg (fun h => h6 ⟨h.1, h.2.2⟩), if_neg h6, if_neg hi4]
  · rw [if_neg hn, if_neg (fun h => hn h.2.1), if_neg (fun h => hn h.2.1), if_neg (fun h => hn h.2.1), if_neg (fun h => hn h.2.1), if_neg (fun h => hn h.2.1), if_neg (fun h => hn h.2.1)]
theorem flg4 : flg 4 = true ∧ mst 4 = 536870911 ∧ fR 4 = false ∧ fX 4 = true := by decide
theorem rgt4 (id len : Int) (d : ByteArray) : rgt id 4 len d = true ↔ 0 ≤ id ∧ id ≤ 536870911 ∧ len = 8 ∧ d.size = 8 := by
  obtain ⟨f1, f2, f3, f4⟩ := flg4
  unfold rgt lng
  rw [f1, f2, f3, f4]
  simp only [Bool.true_and, if_true, Bool.false_eq_true, if_false, Bool.and_eq_true, decide_eq_true_eq, beq_iff_eq]
  omega
theorem clsN_id (id b : Int) (h : clsN id b ≠ 0) : id = 4 ∨ id = 64 ∨ id = 256 := by
  unfold clsN at h
  by_cases h5 : id = 64
  · omega
  by_cases h6 : id = 256
  · omega
  rw [if_neg (fun h => h5 h.1), if_neg (fun h => h6 h.1)] at h
  by_cases h4 : id = 4
  · omega
  · rw [if_neg h4] at h; exact absurd rfl h
theorem class_eq (k : Nat) (hk : 20 ≤ k) (id fl len : Int) (d : ByteArray) : errs_Class.f k id fl len d = some (cls id fl len d) := by
  obtain ⟨k, rfl⟩ : ∃ m, k = m + 1 := ⟨k - 1, by omega⟩
  have ht : errs_Class.j0 (k + 1) true id fl len d = some 0 := rfl
  unfold errs_Class.f cls
  by_cases hf : fl = 4
  · subst hf
    rw [if_pos rfl, right_eq (k + 1) (by omega), ob]
    by_cases hr : rgt id 4 len d = true
    · obtain ⟨r1, r2, rfl, r4⟩ := (rgt4 id len d).mp hr
      rw [if_pos hr]
      have : ((0 : Int) != 0) = false := rfl
      rw [this]
      simp only [errs_Class.j0, Bool.false_eq_true, if_false]
      rw [cls_l0 k (by omega) id d r4]
      by_cases hn : nought d
      · rw [if_pos hn, if_pos ⟨rfl, rfl, r4, hn⟩]
      · rw [if_neg hn, if_neg (fun h => hn h.2.2.2)]
    · rw [if_neg hr]
      have : ((4 : Int) != 0) = true := rfl
      rw [this, ht]
      by_cases hh : frmE 4 len d
      · rw [if_pos hh]
        obtain ⟨_, h2, h3, _⟩ := hh
        by_cases hc : clsN id (bt d 1) = 0
        · rw [hc]
        · exfalso
          rcases clsN_id _ _ hc with h | h | h <;> exact hr ((rgt4 id len d).mpr ⟨by omega, by omega, h2, h3⟩)
      · rw [if_neg hh]
  · rw [if_neg hf, ht, if_neg (fun h => hf h.1)]

theorem alive_k : ∃ K, ∀ k, K ≤ k → signalboxlaw19_alive.f k = some true :=
  Ev.of signalboxlaw19_alive.mono (k := 40) (by decide +kernel)

theorem rcls_l0 (k : Nat) (hk : 10 ≤ k) (id : Int) (d : ByteArray) (hd : d.size = 8) : signalboxref19_Class.l0 k 0 id 4 8 d = some (if nought d then clsN id (bt d 1) else 0) := by
  obtain ⟨k, rfl⟩ : ∃ m, k = m + 1 + 1 + 1 + 1 + 1 + 1 + 1 + 1 + 1 := ⟨k - 9, by omega⟩
  have st : ∀ (m c : Nat), c ≤ 5 → c ≠ 1 → signalboxref19_Class.l0 (m + 1) c id 4 8 d = if bt d c = 0 then signalboxref19_Class.l0 m ((c + 1 : Nat) : Int) id 4 8 d else some 0 := fun m c hc hc1 => by
    have g1 : (c : Int) < 6 := by omega
    have g2 : ¬ (c : Int) = 1 := by omega
    have g3 : 0 ≤ (c : Int) := by omega
    have g4 : (c : Int) < (d.size : Int) := by omega
    simp only [signalboxref19_Class.l0, if_pos g1, if_neg g2, if_pos g3, if_pos g4, up1 c (by omega)]
  have s1 : ∀ m, signalboxref19_Class.l0 (m + 1) 1 id 4 8 d = signalboxref19_Class.l0 m 2 id 4 8 d := fun m => by
    have g1 : (1 : Int) < 6 := by decide
    have g2 : wrap64 (1 + 1) = 2 := by decide +kernel
    simp only [signalboxref19_Class.l0, if_pos g1, if_true, g2]
  have s0 := st (k + 1 + 1 + 1 + 1 + 1 + 1 + 1 + 1) 0 (by decide) (by decide)
  have s2 := st (k + 1 + 1 + 1 + 1 + 1 + 1) 2 (by decide) (by decide)
  have s3 := st (k + 1 + 1 + 1 + 1 + 1) 3 (by decide) (by decide)
  have s4 := st (k + 1 + 1 + 1 + 1) 4 (by decide) (by decide)
  have s5 := st (k + 1 + 1 + 1) 5 (by decide) (by decide)
  simp only [show ((0 : Nat) : Int) = 0 from rfl, show ((2 : Nat) : Int) = 2 from rfl, show ((3 : Nat) : Int) = 3 from rfl, show ((4 : Nat) : Int) = 4 from rfl, show ((5 : Nat) : Int) = 5 from rfl, show ((0 + 1 : Nat) : Int) = 1 from rfl, show ((2 + 1 : Nat) : Int) = 3 from rfl, show ((3 + 1 : Nat) : Int) = 4 from rfl, show ((4 + 1 : Nat) : Int) = 5 from rfl, show ((5 + 1 : Nat) : Int) = 6 from rfl] at s0 s2 s3 s4 s5
  have hend : signalboxref19_Class.l0 (k + 1 + 1 + 1) 6 id 4 8 d = some (clsN id (bt d 1)) := by
    have g1 : ¬ (6 : Int) < 6 := by decide
    have g2 : 1 < (d.size : Int) := by omega
    have e1 : wrap64 (bt d 1) = bt d 1 := by have := bt_range d 1; exact w64 (by omega) (by omega)
    simp only [signalboxref19_Class.l0, if_neg g1, if_pos g2, e1, signalboxref19_Class.j2, signalboxref19_Class.j3]
    unfold clsN
    generalize bt d 1 = b
    by_cases hb : b = 0
    · subst hb
      by_cases h64 : id = 64
      · subst h64; rfl
      · by_cases h256 : id = 256
        · subst h256; rfl
        · by_cases h4 : id = 4 <;> simp [h64, h256, h4]
    · have hb2 : (b == 0) = false := by rw [beq_eq_false_iff_ne]; exact hb
      simp only [hb2, Bool.false_eq_true, if_false, ite_self, if_neg (fun h : id = 64 ∧ b = 0 => hb h.2), if_neg (fun h : id = 256 ∧ b = 0 => hb h.2)]
      by_cases h4 : id = 4
      · simp only [if_pos h4]
        (repeat' split) <;> rfl
      · simp only [if_neg h4]
  rw [s0]
  by_cases b0 : bt d 0 = 0
  · rw [if_pos b0, s1, s2]
    by_cases b2 : bt d 2 = 0
    · rw [if_pos b2, s3]
      by_cases b3 : bt d 3 = 0
      · rw [if_pos b3, s4]
        by_cases b4 : bt d 4 = 0
        · rw [if_pos b4, s5]
          by_cases b5 : bt d 5 = 0
          · rw [if_pos b5, hend, if_pos ⟨b0, b2, b3, b4, b5⟩]
          · rw [if_neg b5, if_neg (fun h => b5 h.2.2.2.2)]
        · rw [if_neg b4, if_neg (fun h => b4 h.2.2.2.1)]
      · rw [if_neg b3, if_neg (fun h => b3 h.2.2.1)]
    · rw [if_neg b2, if_neg (fun h => b2 h.2.1)]
  · rw [if_neg b0, if_neg (fun h => b0 h.1)]
theorem rclass_eq (k : Nat) (hk : 20 ≤ k) (id fl len : Int) (d : ByteArray) : signalboxref19_Class.f k id fl len d = some (cls id fl len d) := by
  obtain ⟨k, rfl⟩ : ∃ m, k = m + 1 := ⟨k - 1, by omega⟩
  have ht : signalboxref19_Class.j0 (k + 1) true id fl len d = some 0 := rfl
  unfold signalboxref19_Class.f cls
  by_cases hf : fl = 4
  · subst hf
    rw [if_pos rfl]
    by_cases hl : len = 8
    · subst hl
      rw [if_pos rfl]
      by_cases hd : d.size = 8
      · have : ((d.size : Int) != 8) = false := by rw [hd]; rfl
        rw [this]
        simp only [signalboxref19_Class.j0, Bool.false_eq_true, if_false]
        rw [rcls_l0 k (by omega) id d hd]
        by_cases hn : nought d
        · rw [if_pos hn, if_pos ⟨rfl, rfl, hd, hn⟩]
        · rw [if_neg hn, if_neg (fun h => hn h.2.2.2)]
      · have : ((d.size : Int) != 8) = true := by rw [bne_iff_ne]; omega
        rw [this, ht, if_neg (fun h => hd h.2.2.1)]
    · rw [if_neg hl, ht, if_neg (fun h => hl h.2.1)]
  · rw [if_neg hf, ht, if_neg (fun h => hf h.1)]
theorem cls_range (id fl len : Int) (d : ByteArray) : 0 ≤ cls id fl len d ∧ cls id fl len d ≤ 6 ∧ (cls id fl len d ≠ 0 → d.size = 8) := by
  unfold cls
  by_cases h : frmE fl len d
  · rw [if_pos h]
    refine ⟨?_, ?_, fun _ => h.2.2.1⟩
    · unfold clsN; (repeat' split) <;> omega
    · unfold clsN; (repeat' split) <;> omega
  · rw [if_neg h]; exact ⟨by decide, by decide, fun h => absurd rfl h⟩
theorem text_eq (k : Nat) (hk : 20 ≤ k) (id fl len : Int) (d : ByteArray) : errs_Text.f k id fl len d = some (wdOf (cls id fl len d)) := by
  obtain ⟨h0, h6, _⟩ := cls_range id fl len d
  unfold errs_Text.f
  rw [class_eq k hk, ob, if_pos h0, if_pos (by omega)]
theorem counts_eq (k : Nat) (hk : 20 ≤ k) (id fl len : Int) (d : ByteArray) : errs_Counts.f k id fl len d = some (if cls id fl len d = 0 then (0, 0, false) else (bt d 6, bt d 7, true)) := by
  obtain ⟨_, _, h8⟩ := cls_range id fl len d
  have e6 : wrap64 (bt d 6) = bt d 6 := by have := bt_range d 6; exact w64 (by omega) (by omega)
  have e7 : wrap64 (bt d 7) = bt d 7 := by have := bt_range d 7; exact w64 (by omega) (by omega)
  unfold errs_Counts.f
  rw [class_eq k hk, ob]
  by_cases h : cls id fl len d = 0
  · rw [if_pos h, if_pos h]
  · have := h8 h
    rw [if_neg h, if_neg h, if_pos (by omega), if_pos (by omega), e6, e7]
theorem ErrsReads : signalboxlaw19_ErrsReads.Pure := by
  intro id fl len d _ _ _ _
  obtain ⟨K, hal⟩ := alive_k
  obtain ⟨M, hM⟩ : ∃ M, M = K + 100 := ⟨_, rfl⟩
  refine ⟨M, ?_⟩
  have A := hal M (by omega)
  obtain ⟨h0, h6, h8⟩ := cls_range id fl len d
  have e6 : wrap64 (bt d 6) = bt d 6 := by have := bt_range d 6; exact w64 (by omega) (by omega)
  have e7 : wrap64 (bt d 7) = bt d 7 := by have := bt_range d 7; exact w64 (by omega) (by omega)
  simp only [signalboxlaw19_ErrsReads.f, rclass_eq M (by omega), ob, counts_eq M (by omega), class_eq M (by omega), text_eq M (by omega), e6, e7]
  rw [if_pos h0, if_pos (show cls id fl len d < (([(⟨#[]⟩ : ByteArray), (⟨#[108, 111, 115, 116]⟩ : ByteArray), (⟨#[119, 97, 114, 110, 101, 100]⟩ : ByteArray), (⟨#[112, 97, 115, 115, 105, 118, 101]⟩ : ByteArray), (⟨#[97, 99, 116, 105, 118, 101]⟩ : ByteArray), (⟨#[111, 102, 102]⟩ : ByteArray), (⟨#[109, 101, 110, 100, 101, 100]⟩ : ByteArray)] : List ByteArray).length : Int) from (show cls id fl len d < 7 by omega))]
  generalize cls id fl len d = c at *
  by_cases hc : c = 0
  · subst hc
    simp only [if_true]
    have hw : (wdOf 0).toList = ([] : List UInt8) := by decide +kernel
    have h00 : wrap64 (0 + 0) = 0 := by decide +kernel
    simp only [hw, if_true, Bool.false_eq_true, if_false, h00]
    rw [A, ob]
  · have hd := h8 hc
    have g6 : 6 < (d.size : Int) := by omega
    have g7 : 7 < (d.size : Int) := by omega
    have hcc : c = 1 ∨ c = 2 ∨ c = 3 ∨ c = 4 ∨ c = 5 ∨ c = 6 := by omega
    simp only [if_neg hc, if_true, if_pos g6, if_pos g7]
    rcases hcc with rfl | rfl | rfl | rfl | rfl | rfl
    all_goals
      refine Eq.trans (if_pos (congrArg ByteArray.toList (by rfl))) ?_
      rw [A, ob]

end Go.Proofs.Ytnllfhogpjageaa.Pure
