/- WatchThrottle: Asked at each tick, a job tells of frames that came, each of which differs from the one told ahead of it, as many ticks behind it as are asked at least; what is told last and what is held fit. Conditions: none beyond the statement's own. -/
import Derived.Test.YtelplkdbjfkfmaaPWatchThrottlex8
namespace Go.Proofs.Ytelplkdbjfkfmaa.Pure
open Go.RowKit Go.Proofs.Ytelplkdbjfkfmaa.PWatchThrottle Go.Proofs.YtelplkdbjfkfmaaW.PrintWords Go.Proofs.YtelplkdbjfkfmaaW.PrintLast
set_option linter.unusedVariables false
set_option linter.unusedSimpArgs false

theorem wf_i64 {n : Int} (h : (Lit.int .i64 n).wf = true) : -9223372036854775808 ≤ n ∧ n ≤ 9223372036854775807 := by
  simp only [Lit.wf, Bool.and_eq_true, decide_eq_true_eq] at h
  exact h
theorem wf_u32 {n : Int} (h : (Lit.int .u32 n).wf = true) : 0 ≤ n ∧ n ≤ 4294967295 := by
  simp only [Lit.wf, Bool.and_eq_true, decide_eq_true_eq] at h
  exact h
theorem wf_i32 {n : Int} (h : (Lit.int .i32 n).wf = true) : -2147483648 ≤ n ∧ n ≤ 2147483647 := by
  simp only [Lit.wf, Bool.and_eq_true, decide_eq_true_eq] at h
  exact h
theorem w64 {n : Int} (h0 : -9223372036854775808 ≤ n) (h1 : n ≤ 9223372036854775807) : wrap64 n = n := by unfold wrap64; omega

/-- 'Option.bind_some' as an equation that simp carries along (not by 'rfl': else the kernel unfolds what is bound). -/
theorem ob {α β : Type} (a : α) (f : α → Option β) : (some a).bind f = f a := by
  have h : (some a).bind f = f a := rfl
  exact h.symm.symm

theorem up1 (j : Nat) (h : j < 1000000000) : wrap64 ((j : Int) + 1) = ((j + 1 : Nat) : Int) := by rw [w64 (by omega) (by omega)]; omega

theorem bt_size {s : ByteArray} {i : Nat} (h : i < s.size) : bt s (i : Int) = (s.data.toList[i]'(by rw [Array.length_toList]; exact h)).toNat := by
  have e := bt_at s (i : Int) (by simpa using h)
  rw [← e]
  simp
  rfl
theorem bt_none {s : ByteArray} {i : Int} (h : (s.size : Int) ≤ i) : bt s i = 0 := by
  unfold bt
  rw [dif_neg (by omega)]
theorem bt_num (l : List Int) (hl : ∀ x ∈ l, 0 ≤ x ∧ x ≤ 255) (i : Nat) (h : i < l.length) : bt (strOfNums l) i = l[i] := by
  have hs : i < (strOfNums l).size := by rw [strOfNums_size]; exact h
  rw [bt_size hs]
  have hx := hl l[i] (List.getElem_mem h)
  have : (strOfNums l).data.toList[i]'(by rw [Array.length_toList]; exact hs) = UInt8.ofNat (l[i]).toNat := by
    simp [strOfNums]
  rw [this]
  simp
  omega
theorem bytes_ext {s t : ByteArray} (hz : s.size = t.size) (h : ∀ i : Nat, i < s.size → bt s i = bt t i) : s = t := by
  have : s.data.toList = t.data.toList := by
    apply List.ext_getElem
    · rw [Array.length_toList, Array.length_toList]; exact hz
    · intro i h1 h2
      rw [Array.length_toList] at h1 h2
      have e := h i h1
      rw [bt_size h1, bt_size (show i < t.size from h2)] at e
      have e2 : (s.data.toList[i]).toNat = (t.data.toList[i]).toNat := by exact_mod_cast e
      exact UInt8.toNat_inj.mp e2
  obtain ⟨a⟩ := s
  obtain ⟨b⟩ := t
  have : a.toList = b.toList := this
  rw [Array.toList_inj.mp this]
theorem toList_inj' {s t : ByteArray} : s.toList = t.toList ↔ s = t := by
  constructor
  · intro h
    rw [ByteArray.toList_eq, ByteArray.toList_eq] at h
    obtain ⟨a⟩ := s
    obtain ⟨b⟩ := t
    have h : a.toList = b.toList := h
    rw [Array.toList_inj.mp h]
  · intro h; rw [h]
theorem str_beq (s t : ByteArray) : (s.toList == t.toList) = decide (s = t) := by
  rw [Bool.eq_iff_iff]
  simp [toList_inj']
/-- The comparison of two texts as the print has it, without 'toList' (which the kernel had better not unfold). -/
theorem ite_tl {α : Type} (x y : ByteArray) (p q : α) : (if x.toList = y.toList then p else q) = if x = y then p else q := by
  by_cases h : x = y
  · rw [if_pos h, if_pos (by rw [h])]
  · rw [if_neg h, if_neg (fun e => h (toList_inj'.mp e))]
theorem ite_tl0 {α : Type} (x : ByteArray) (p q : α) : (if x.toList = ([] : List UInt8) then p else q) = if x = ⟨#[]⟩ then p else q := by
  have e : (⟨#[]⟩ : ByteArray).toList = [] := by rw [ByteArray.toList_eq]
  by_cases h : x = ⟨#[]⟩
  · rw [if_pos h, if_pos (by rw [h, e])]
  · rw [if_neg h, if_neg (fun e2 => h (toList_inj'.mp (by rw [e2, e])))]

/-- 'and' of two bytes, as numbers. -/
def band (x y : Int) : Int := ((x.toNat &&& y.toNat : Nat) : Int)
theorem bits_band (x y : Int) (hx : 0 ≤ x ∧ x ≤ 255) (hy : 0 ≤ y ∧ y ≤ 255) : Go.bits .and .u8 x y = band x y := by
  have h := (bits_nat .u8 8 (by decide) wraps_u8 x.toNat y.toNat (by omega) (by omega)).1
  rw [show ((x.toNat : Nat) : Int) = x by omega, show ((y.toNat : Nat) : Int) = y by omega] at h
  exact h
theorem band_range (x y : Int) (hx : 0 ≤ x ∧ x ≤ 255) : 0 ≤ band x y ∧ band x y ≤ 255 := by
  unfold band
  have := @Nat.and_le_left x.toNat y.toNat
  omega
theorem band_toNat (x y : Int) : (band x y).toNat = x.toNat &&& y.toNat := by unfold band; omega
theorem band_comm (x y : Int) : band x y = band y x := by unfold band; rw [Nat.and_comm]
theorem band_assoc (x y z : Int) : band (band x y) z = band x (band y z) := by unfold band; simp only [Int.toNat_natCast, Nat.and_assoc]
theorem band_self (x y : Int) : band (band x y) y = band x y := by unfold band; simp only [Int.toNat_natCast, Nat.and_assoc, Nat.and_self]
theorem band_zero (x : Int) : band x 0 = 0 := by unfold band; simp
theorem zero_band (x : Int) : band 0 x = 0 := by unfold band; simp
/-- A text under a mask. -/
def mk (s m : ByteArray) : ByteArray := strOfNums (msk s m s.size)
theorem msk_at (s m : ByteArray) : ∀ n i (h : i < n), (msk s m n)[i]'(by rw [octet_Mask.len]; exact h) = band (bt s i) (bt m i)
  | n + 1, i, h => by
    have hl := octet_Mask.len s m n
    by_cases hi : i < n
    · simp only [msk]
      rw [List.getElem_append_left (by omega)]
      exact msk_at s m n i hi
    · obtain rfl : i = n := by omega
      simp only [msk]
      rw [List.getElem_append_right (by omega)]
      simp only [hl, Nat.sub_self, List.getElem_cons_zero]
      split
      · exact bits_band _ _ (bt_range s _) (bt_range m _)
      · rw [bits_band _ _ (bt_range s _) (by decide), bt_none (s := m) (by omega)]
theorem mk_size (s m : ByteArray) : (mk s m).size = s.size := by unfold mk; rw [strOfNums_size, octet_Mask.len]
theorem bt_mk (s m : ByteArray) (i : Nat) : bt (mk s m) i = band (bt s i) (bt m i) := by
  by_cases h : i < s.size
  · have hl := octet_Mask.len s m s.size
    unfold mk
    rw [bt_num _ _ i (by omega)]
    · exact msk_at s m s.size i h
    · intro x hx
      obtain ⟨j, hj, rfl⟩ := List.getElem_of_mem hx
      rw [msk_at s m s.size j (by omega)]
      exact band_range _ _ (bt_range s _)
  · rw [bt_none (s := mk s m) (by rw [mk_size]; omega), bt_none (s := s) (by omega), zero_band]
theorem mask_eq (s m : ByteArray) (h : s.size ≤ 140737488351232) : octet_Mask.f s m = some (mk s m) := by
  unfold octet_Mask.f mk
  rw [if_pos (by omega)]

def dif (a b m : ByteArray) : Bool := !decide (a.size = b.size ∧ mk a m = mk b m)
theorem differ_eq (a b m : ByteArray) (ha : a.size ≤ 140737488351232) (hb : b.size ≤ 140737488351232) : octet_Differ.f a b m = some (dif a b m) := by
  unfold octet_Differ.f dif
  by_cases h : (a.size : Int) = b.size
  · have h' : a.size = b.size := by omega
    rw [if_pos h, mask_eq a m ha, ob, mask_eq b m hb, ob]
    congr 1
    by_cases e : mk a m = mk b m
    · simp [h', e]
    · have : ¬ (mk a m).toList = (mk b m).toList := fun x => e (toList_inj'.mp x)
      simp [e, this]
  · rw [if_neg h]
    have h' : ¬ a.size = b.size := by omega
    simp [h']

def tb (x : Int) (k : Nat) : Bool := x.toNat.testBit k

theorem tb_band (x y : Int) (k : Nat) : tb (band x y) k = (tb x k && tb y k) := by
  unfold tb
  rw [band_toNat, Nat.testBit_and]
/-- A number halved so many times, and whether it is odd: the reference's bit. -/
theorem bit_l0 (d : Nat) : ∀ (k j b : Nat) (x : Nat), x ≤ 255 → j ≤ b → b ≤ 100 → b - j = d → d < k → signalboxref01_Bit.l0 k b ((x / 2 ^ j : Nat) : Int) j = some (x.testBit b) := by
  induction d with
  | zero =>
    intro k j b x hx hj hb hd hk
    obtain ⟨k, rfl⟩ : ∃ m, k = m + 1 := ⟨k - 1, by omega⟩
    obtain rfl : j = b := by omega
    simp only [signalboxref01_Bit.l0]
    rw [if_neg (by omega)]
    congr 1
    rw [Int.tmod_eq_emod_of_nonneg (Int.natCast_nonneg _), Nat.testBit, Nat.shiftRight_eq_div_pow, Nat.one_and_eq_mod_two]
    generalize x / 2 ^ j = q
    have : q % 2 = 0 ∨ q % 2 = 1 := by omega
    rcases this with h | h
    · rw [h]
      have : ((q : Int) % 2) = 0 := by omega
      rw [this]; decide
    · rw [h]
      have : ((q : Int) % 2) = 1 := by omega
      rw [this]; decide
  | succ d ih =>
    intro k j b x hx hj hb hd hk
    obtain ⟨k, rfl⟩ : ∃ m, k = m + 1 := ⟨k - 1, by omega⟩
    simp only [signalboxref01_Bit.l0]
    have hq : x / 2 ^ j ≤ 255 := Nat.le_trans (Nat.div_le_self _ _) hx
    rw [if_pos (by omega), Int.tdiv_eq_ediv_of_nonneg (Int.natCast_nonneg _)]
    have e1 : wrap64 (((x / 2 ^ j : Nat) : Int) / 2) = ((x / 2 ^ (j + 1) : Nat) : Int) := by
      rw [Nat.pow_succ, ← Nat.div_div_eq_div_mul]
      generalize x / 2 ^ j = q at hq
      rw [w64 (by omega) (by omega)]
      omega
    rw [e1, show wrap64 ((j : Int) + 1) = ((j + 1 : Nat) : Int) by unfold wrap64; omega]
    exact ih k (j + 1) b x hx (by omega) hb (by omega) (by omega)
theorem bit_eq (k : Nat) (hk : 12 ≤ k) (s : ByteArray) (hs : s.size ≤ 1000000) (i b : Nat) (hb : b ≤ 8) : signalboxref01_Bit.f k s i b = some (tb (bt s i) b) := by
  obtain ⟨k, rfl⟩ : ∃ m, k = m + 1 := ⟨k - 1, by omega⟩
  have hr := bt_range s (i : Int)
  simp only [signalboxref01_Bit.f, signalboxref01_Bit.j0]
  rw [if_neg (by omega)]
  by_cases h : (i : Int) ≥ (s.size : Int)
  · rw [if_pos (by simpa using h), bt_none h]
    simp [tb]
  · rw [if_neg (by simpa using h), if_pos (by omega), if_pos (by omega), w64 (by omega) (by omega)]
    have := bit_l0 b k 0 b (bt s i).toNat (by omega) (by omega) (by omega) (by omega) (by omega)
    rw [Nat.pow_zero, Nat.div_one, show (((bt s i).toNat : Nat) : Int) = bt s i by omega] at this
    exact this
/-- The lowest k bits of a byte, as a number. -/
def low (z : Int) : Nat → Int
  | 0 => 0
  | k + 1 => low z k + if tb z k = true then 2 ^ k else 0
theorem low_all : ∀ z : Fin 256, low (z.val : Int) 8 = z.val := by decide +kernel
theorem low_eq (z : Int) (h : 0 ≤ z ∧ z ≤ 255) : low z 8 = z := by
  have := low_all ⟨z.toNat, by omega⟩
  have e : (z.toNat : Int) = z := by omega
  simpa only [e] using this
theorem low_bound (z : Int) : ∀ k, 0 ≤ low z k ∧ low z k < 2 ^ k
  | 0 => by simp [low]
  | k + 1 => by
    have ih := low_bound z k
    simp only [low]
    have e : (2 : Int) ^ (k + 1) = 2 ^ k * 2 := Int.pow_succ 2 k
    split <;> omega

/-- Do two bytes differ under a third, in one of the bits from j on? -/
theorem differ_l1 (a b m : ByteArray) (ha : a.size ≤ 1000000) (hb : b.size ≤ 1000000) (hm : m.size ≤ 1000000) (i : Nat) (d : Nat) : ∀ (k j : Nat), j + d = 8 → d + 13 ≤ k →
    (∃ q, j ≤ q ∧ q < 8 ∧ tb (bt m i) q = true ∧ tb (bt a i) q ≠ tb (bt b i) q) ∧ signalboxref01_Differ.l1 k a b m i j = some true ∨
    (∀ q, j ≤ q → q < 8 → tb (bt m i) q = true → tb (bt a i) q = tb (bt b i) q) ∧ signalboxref01_Differ.l1 k a b m i j = signalboxref01_Differ.l0 (k - d - 1) a b m (wrap64 ((i : Int) + 1)) := by
  induction d with
  | zero =>
    intro k j hj hk
    obtain ⟨k, rfl⟩ : ∃ m, k = m + 1 := ⟨k - 1, by omega⟩
    obtain rfl : j = 8 := by omega
    refine .inr ⟨fun q h1 h2 => by omega, ?_⟩
    simp only [signalboxref01_Differ.l1]
    rw [if_neg (by decide)]
    rfl
  | succ d ih =>
    intro k j hj hk
    obtain ⟨k, rfl⟩ : ∃ m, k = m + 1 := ⟨k - 1, by omega⟩
    have ih := ih k (j + 1) (by omega) (by omega)
    have e3 : wrap64 ((j : Int) + 1) = ((j + 1 : Nat) : Int) := by unfold wrap64; omega
    have step : signalboxref01_Differ.l1 (k + 1) a b m i j = if tb (bt m i) j = true then (if (tb (bt a i) j != tb (bt b i) j) = true then some true else signalboxref01_Differ.l1 k a b m i ((j + 1 : Nat) : Int)) else signalboxref01_Differ.l1 k a b m i ((j + 1 : Nat) : Int) := by
      simp only [signalboxref01_Differ.l1, e3]
      rw [if_pos (by omega), bit_eq k (by omega) m hm i j (by omega), ob, bit_eq k (by omega) a ha i j (by omega), ob, bit_eq k (by omega) b hb i j (by omega), ob]
    rw [step, show k + 1 - (d + 1) - 1 = k - d - 1 by omega]
    by_cases h1 : tb (bt m i) j = true
    · by_cases h2 : tb (bt a i) j = tb (bt b i) j
      · rw [if_pos h1, if_neg (by simp [h2])]
        rcases ih with ⟨⟨q, q1, q2, q3⟩, h⟩ | ⟨hq, h⟩
        · exact .inl ⟨⟨q, by omega, q2, q3⟩, h⟩
        · refine .inr ⟨fun q q1 q2 q3 => ?_, h⟩
          by_cases e : q = j
          · rw [e]; exact h2
          · exact hq q (by omega) q2 q3
      · rw [if_pos h1, if_pos (by simp [h2])]
        exact .inl ⟨⟨j, by omega, by omega, h1, h2⟩, rfl⟩
    · rw [if_neg h1]
      rcases ih with ⟨⟨q, q1, q2, q3⟩, h⟩ | ⟨hq, h⟩
      · exact .inl ⟨⟨q, by omega, q2, q3⟩, h⟩
      · refine .inr ⟨fun q q1 q2 q3 => ?_, h⟩
        by_cases e : q = j
        · rw [e] at q3; exact absurd q3 h1
        · exact hq q (by omega) q2 q3
theorem band_same (x y z : Int) (hx : 0 ≤ x ∧ x ≤ 255) (hy : 0 ≤ y ∧ y ≤ 255) : (∀ q, 0 ≤ q → q < 8 → tb z q = true → tb x q = tb y q) ↔ band x z = band y z := by
  constructor
  · intro h
    unfold band
    congr 1
    apply Nat.eq_of_testBit_eq
    intro q
    rw [Nat.testBit_and, Nat.testBit_and]
    by_cases hq : q < 8
    · cases hz : z.toNat.testBit q
      · simp
      · have := h q (by omega) hq hz
        unfold tb at this
        rw [this]
    · have h1 : x.toNat.testBit q = false := Nat.testBit_lt_two_pow (Nat.lt_of_lt_of_le (show x.toNat < 2 ^ 8 by omega) (Nat.pow_le_pow_right (by decide) (by omega)))
      have h2 : y.toNat.testBit q = false := Nat.testBit_lt_two_pow (Nat.lt_of_lt_of_le (show y.toNat < 2 ^ 8 by omega) (Nat.pow_le_pow_right (by decide) (by omega)))
      rw [h1, h2]
  · intro h q _ _ hz
    have := congrArg (fun v => tb v q) h
    simp only [tb_band, hz, Bool.and_true] at this
    exact this
theorem differ_l0 (a b m : ByteArray) (hz : a.size = b.size) (ha : a.size ≤ 5000) (hm : m.size ≤ 1000) (d : Nat) : ∀ (k j : Nat), j + d = a.size → d * 12 + 60 ≤ k → (∀ q, q < j → bt (mk a m) q = bt (mk b m) q) →
    signalboxref01_Differ.l0 k a b m j = some (dif a b m) := by
  induction d with
  | zero =>
    intro k j hj hk hq
    obtain ⟨k, rfl⟩ : ∃ m, k = m + 1 := ⟨k - 1, by omega⟩
    simp only [signalboxref01_Differ.l0]
    rw [if_neg (by omega)]
    have e : mk a m = mk b m := bytes_ext (by rw [mk_size, mk_size]; exact hz) (fun i hi => hq i (by rw [mk_size] at hi; omega))
    unfold dif
    simp [hz, e]
  | succ d ih =>
    intro k j hj hk hq
    obtain ⟨k, rfl⟩ : ∃ m, k = m + 1 := ⟨k - 1, by omega⟩
    simp only [signalboxref01_Differ.l0]
    rw [if_pos (by omega)]
    have h1 := differ_l1 a b m (by omega) (by omega) (by omega) j 8 k 0 (by omega) (by omega)
    rcases h1 with ⟨⟨q, q1, q2, q3, q4⟩, h⟩ | ⟨hall, h⟩
    · show signalboxref01_Differ.l1 k a b m (j : Int) ((0 : Nat) : Int) = _
      rw [h]
      congr 1
      have hne : mk a m ≠ mk b m := by
        intro e
        have e2 : bt (mk a m) j = bt (mk b m) j := by rw [e]
        rw [bt_mk, bt_mk] at e2
        have := (band_same _ _ _ (bt_range a _) (bt_range b _)).mpr e2 q (by omega) q2 q3
        exact q4 this
      unfold dif
      simp [hne]
    · show signalboxref01_Differ.l1 k a b m (j : Int) ((0 : Nat) : Int) = _
      rw [h, show wrap64 ((j : Int) + 1) = ((j + 1 : Nat) : Int) by unfold wrap64; omega]
      refine ih _ (j + 1) (by omega) (by omega) (fun q hq2 => ?_)
      by_cases e : q = j
      · subst e
        rw [bt_mk, bt_mk]
        exact (band_same _ _ _ (bt_range a _) (bt_range b _)).mp hall
      · exact hq q (by omega)
theorem rdiffer_eq (a b m : ByteArray) (ha : a.size ≤ 5000) (hm : m.size ≤ 1000) (k : Nat) (hk : 100000 ≤ k) : signalboxref01_Differ.f k a b m = some (dif a b m) := by
  unfold signalboxref01_Differ.f
  by_cases h : (a.size : Int) = b.size
  · rw [if_pos h]
    exact differ_l0 a b m (by omega) ha hm a.size k 0 (by omega) (by omega) (fun q hq => by omega)
  · rw [if_neg h]
    have h' : ¬ a.size = b.size := by omega
    simp [dif, h']

abbrev S24 := S29
theorem wr32 (n : Int) (h₀ : 0 ≤ n) (h₁ : n < 2 ^ 32) : IntKind.u32.wrap n = n := by rw [IntKind.wrap_u32]; omega
/-! The flags of a frame, by number. -/
def fE (fl : Int) : Bool := decide (fl % 2 = 1)
def fR (fl : Int) : Bool := decide (fl / 2 % 2 = 1)
def fX (fl : Int) : Bool := decide (fl / 4 % 2 = 1)
def fD (fl : Int) : Bool := decide (fl / 8 % 2 = 1)
def fB (fl : Int) : Bool := decide (fl / 16 % 2 = 1)
def fS (fl : Int) : Bool := decide (fl / 32 % 2 = 1)
theorem has_all : ∀ x : Fin 64, ((Go.bits .and .i64 (x.val : Int) 1) != 0) = fE x.val ∧ ((Go.bits .and .i64 (x.val : Int) 2) != 0) = fR x.val ∧ ((Go.bits .and .i64 (x.val : Int) 4) != 0) = fX x.val ∧ ((Go.bits .and .i64 (x.val : Int) 8) != 0) = fD x.val
    ∧ ((Go.bits .and .i64 (x.val : Int) 48) != 0) = (fB x.val || fS x.val) ∧ ((Go.bits .and .i64 (x.val : Int) 5) != 0) = (fE x.val || fX x.val)
    ∧ ((x.val : Int) == 4) = (fX x.val && !fE x.val && !fR x.val && !fD x.val && !fB x.val && !fS x.val) := by decide +kernel
theorem has_fl (fl : Int) (h0 : 0 ≤ fl) (h1 : fl ≤ 63) : ((Go.bits .and .i64 fl 1) != 0) = fE fl ∧ ((Go.bits .and .i64 fl 2) != 0) = fR fl ∧ ((Go.bits .and .i64 fl 4) != 0) = fX fl ∧ ((Go.bits .and .i64 fl 8) != 0) = fD fl
    ∧ ((Go.bits .and .i64 fl 48) != 0) = (fB fl || fS fl) ∧ ((Go.bits .and .i64 fl 5) != 0) = (fE fl || fX fl) ∧ (fl == 4) = (fX fl && !fE fl && !fR fl && !fD fl && !fB fl && !fS fl) := by
  have := has_all ⟨fl.toNat, by omega⟩
  have e : (fl.toNat : Int) = fl := by omega
  simpa only [e] using this
/-- Has a length a code? -/
def isCode (len : Int) : Bool := (frst (fun x => x == len) 0 szL).2.2
def flg (fl : Int) : Bool := decide (0 ≤ fl ∧ fl ≤ 63) && (if fX fl = true then fl == 4 else if fD fl = true then !fR fl else !(fB fl || fS fl))
def mst (fl : Int) : Int := if (fE fl || fX fl) = true then 536870911 else 2047
def lng (fl len : Int) : Bool := if fX fl = true then len == 8 else if fD fl = true then isCode len else decide (0 ≤ len ∧ len ≤ 8)
/-- May a frame be? -/
def rgt (id fl len : Int) (d : ByteArray) : Bool := flg fl && decide (0 ≤ id ∧ id ≤ mst fl) && lng fl len && decide ((d.size : Int) = if fR fl = true then 0 else len)
theorem flags_eq (k : Nat) (hk : 1 ≤ k) (id fl len : Int) (d : ByteArray) : frame_flags.f k id fl len d = some (flg fl) := by
  obtain ⟨k, rfl⟩ : ∃ m, k = m + 1 := ⟨k - 1, by omega⟩
  simp only [frame_flags.f, frame_flags.j0, frame_has.f, ob, flg]
  by_cases h0 : fl < 0
  · rw [if_pos h0, if_pos trivial]
    have : ¬ (0 ≤ fl ∧ fl ≤ 63) := by omega
    simp [this]
  · rw [if_neg h0]
    by_cases h1 : fl > 63
    · rw [if_pos (by simpa using h1)]
      have : ¬ (0 ≤ fl ∧ fl ≤ 63) := by omega
      simp [this]
    · rw [if_neg (by simpa using h1)]
      have hh := has_fl fl (by omega) (by omega)
      have : 0 ≤ fl ∧ fl ≤ 63 := by omega
      rw [hh.2.1, hh.2.2.1, hh.2.2.2.1, hh.2.2.2.2.1]
      simp only [this, and_self, decide_true, Bool.true_and]
      split
      · rfl
      · split <;> rfl
theorem flg_range (fl : Int) (h : flg fl = true) : 0 ≤ fl ∧ fl ≤ 63 := by
  unfold flg at h
  simp only [Bool.and_eq_true, decide_eq_true_eq] at h
  exact h.1
theorem most_eq (id fl len : Int) (d : ByteArray) (h : flg fl = true) : frame_most.f id fl len d = some (mst fl) := by
  have hh := has_fl fl (flg_range fl h).1 (flg_range fl h).2
  simp only [frame_most.f, frame_has.f, ob, hh.2.2.2.2.2.1, mst]
  split <;> rfl
theorem long_eq (id fl len : Int) (d : ByteArray) (h : flg fl = true) : frame_long.f id fl len d = some (lng fl len) := by
  have hh := has_fl fl (flg_range fl h).1 (flg_range fl h).2
  simp only [frame_long.f, frame_has.f, ob, hh.2.2.1, hh.2.2.2.1, lng, frame_Code.f, isCode]
  split
  · rfl
  · split
    · rfl
    · by_cases h0 : len ≥ 0
      · rw [if_pos h0]
        congr 1
        simp
        omega
      · rw [if_neg h0]
        simp
        omega
theorem right_eq (k : Nat) (hk : 1 ≤ k) (id fl len : Int) (d : ByteArray) : frame_Right.f k id fl len d = some (if rgt id fl len d = true then 0 else 4) := by
  obtain ⟨k, rfl⟩ : ∃ m, k = m + 1 := ⟨k - 1, by omega⟩
  simp only [frame_Right.f, flags_eq (k + 1) (by omega), ob, frame_Right.j0]
  cases hf : flg fl with
  | false => simp [rgt, hf]
  | true =>
    have hh := has_fl fl (flg_range fl hf).1 (flg_range fl hf).2
    simp only [if_true, most_eq id fl len d hf, long_eq id fl len d hf, ob, frame_has.f, hh.2.1]
    by_cases h0 : id < 0
    · rw [if_pos h0]
      have : ¬ (0 ≤ id ∧ id ≤ mst fl) := by omega
      simp [rgt, this]
    · rw [if_neg h0]
      by_cases h1 : id > mst fl
      · rw [if_pos (by simpa using h1)]
        have : ¬ (0 ≤ id ∧ id ≤ mst fl) := by omega
        simp [rgt, this]
      · rw [if_neg (by simpa using h1)]
        have h2 : 0 ≤ id ∧ id ≤ mst fl := by omega
        cases hl : lng fl len with
        | false => simp [rgt, hl]
        | true =>
          simp only [rgt, hf, hl, h2, and_self, decide_true, Bool.true_and, if_true]
          cases hr : fR fl with
          | false =>
            simp only [Bool.false_eq_true, if_false, decide_eq_true_eq]
            split <;> rfl
          | true =>
            simp only [if_true, decide_eq_true_eq]
            split <;> rfl
theorem right0 (k : Nat) (hk : 1 ≤ k) (id fl len : Int) (d : ByteArray) (h : rgt id fl len d = true) : frame_Right.f k id fl len d = some 0 := by rw [right_eq k hk, if_pos h]
theorem right4 (k : Nat) (hk : 1 ≤ k) (id fl len : Int) (d : ByteArray) (h : rgt id fl len d = false) : frame_Right.f k id fl len d = some 4 := by rw [right_eq k hk, if_neg (by simp [h])]
theorem rgt_facts (id fl len : Int) (d : ByteArray) (h : rgt id fl len d = true) : flg fl = true ∧ 0 ≤ id ∧ id ≤ mst fl ∧ lng fl len = true ∧ ((d.size : Int) = if fR fl = true then 0 else len) := by
  unfold rgt at h
  simp only [Bool.and_eq_true, decide_eq_true_eq] at h
  exact ⟨h.1.1.1, h.1.1.2.1, h.1.1.2.2, h.1.2, h.2⟩
theorem mst_le (fl : Int) : mst fl ≤ 536870911 := by unfold mst; split <;> omega

theorem wraps_u32 (n : Int) (h₀ : 0 ≤ n) (h₁ : n < 2 ^ 32) : IntKind.u32.wrap n = n := by rw [IntKind.wrap_u32]; omega
theorem or_comm_u32 (x y : Int) : Go.bits .or .u32 x y = Go.bits .or .u32 y x := by simp [Go.bits, BitVec.or_comm]
/-- A frame's word. -/
def wrd (id fl : Int) : Int := id + (if fE fl = true then 2147483648 else 0) + (if fR fl = true then 1073741824 else 0) + (if fX fl = true then 536870912 else 0)
theorem or_31 (x : Int) (h0 : 0 ≤ x) (h1 : x < 2147483648) : Go.bits .or .u32 x 2147483648 = x + 2147483648 := by
  rw [or_comm_u32, bits_join .u32 32 (by decide) wraps_u32 31 2147483648 x (by decide) (by decide) (by decide) h0 h1 (by omega), Int.add_comm]
theorem or_30 (x : Int) (h0 : 0 ≤ x) (h1 : x < 1073741824) : Go.bits .or .u32 x 1073741824 = x + 1073741824 := by
  rw [or_comm_u32, bits_join .u32 32 (by decide) wraps_u32 30 1073741824 x (by decide) (by decide) (by decide) h0 h1 (by omega), Int.add_comm]
theorem or_29 (x : Int) (h0 : 0 ≤ x) (h1 : x < 536870912) : Go.bits .or .u32 x 536870912 = x + 536870912 := by
  rw [or_comm_u32, bits_join .u32 32 (by decide) wraps_u32 29 536870912 x (by decide) (by decide) (by decide) h0 h1 (by omega), Int.add_comm]
/-- A bit is set beside a number whose upper part is a multiple of twice it, and whose lower part is less than it. -/
theorem or_bit (i : Nat) (hi : i ≤ 30) (u x : Int) (hu : 0 ≤ u) (hu2 : u * 2 ^ (i + 1) + 2 ^ i + x < 4294967296) (hx : 0 ≤ x) (hx2 : x < 2 ^ i) : Go.bits .or .u32 (u * 2 ^ (i + 1) + x) (2 ^ i) = u * 2 ^ (i + 1) + x + 2 ^ i := by
  have hp : (0 : Int) < 2 ^ i := Int.pow_pos (by decide)
  have hp1 : (2 : Int) ^ (i + 1) = 2 ^ i * 2 := Int.pow_succ 2 i
  have hp32 : (2 : Int) ^ i ≤ 2 ^ 30 := by
    have := Nat.pow_le_pow_right (show 0 < 2 by decide) hi
    exact_mod_cast this
  have hm : 0 ≤ u * 2 ^ (i + 1) := Int.mul_nonneg hu (by omega)
  have e1 : Go.bits .or .u32 (u * 2 ^ (i + 1)) x = u * 2 ^ (i + 1) + x := bits_join .u32 32 (by decide) wraps_u32 (i + 1) _ _ hm (Int.mul_emod_left _ _) (by omega) hx (by omega) (by omega)
  have e2 : Go.bits .or .u32 (2 ^ i) x = 2 ^ i + x := bits_join .u32 32 (by decide) wraps_u32 i _ _ (by omega) (Int.emod_self) (by omega) hx hx2 (by omega)
  have e3 : Go.bits .or .u32 (u * 2 ^ (i + 1)) (2 ^ i + x) = u * 2 ^ (i + 1) + (2 ^ i + x) := bits_join .u32 32 (by decide) wraps_u32 (i + 1) _ _ hm (Int.mul_emod_left _ _) (by omega) (by omega) (by omega) (by omega)
  have rng : ∀ z : Int, 0 ≤ z → z < 4294967296 → ∃ n : Nat, z = n ∧ n < 2 ^ 32 := fun z h0 h1 => ⟨z.toNat, by omega, by omega⟩
  have key : ∀ a b c : Int, 0 ≤ a → a < 4294967296 → 0 ≤ b → b < 4294967296 → 0 ≤ c → c < 4294967296 → Go.bits .or .u32 (Go.bits .or .u32 a b) c = Go.bits .or .u32 a (Go.bits .or .u32 c b) := by
    intro a b c a0 a1 b0 b1 c0 c1
    obtain ⟨a, rfl, ha⟩ := rng a a0 a1
    obtain ⟨b, rfl, hb⟩ := rng b b0 b1
    obtain ⟨c, rfl, hc⟩ := rng c c0 c1
    rw [(bits_nat .u32 32 (by decide) wraps_u32 a b ha hb).2, (bits_nat .u32 32 (by decide) wraps_u32 c b hc hb).2, (bits_nat .u32 32 (by decide) wraps_u32 _ c (Nat.or_lt_two_pow ha hb) hc).2,
      (bits_nat .u32 32 (by decide) wraps_u32 a _ ha (Nat.or_lt_two_pow hc hb)).2, Nat.or_assoc, Nat.or_comm b c]
  rw [← e1, key _ _ _ hm (by omega) hx (by omega) (by omega) (by omega), e2, e3]
  omega
theorem word_eq (k : Nat) (hk : 1 ≤ k) (id fl len : Int) (d : ByteArray) (h : rgt id fl len d = true) : frame_Word.f k id fl len d = some (wrd id fl) := by
  obtain ⟨k, rfl⟩ : ∃ m, k = m + 1 := ⟨k - 1, by omega⟩
  obtain ⟨hf, i0, i1, _, _⟩ := rgt_facts id fl len d h
  have hm := mst_le fl
  have hh := has_fl fl (flg_range fl hf).1 (flg_range fl hf).2
  have e0 : id % 4294967296 = id := by omega
  simp only [frame_Word.f, right0 (k + 1) hk id fl len d h, ob, if_true, frame_has.f, hh.1, frame_Word.j0, hh.2.1, hh.2.2.1, e0, wrd]
  have o1 := or_31 id i0 (by omega)
  have o2 := or_30 id i0 (by omega)
  have o3 := or_29 id i0 (by omega)
  have o4 : Go.bits .or .u32 (id + 2147483648) 1073741824 = id + 2147483648 + 1073741824 := by
    have := or_bit 30 (by decide) 1 id (by decide) (by omega) i0 (by omega)
    rw [show (1 : Int) * 2 ^ (30 + 1) + id = id + 2147483648 by omega] at this
    exact this
  have o5 : Go.bits .or .u32 (id + 2147483648) 536870912 = id + 2147483648 + 536870912 := by
    have := or_bit 29 (by decide) 2 id (by decide) (by omega) i0 (by omega)
    rw [show (2 : Int) * 2 ^ (29 + 1) + id = id + 2147483648 by omega] at this
    exact this
  have o6 : Go.bits .or .u32 (id + 1073741824) 536870912 = id + 1073741824 + 536870912 := by
    have := or_bit 29 (by decide) 1 id (by decide) (by omega) i0 (by omega)
    rw [show (1 : Int) * 2 ^ (29 + 1) + id = id + 1073741824 by omega] at this
    exact this
  have o7 : Go.bits .or .u32 (id + 2147483648 + 1073741824) 536870912 = id + 2147483648 + 1073741824 + 536870912 := by
    have := or_bit 29 (by decide) 3 id (by decide) (by omega) i0 (by omega)
    rw [show (3 : Int) * 2 ^ (29 + 1) + id = id + 2147483648 + 1073741824 by omega] at this
    exact this
  cases fE fl <;> cases fR fl <;> cases fX fl <;> simp [o1, o2, o3, o4, o5, o6, o7]
theorem word_no (k : Nat) (hk : 1 ≤ k) (id fl len : Int) (d : ByteArray) (h : rgt id fl len d = false) : frame_Word.f k id fl len d = some 0 := by
  simp only [frame_Word.f, right4 k hk id fl len d h, ob]
  rw [if_neg (by decide)]

theorem wrd_range (id fl : Int) (h0 : 0 ≤ id) (h1 : id ≤ 536870911) : 0 ≤ wrd id fl ∧ wrd id fl < 4294967296 := by
  unfold wrd
  split <;> split <;> split <;> omega

/-- Does a word agree with an identifier in the first n bits of a mask? -/
def hb (id mask : Nat) : Nat → Nat → Bool
  | 0, _ => true
  | n + 1, w => hb id mask n w && (!mask.testBit n || (w.testBit n == id.testBit n))
theorem hb_iff (id mask n w : Nat) : hb id mask n w = true ↔ ∀ i, i < n → mask.testBit i = true → w.testBit i = id.testBit i := by
  induction n with
  | zero => simp [hb]
  | succ n ih =>
    simp only [hb, Bool.and_eq_true, ih]
    constructor
    · rintro ⟨h1, h2⟩ i hi hm
      by_cases h : i = n
      · subst h
        rw [hm] at h2
        simpa using h2
      · exact h1 i (by omega) hm
    · intro h
      refine ⟨fun i hi hm => h i (by omega) hm, ?_⟩
      cases hm : mask.testBit n with
      | false => rfl
      | true => rw [h n (by omega) hm]; simp
/-- How many words of n bits there are of which something holds. -/
def cnt : Nat → (Nat → Bool) → Nat
  | 0, p => if p 0 = true then 1 else 0
  | n + 1, p => cnt n p + cnt n (fun w => p (w + 2 ^ n))
theorem cnt_congr (n : Nat) : ∀ p q : Nat → Bool, (∀ w, w < 2 ^ n → p w = q w) → cnt n p = cnt n q := by
  induction n with
  | zero => intro p q h; simp only [cnt]; rw [h 0 (by decide)]
  | succ n ih =>
    intro p q h
    simp only [cnt]
    rw [ih p q (fun w hw => h w (by rw [Nat.pow_succ]; omega)), ih (fun w => p (w + 2 ^ n)) (fun w => q (w + 2 ^ n)) (fun w hw => h _ (by rw [Nat.pow_succ]; omega))]
theorem cnt_pos (n : Nat) : ∀ p : Nat → Bool, 0 < cnt n p ↔ ∃ w, w < 2 ^ n ∧ p w = true := by
  induction n with
  | zero =>
    intro p
    simp only [cnt]
    constructor
    · intro h
      by_cases hp : p 0 = true
      · exact ⟨0, by decide, hp⟩
      · rw [if_neg hp] at h; exact absurd h (by decide)
    · rintro ⟨w, hw, hp⟩
      have : w = 0 := by simpa using hw
      subst this
      rw [if_pos hp]; decide
  | succ n ih =>
    intro p
    simp only [cnt]
    constructor
    · intro h
      by_cases h1 : 0 < cnt n p
      · obtain ⟨w, hw, hp⟩ := (ih p).mp h1
        exact ⟨w, by rw [Nat.pow_succ]; omega, hp⟩
      · obtain ⟨w, hw, hp⟩ := (ih (fun w => p (w + 2 ^ n))).mp (by omega)
        exact ⟨w + 2 ^ n, by rw [Nat.pow_succ]; omega, hp⟩
    · rintro ⟨w, hw, hp⟩
      rw [Nat.pow_succ] at hw
      by_cases h : w < 2 ^ n
      · have := (ih p).mpr ⟨w, h, hp⟩; omega
      · have := (ih (fun w => p (w + 2 ^ n))).mpr ⟨w - 2 ^ n, by omega, by rw [show w - 2 ^ n + 2 ^ n = w by omega]; exact hp⟩
        omega
theorem cnt_split (n : Nat) : ∀ p q : Nat → Bool, cnt n p = cnt n (fun w => p w && q w) + cnt n (fun w => p w && !q w) := by
  induction n with
  | zero =>
    intro p q
    simp only [cnt]
    by_cases h1 : p 0 = true <;> by_cases h2 : q 0 = true <;> simp [h1, h2]
  | succ n ih =>
    intro p q
    simp only [cnt]
    rw [ih p q, ih (fun w => p (w + 2 ^ n)) (fun w => q (w + 2 ^ n))]
    omega
theorem cnt_none (n : Nat) : ∀ p : Nat → Bool, (∀ w, w < 2 ^ n → p w = false) → cnt n p = 0 := by
  intro p h
  apply Nat.eq_zero_of_not_pos
  rw [cnt_pos]
  rintro ⟨w, hw, hp⟩
  rw [h w hw] at hp
  exact absurd hp (by decide)
theorem cnt_le (n : Nat) : ∀ p : Nat → Bool, cnt n p ≤ 2 ^ n := by
  induction n with
  | zero => intro p; simp only [cnt]; split <;> decide
  | succ n ih =>
    intro p
    simp only [cnt]
    have h1 := ih p
    have h2 := ih (fun w => p (w + 2 ^ n))
    rw [Nat.pow_succ]; omega
/-- How many of the first n bits of a mask are set. -/
def pcn (m : Nat) : Nat → Nat
  | 0 => 0
  | n + 1 => pcn m n + (if m.testBit n = true then 1 else 0)
theorem tb_hi (n w : Nat) (h : w < 2 ^ n) : (w + 2 ^ n).testBit n = true := by
  rw [Nat.add_comm, Nat.testBit_two_pow_add_eq, Nat.testBit_lt_two_pow h]; rfl
theorem tb_lo (n w i : Nat) (h : i < n) : (w + 2 ^ n).testBit i = w.testBit i := by
  rw [Nat.add_comm, Nat.testBit_two_pow_add_gt h]
theorem hb_add (id mask n w : Nat) : hb id mask n (w + 2 ^ n) = hb id mask n w := by
  rw [Bool.eq_iff_iff, hb_iff, hb_iff]
  constructor
  · intro h i hi hm
    have := h i hi hm
    rw [tb_lo n w i hi] at this
    exact this
  · intro h i hi hm
    rw [tb_lo n w i hi]
    exact h i hi hm
theorem cnt_hb (id mask n : Nat) : pcn mask n ≤ n ∧ cnt n (hb id mask n) = 2 ^ (n - pcn mask n) := by
  induction n with
  | zero => exact ⟨Nat.le_refl _, rfl⟩
  | succ n ih =>
    obtain ⟨h1, h2⟩ := ih
    have a1 : cnt n (hb id mask (n + 1)) = cnt n (fun w => hb id mask n w && (!mask.testBit n || (false == id.testBit n))) :=
      cnt_congr n _ _ (fun w hw => by simp only [hb]; rw [Nat.testBit_lt_two_pow hw])
    have a2 : cnt n (fun w => hb id mask (n + 1) (w + 2 ^ n)) = cnt n (fun w => hb id mask n w && (!mask.testBit n || (true == id.testBit n))) :=
      cnt_congr n _ _ (fun w hw => by simp only [hb]; rw [tb_hi n w hw, hb_add])
    simp only [cnt, pcn]
    rw [a1, a2]
    have t1 : (fun w => hb id mask n w && true) = hb id mask n := funext (fun w => Bool.and_true _)
    have t0 : cnt n (fun w => hb id mask n w && false) = 0 := cnt_none n _ (fun w _ => Bool.and_false _)
    cases hm : mask.testBit n with
    | false =>
      simp only [Bool.not_false, Bool.true_or, t1, h2, Bool.false_eq_true, if_false, Nat.add_zero]
      refine ⟨by omega, ?_⟩
      rw [show n + 1 - pcn mask n = (n - pcn mask n) + 1 by omega, Nat.pow_succ]; omega
    | true =>
      refine ⟨by simp; omega, ?_⟩
      have e : n + 1 - (pcn mask n + 1) = n - pcn mask n := by omega
      cases hi : id.testBit n with
      | false =>
        simp only [Bool.not_true, Bool.false_or, beq_self_eq_true, t1, if_true, e, h2]
        rw [show (true == false) = false from rfl, t0]
        rfl
      | true =>
        simp only [Bool.not_true, Bool.false_or, beq_self_eq_true, t1, if_true, e, h2]
        rw [show (false == true) = false from rfl, t0]
        omega

theorem and32 (a b : Nat) (ha : a < 4294967296) (hb : b < 4294967296) : Go.bits .and .u32 (a : Int) (b : Int) = ((a &&& b : Nat) : Int) := (bits_nat .u32 32 (by decide) wr32 a b ha hb).1
theorem or32 (a b : Nat) (ha : a < 4294967296) (hb : b < 4294967296) : Go.bits .or .u32 (a : Int) (b : Int) = ((a ||| b : Nat) : Int) := (bits_nat .u32 32 (by decide) wr32 a b ha hb).2
theorem xor32 (a b : Nat) (ha : a < 4294967296) (hb : b < 4294967296) : Go.bits .xor .u32 (a : Int) (b : Int) = ((a ^^^ b : Nat) : Int) := by
  have ha' : a % 2 ^ IntKind.u32.bits = a := Nat.mod_eq_of_lt ha
  have hb' : b % 2 ^ IntKind.u32.bits = b := Nat.mod_eq_of_lt hb
  simp only [Go.bits, BitVec.ofInt_natCast, BitVec.toNat_xor, BitVec.toNat_ofNat, ha', hb']
  exact wr32 _ (Int.natCast_nonneg _) (by exact_mod_cast Nat.xor_lt_two_pow (n := 32) ha hb)
abbrev okf (f : S24) : Prop := 0 ≤ f.f0 ∧ f.f0 < 4294967296 ∧ 0 ≤ f.f1 ∧ f.f1 < 4294967296
/-- Does a filter, not turned, hit a word? -/
def ht (f : S24) (w : Nat) : Bool := hb f.f0.toNat f.f1.toNat 32 w
theorem zero_bits (a : Nat) (ha : a < 4294967296) : a = 0 ↔ ∀ i, i < 32 → a.testBit i = false := by
  constructor
  · rintro rfl i _; exact Nat.zero_testBit i
  · intro h
    apply Nat.eq_of_testBit_eq
    intro i
    rw [Nat.zero_testBit]
    by_cases hi : i < 32
    · exact h i hi
    · exact Nat.testBit_lt_two_pow (Nat.lt_of_lt_of_le ha (show 2 ^ 32 ≤ 2 ^ i from Nat.pow_le_pow_right (by decide) (by omega)))

theorem hit_bits (id m w : Nat) (hi : id < 4294967296) (hm : m < 4294967296) (hw : w < 4294967296) : (((w ^^^ id) &&& m : Nat) = 0) ↔ hb id m 32 w = true := by
  have hz : (w ^^^ id) &&& m < 4294967296 := Nat.and_lt_two_pow (n := 32) _ hm
  rw [zero_bits _ hz, hb_iff]
  constructor
  · intro h i hi2 hmi
    have := h i hi2
    rw [Nat.testBit_and, Nat.testBit_xor, hmi, Bool.and_true] at this
    cases h1 : w.testBit i <;> cases h2 : id.testBit i <;> rw [h1, h2] at this <;> first | rfl | exact absurd this (by decide)
  · intro h i hi2
    rw [Nat.testBit_and, Nat.testBit_xor]
    cases hmi : m.testBit i with
    | false => rw [Bool.and_false]
    | true =>
      rw [h i hi2 hmi]
      cases id.testBit i <;> rfl
/-- Does a filter hit a word? -/
def hitF (f : S24) (w : Nat) : Bool := ht f w != f.f2
theorem hit_eq (f : S24) (hf : okf f) (w : Nat) (hw : w < 4294967296) : match_Hit.f f.f0 f.f1 f.f2 (w : Int) = some (hitF f w) := by
  obtain ⟨o1, o2, o3, o4⟩ := hf
  obtain ⟨i, hi⟩ := Int.eq_ofNat_of_zero_le o1
  obtain ⟨m, hm⟩ := Int.eq_ofNat_of_zero_le o3
  have hi2 : i < 4294967296 := by omega
  have hm2 : m < 4294967296 := by omega
  unfold match_Hit.f hitF ht
  rw [hi, hm, xor32 w i hw hi2, and32 _ m (Nat.xor_lt_two_pow (n := 32) hw hi2) hm2]
  have hbb := hit_bits i m w hi2 hm2 hw
  have e : (((((w ^^^ i) &&& m : Nat) : Int)) == 0) = hb i m 32 w := by
    rw [Bool.eq_iff_iff, ← hbb, beq_iff_eq]
    omega
  rw [e]
  rfl

theorem fX_bit (fl : Int) (h : flg fl = true) : (Go.bits .and .i64 fl 4 = 0) ↔ fX fl = false := by
  have hh := (has_fl fl (flg_range fl h).1 (flg_range fl h).2).2.2.1
  rw [← hh]
  simp
/-- Does a filter let a frame through? -/
def lets (f : S24) (id fl len : Int) (d : ByteArray) : Bool := if (rgt id fl len d && !fX fl) = true then hitF f (wrd id fl).toNat else false
theorem wrd_nat (id fl len : Int) (d : ByteArray) (h : rgt id fl len d = true) : ((wrd id fl).toNat : Int) = wrd id fl ∧ (wrd id fl).toNat < 4294967296 := by
  have hf := rgt_facts id fl len d h
  have hm := mst_le fl
  have := wrd_range id fl hf.2.1 (by omega)
  omega
theorem match_eq (f : S24) (hf : okf f) (id fl len : Int) (d : ByteArray) (k : Nat) (hk : 5 ≤ k) : match_Match.f k f.f0 f.f1 f.f2 id fl len d = some (lets f id fl len d) := by
  unfold match_Match.f lets
  cases hr : rgt id fl len d with
  | false => rw [right4 k (by omega) id fl len d hr, ob, if_neg (by decide), Bool.false_and, if_neg (by decide)]
  | true =>
    have hfl := (rgt_facts id fl len d hr).1
    obtain ⟨w1, w2⟩ := wrd_nat id fl len d hr
    rw [right0 k (by omega) id fl len d hr, ob, if_pos rfl, Bool.true_and]
    cases hx : fX fl with
    | true => rw [if_neg (fun h => by rw [(fX_bit fl hfl).mp h] at hx; exact absurd hx (by decide)), Bool.not_true, if_neg (by decide)]
    | false =>
      rw [if_pos ((fX_bit fl hfl).mpr hx), word_eq k (by omega) id fl len d hr, ob, Bool.not_false, if_pos rfl]
      rw [← w1, hit_eq f hf _ w2, ob, Int.toNat_natCast]

theorem small_l (l : List S33) (d : Nat) : ∀ (k i : Nat) (n : Int), i + d = 101 → d + 2 ≤ k → 0 ≤ n → n ≤ 5000 * i →
    ∃ b, signalboxlaw23_small.l0 k l n i = some b ∧ (b = true → l.length ≤ 100 ∧ n ≤ 4000 ∧ ∀ j : Nat, i ≤ j → j < l.length → (rd_T33 l j).f3.size ≤ 4000) := by
  induction d with
  | zero =>
    intro k i n hi hk h0 hn
    obtain ⟨k, rfl⟩ : ∃ m, k = m + 1 := ⟨k - 1, by omega⟩
    have e : signalboxlaw23_small.l0 (k + 1) l n i = if (l.length : Int) ≤ 100 then some (decide (n ≤ 4000)) else some false := by
      simp only [signalboxlaw23_small.l0]
      by_cases h : (i : Int) < l.length
      · rw [if_pos h, if_neg (by omega)]
      · rw [if_neg h]
    rw [e]
    by_cases h : (l.length : Int) ≤ 100
    · rw [if_pos h]
      refine ⟨_, rfl, fun hb => ⟨by omega, of_decide_eq_true hb, fun j h1 h2 => by omega⟩⟩
    · rw [if_neg h]
      exact ⟨_, rfl, fun hb => by cases hb⟩
  | succ d ih =>
    intro k i n hi hk h0 hn
    obtain ⟨k, rfl⟩ : ∃ m, k = m + 1 := ⟨k - 1, by omega⟩
    by_cases h : (i : Int) < l.length
    · have e : signalboxlaw23_small.l0 (k + 1) l n i = signalboxlaw23_small.l0 k l (wrap64 (n + mn ((rd_T33 l i).f3.size : Int) 5000)) (wrap64 ((i : Int) + 1)) := by
        simp only [signalboxlaw23_small.l0]
        rw [if_pos h, if_pos (by omega), if_pos (by omega)]
      rw [e]
      obtain ⟨z, hz⟩ : ∃ z : Nat, z = (rd_T33 l i).f3.size := ⟨_, rfl⟩
      have hm : 0 ≤ mn (z : Int) 5000 ∧ mn (z : Int) 5000 ≤ 5000 ∧ (mn (z : Int) 5000 ≤ 4000 → z ≤ 4000) := by
        unfold mn
        split <;> omega
      rw [← hz, w64 (by omega) (by omega), w64 (by omega) (by omega)]
      obtain ⟨b, hb, hB⟩ := ih k (i + 1) (n + mn (z : Int) 5000) (by omega) (by omega) (by omega) (by omega)
      refine ⟨b, hb, fun hbt => ?_⟩
      obtain ⟨q1, q2, q3⟩ := hB hbt
      refine ⟨q1, by omega, fun j h1 h2 => ?_⟩
      by_cases ej : j = i
      · subst ej
        omega
      · exact q3 j (by omega) h2
    · have e : signalboxlaw23_small.l0 (k + 1) l n i = if (l.length : Int) ≤ 100 then some (decide (n ≤ 4000)) else some false := by
        simp only [signalboxlaw23_small.l0]
        rw [if_neg h]
      rw [e]
      by_cases h : (l.length : Int) ≤ 100
      · rw [if_pos h]
        refine ⟨_, rfl, fun hb => ⟨by omega, of_decide_eq_true hb, fun j h1 h2 => by omega⟩⟩
      · rw [if_neg h]
        exact ⟨_, rfl, fun hb => by cases hb⟩
theorem small_f (l : List S33) : ∃ b, signalboxlaw23_small.f 200 l = some b ∧ (b = true → l.length ≤ 100 ∧ ∀ x ∈ l, x.f3.size ≤ 4000) := by
  obtain ⟨b, hb, hB⟩ := small_l l 101 200 0 0 (by omega) (by omega) (by omega) (by omega)
  refine ⟨b, hb, fun h => ?_⟩
  obtain ⟨q1, q2, q3⟩ := hB h
  refine ⟨q1, fun x hx => ?_⟩
  obtain ⟨i, hi, rfl⟩ := List.getElem_of_mem hx
  have := q3 i (by omega) hi
  have e : rd_T33 l (i : Int) = l[i] := by
    unfold rd_T33
    rw [Int.toNat_natCast, List.getD_eq_getElem?_getD, List.getElem?_eq_getElem hi]
    rfl
  rw [e] at this
  exact this
theorem right_w (id km : Int) (inv : Bool) (mk : ByteArray) (thr sil : Int) : ∃ rr, watch_Right.f 5 id km inv mk thr sil = some rr ∧ (rr = 0 ∨ rr = 2) ∧ (rr = 0 → mk.size ≤ 64) := by
  have hj : ∀ x : Bool, ∃ rr, watch_Right.j0 5 x id km inv mk thr sil = some rr ∧ (rr = 0 ∨ rr = 2) ∧ (rr = 0 → mk.size ≤ 64) := by
    intro x
    simp only [watch_Right.j0]
    by_cases h : x = true
    · rw [if_pos h]
      exact ⟨2, rfl, Or.inr rfl, fun h => by cases h⟩
    · rw [if_neg h]
      by_cases h2 : (mk.size : Int) > 64
      · rw [if_pos h2]
        exact ⟨2, rfl, Or.inr rfl, fun h => by cases h⟩
      · rw [if_neg h2]
        exact ⟨0, rfl, Or.inl rfl, fun _ => by omega⟩
  have hc : ∀ x : Int, ∃ b, watch_count.f x = some b := by
    intro x
    unfold watch_count.f
    by_cases h : x ≥ 0
    · rw [if_pos h]
      exact ⟨_, rfl⟩
    · rw [if_neg h]
      exact ⟨_, rfl⟩
  unfold watch_Right.f
  obtain ⟨b1, h1⟩ := hc thr
  obtain ⟨b2, h2⟩ := hc sil
  rw [h1, ob]
  by_cases c : b1 = true
  · rw [if_pos c, h2, ob]
    exact hj _
  · rw [if_neg c]
    exact hj _
theorem WatchThrottle : signalboxlaw23_WatchThrottle.Pure := by
  intro a0_0 a0_1 a0_2 a0_3 a0_4 a0_5 l1 l2 h1 h2 h3 h4 h5 h6 h7 h8 h9 h10 h11
  unfold signalboxlaw23_WatchThrottle.f
  refine if_pos ?_
  obtain ⟨b, hb, hB⟩ := small_f l1
  obtain ⟨rr, hr, hr02, hR⟩ := right_w a0_0 a0_1 a0_2 a0_3 a0_4 a0_5
  refine ⟨200, b, rr, hb, hr, hr02, fun e => (hB e).1, fun e er => ?_⟩
  have sz := (hB e).2
  have sm := hR er
  have hf : okf (⟨a0_0, a0_1, a0_2⟩ : S29) := ⟨(wf_u32 h1).1, by have := (wf_u32 h1).2; show a0_0 < 4294967296; omega, (wf_u32 h2).1, by have := (wf_u32 h2).2; show a0_1 < 4294967296; omega⟩
  refine ⟨fun x => lets (⟨a0_0, a0_1, a0_2⟩ : S29) x.f0 x.f1 x.f2 x.f3, fun x y => if x.f2 = y.f2 then dif x.f3 y.f3 a0_3 else true, ⟨fun x hx => ⟨100, match_eq (⟨a0_0, a0_1, a0_2⟩ : S29) hf x.f0 x.f1 x.f2 x.f3 100 (by omega)⟩, fun x hx y hy => ?_, fun x hx => ?_⟩, fun x hx y hy => ⟨100000, ?_⟩⟩
  · have s1 := sz x hx
    have s2 := sz y hy
    show difT a0_3 x y = some (if x.f2 = y.f2 then dif x.f3 y.f3 a0_3 else true)
    unfold difT
    by_cases c : x.f2 = y.f2
    · rw [if_pos c, if_pos c]
      exact differ_eq _ _ _ (by omega) (by omega)
    · rw [if_neg c, if_neg c]
  · show (if x.f2 = x.f2 then dif x.f3 x.f3 a0_3 else true) = false
    rw [if_pos rfl]
    unfold dif
    simp
  · have s1 := sz x hx
    show _ = some (if x.f2 = y.f2 then dif x.f3 y.f3 a0_3 else true)
    unfold signalboxref23_Differ.f
    by_cases c : x.f2 = y.f2
    · rw [if_pos c, if_pos c, rdiffer_eq _ _ _ (by omega) (by omega) 100000 (by omega), ob]
    · rw [if_neg c, if_neg c]

end Go.Proofs.Ytelplkdbjfkfmaa.Pure
