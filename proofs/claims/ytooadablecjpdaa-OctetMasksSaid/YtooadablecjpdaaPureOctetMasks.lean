/- OctetMasks: what is left of any text under any mask, whether two texts differ under it, and how many bits a text has, is as the document says. Conditions: none beyond the statement's own. -/
import Derived.Test.YtooadablecjpdaaPOctetMasksx3
namespace Go.Proofs.Ytooadablecjpdaa.Pure
open Go.RowKit Go.Proofs.Ytooadablecjpdaa.POctetMasks Go.Proofs.YtooadablecjpdaaW.PrintWords Go.Proofs.YtooadablecjpdaaW.PrintLast
set_option linter.unusedVariables false
set_option linter.unusedSimpArgs false

theorem wf_i64 {n : Int} (h : (Lit.int .i64 n).wf = true) : -9223372036854775808 ≤ n ∧ n ≤ 9223372036854775807 := by
  simp only [Lit.wf, Bool.and_eq_true, decide_eq_true_eq] at h
  exact h
theorem wf_u32 {n : Int} (h : (Lit.int .u32 n).wf = true) : 0 ≤ n ∧ n ≤ 4294967295 := by
  simp only [Lit.wf, Bool.and_eq_true, decide_eq_true_eq] at h
  exact h
theorem wf_i32 {n : Int} (h : (Lit.int .i32 n).wf = true) : -2147483648 ≤ n ∧ n ≤ 2147483647 := by
  simp only [Lit.wf, Bool.and_eq_true, decide_eq_true_eq] at h
  exact h
theorem w64 {n : Int} (h0 : -9223372036854775808 ≤ n) (h1 : n ≤ 9223372036854775807) : wrap64 n = n := by unfold wrap64; omega

theorem alive_k : ∃ K, ∀ k, K ≤ k → signalboxlaw01_alive.f k = some true :=
  Ev.of signalboxlaw01_alive.mono (k := 20) (by decide +kernel)

theorem bt_size {s : ByteArray} {i : Nat} (h : i < s.size) : bt s (i : Int) = (s.data.toList[i]'(by rw [Array.length_toList]; exact h)).toNat := by
  have e := bt_at s (i : Int) (by simpa using h)
  rw [← e]
  simp
  rfl
theorem bt_none {s : ByteArray} {i : Int} (h : (s.size : Int) ≤ i) : bt s i = 0 := by
  unfold bt
  rw [dif_neg (by omega)]
theorem bt_num (l : List Int) (hl : ∀ x ∈ l, 0 ≤ x ∧ x ≤ 255) (i : Nat) (h : i < l.length) : bt (strOfNums l) i = l[i] := by
  have hs : i < (strOfNums l).size := by rw [strOfNums_size]; exact h
  rw [bt_size hs]
  have hx := hl l[i] (List.getElem_mem h)
  have : (strOfNums l).data.toList[i]'(by rw [Array.length_toList]; exact hs) = UInt8.ofNat (l[i]).toNat := by
    simp [strOfNums]
  rw [this]
  simp
  omega
theorem bytes_ext {s t : ByteArray} (hz : s.size = t.size) (h : ∀ i : Nat, i < s.size → bt s i = bt t i) : s = t := by
  have : s.data.toList = t.data.toList := by
    apply List.ext_getElem
    · rw [Array.length_toList, Array.length_toList]; exact hz
    · intro i h1 h2
      rw [Array.length_toList] at h1 h2
      have e := h i h1
      rw [bt_size h1, bt_size (show i < t.size from h2)] at e
      have e2 : (s.data.toList[i]).toNat = (t.data.toList[i]).toNat := by exact_mod_cast e
      exact UInt8.toNat_inj.mp e2
  obtain ⟨a⟩ := s
  obtain ⟨b⟩ := t
  have : a.toList = b.toList := this
  rw [Array.toList_inj.mp this]
theorem toList_inj' {s t : ByteArray} : s.toList = t.toList ↔ s = t := by
  constructor
  · intro h
    rw [ByteArray.toList_eq, ByteArray.toList_eq] at h
    obtain ⟨a⟩ := s
    obtain ⟨b⟩ := t
    have h : a.toList = b.toList := h
    rw [Array.toList_inj.mp h]
  · intro h; rw [h]
theorem str_beq (s t : ByteArray) : (s.toList == t.toList) = decide (s = t) := by
  rw [Bool.eq_iff_iff]
  simp [toList_inj']
/-- The comparison of two texts as the print has it, without 'toList' (which the kernel had better not unfold). -/
theorem ite_tl {α : Type} (x y : ByteArray) (p q : α) : (if x.toList = y.toList then p else q) = if x = y then p else q := by
  by_cases h : x = y
  · rw [if_pos h, if_pos (by rw [h])]
  · rw [if_neg h, if_neg (fun e => h (toList_inj'.mp e))]
theorem ite_tl0 {α : Type} (x : ByteArray) (p q : α) : (if x.toList = ([] : List UInt8) then p else q) = if x = ⟨#[]⟩ then p else q := by
  have e : (⟨#[]⟩ : ByteArray).toList = [] := by rw [ByteArray.toList_eq]
  by_cases h : x = ⟨#[]⟩
  · rw [if_pos h, if_pos (by rw [h, e])]
  · rw [if_neg h, if_neg (fun e2 => h (toList_inj'.mp (by rw [e2, e])))]

/-- 'Option.bind_some' as an equation that simp carries along (not by 'rfl': else the kernel unfolds what is bound). -/
theorem ob {α β : Type} (a : α) (f : α → Option β) : (some a).bind f = f a := by
  have h : (some a).bind f = f a := rfl
  exact h.symm.symm

/-- 'and' of two bytes, as numbers. -/
def band (x y : Int) : Int := ((x.toNat &&& y.toNat : Nat) : Int)
theorem bits_band (x y : Int) (hx : 0 ≤ x ∧ x ≤ 255) (hy : 0 ≤ y ∧ y ≤ 255) : Go.bits .and .u8 x y = band x y := by
  have h := (bits_nat .u8 8 (by decide) wraps_u8 x.toNat y.toNat (by omega) (by omega)).1
  rw [show ((x.toNat : Nat) : Int) = x by omega, show ((y.toNat : Nat) : Int) = y by omega] at h
  exact h
theorem band_range (x y : Int) (hx : 0 ≤ x ∧ x ≤ 255) : 0 ≤ band x y ∧ band x y ≤ 255 := by
  unfold band
  have := @Nat.and_le_left x.toNat y.toNat
  omega
theorem band_toNat (x y : Int) : (band x y).toNat = x.toNat &&& y.toNat := by unfold band; omega
theorem band_comm (x y : Int) : band x y = band y x := by unfold band; rw [Nat.and_comm]
theorem band_assoc (x y z : Int) : band (band x y) z = band x (band y z) := by unfold band; simp only [Int.toNat_natCast, Nat.and_assoc]
theorem band_self (x y : Int) : band (band x y) y = band x y := by unfold band; simp only [Int.toNat_natCast, Nat.and_assoc, Nat.and_self]
theorem band_zero (x : Int) : band x 0 = 0 := by unfold band; simp
theorem zero_band (x : Int) : band 0 x = 0 := by unfold band; simp
/-- A text under a mask. -/
def mk (s m : ByteArray) : ByteArray := strOfNums (msk s m s.size)
theorem msk_at (s m : ByteArray) : ∀ n i (h : i < n), (msk s m n)[i]'(by rw [octet_Mask.len]; exact h) = band (bt s i) (bt m i)
  | n + 1, i, h => by
    have hl := octet_Mask.len s m n
    by_cases hi : i < n
    · simp only [msk]
      rw [List.getElem_append_left (by omega)]
      exact msk_at s m n i hi
    · obtain rfl : i = n := by omega
      simp only [msk]
      rw [List.getElem_append_right (by omega)]
      simp only [hl, Nat.sub_self, List.getElem_cons_zero]
      split
      · exact bits_band _ _ (bt_range s _) (bt_range m _)
      · rw [bits_band _ _ (bt_range s _) (by decide), bt_none (s := m) (by omega)]
theorem mk_size (s m : ByteArray) : (mk s m).size = s.size := by unfold mk; rw [strOfNums_size, octet_Mask.len]
theorem bt_mk (s m : ByteArray) (i : Nat) : bt (mk s m) i = band (bt s i) (bt m i) := by
  by_cases h : i < s.size
  · have hl := octet_Mask.len s m s.size
    unfold mk
    rw [bt_num _ _ i (by omega)]
    · exact msk_at s m s.size i h
    · intro x hx
      obtain ⟨j, hj, rfl⟩ := List.getElem_of_mem hx
      rw [msk_at s m s.size j (by omega)]
      exact band_range _ _ (bt_range s _)
  · rw [bt_none (s := mk s m) (by rw [mk_size]; omega), bt_none (s := s) (by omega), zero_band]
theorem mask_eq (s m : ByteArray) (h : s.size ≤ 140737488351232) : octet_Mask.f s m = some (mk s m) := by
  unfold octet_Mask.f mk
  rw [if_pos (by omega)]

def tb (x : Int) (k : Nat) : Bool := x.toNat.testBit k
def bsum (x : Int) : Int := (tb x 0).toInt + (tb x 1).toInt + (tb x 2).toInt + (tb x 3).toInt + (tb x 4).toInt + (tb x 5).toInt + (tb x 6).toInt + (tb x 7).toInt
theorem pop_all : ∀ x : Fin 256, pop (x.val : Int) = bsum (x.val : Int) := by decide +kernel
theorem pop_bsum (x : Int) (h : 0 ≤ x ∧ x ≤ 255) : pop x = bsum x := by
  have := pop_all ⟨x.toNat, by omega⟩
  have e : (x.toNat : Int) = x := by omega
  simpa only [e] using this
theorem tb_band (x y : Int) (k : Nat) : tb (band x y) k = (tb x k && tb y k) := by
  unfold tb
  rw [band_toNat, Nat.testBit_and]
theorem tb_le (p q : Bool) : (p && q).toInt ≤ p.toInt := by cases p <;> cases q <;> decide
theorem bsum_band (x y : Int) : bsum (band x y) ≤ bsum x := by
  unfold bsum
  simp only [tb_band]
  have := tb_le (tb x 0) (tb y 0)
  have := tb_le (tb x 1) (tb y 1)
  have := tb_le (tb x 2) (tb y 2)
  have := tb_le (tb x 3) (tb y 3)
  have := tb_le (tb x 4) (tb y 4)
  have := tb_le (tb x 5) (tb y 5)
  have := tb_le (tb x 6) (tb y 6)
  have := tb_le (tb x 7) (tb y 7)
  omega
theorem ones_mk (s m : ByteArray) : ∀ n, onesL (mk s m) n ≤ onesL s n
  | 0 => by simp [onesL]
  | n + 1 => by
    have ih := ones_mk s m n
    simp only [onesL]
    rw [bt_mk, pop_bsum _ (band_range _ _ (bt_range s _)), pop_bsum _ (bt_range s _)]
    have := bsum_band (bt s n) (bt m n)
    omega
theorem ones_eq (s : ByteArray) (h : s.size ≤ 140737488351232) : octet_Ones.f s = some (onesL s s.size) := by
  unfold octet_Ones.f
  rw [if_pos (by omega)]

def dif (a b m : ByteArray) : Bool := !decide (a.size = b.size ∧ mk a m = mk b m)
theorem differ_eq (a b m : ByteArray) (ha : a.size ≤ 140737488351232) (hb : b.size ≤ 140737488351232) : octet_Differ.f a b m = some (dif a b m) := by
  unfold octet_Differ.f dif
  by_cases h : (a.size : Int) = b.size
  · have h' : a.size = b.size := by omega
    rw [if_pos h, mask_eq a m ha, ob, mask_eq b m hb, ob]
    congr 1
    by_cases e : mk a m = mk b m
    · simp [h', e]
    · have : ¬ (mk a m).toList = (mk b m).toList := fun x => e (toList_inj'.mp x)
      simp [e, this]
  · rw [if_neg h]
    have h' : ¬ a.size = b.size := by omega
    simp [h']

/-- A number halved so many times, and whether it is odd: the reference's bit. -/
theorem bit_l0 (d : Nat) : ∀ (k j b : Nat) (x : Nat), x ≤ 255 → j ≤ b → b ≤ 100 → b - j = d → d < k → signalboxref01_Bit.l0 k b ((x / 2 ^ j : Nat) : Int) j = some (x.testBit b) := by
  induction d with
  | zero =>
    intro k j b x hx hj hb hd hk
    obtain ⟨k, rfl⟩ : ∃ m, k = m + 1 := ⟨k - 1, by omega⟩
    obtain rfl : j = b := by omega
    simp only [signalboxref01_Bit.l0]
    rw [if_neg (by omega)]
    congr 1
    rw [Int.tmod_eq_emod_of_nonneg (Int.natCast_nonneg _), Nat.testBit, Nat.shiftRight_eq_div_pow, Nat.one_and_eq_mod_two]
    generalize x / 2 ^ j = q
    have : q % 2 = 0 ∨ q % 2 = 1 := by omega
    rcases this with h | h
    · rw [h]
      have : ((q : Int) % 2) = 0 := by omega
      rw [this]; decide
    · rw [h]
      have : ((q : Int) % 2) = 1 := by omega
      rw [this]; decide
  | succ d ih =>
    intro k j b x hx hj hb hd hk
    obtain ⟨k, rfl⟩ : ∃ m, k = m + 1 := ⟨k - 1, by omega⟩
    simp only [signalboxref01_Bit.l0]
    have hq : x / 2 ^ j ≤ 255 := Nat.le_trans (Nat.div_le_self _ _) hx
    rw [if_pos (by omega), Int.tdiv_eq_ediv_of_nonneg (Int.natCast_nonneg _)]
    have e1 : wrap64 (((x / 2 ^ j : Nat) : Int) / 2) = ((x / 2 ^ (j + 1) : Nat) : Int) := by
      rw [Nat.pow_succ, ← Nat.div_div_eq_div_mul]
      generalize x / 2 ^ j = q at hq
      rw [w64 (by omega) (by omega)]
      omega
    rw [e1, show wrap64 ((j : Int) + 1) = ((j + 1 : Nat) : Int) by unfold wrap64; omega]
    exact ih k (j + 1) b x hx (by omega) hb (by omega) (by omega)
theorem bit_eq (k : Nat) (hk : 12 ≤ k) (s : ByteArray) (hs : s.size ≤ 1000000) (i b : Nat) (hb : b ≤ 8) : signalboxref01_Bit.f k s i b = some (tb (bt s i) b) := by
  obtain ⟨k, rfl⟩ : ∃ m, k = m + 1 := ⟨k - 1, by omega⟩
  have hr := bt_range s (i : Int)
  simp only [signalboxref01_Bit.f, signalboxref01_Bit.j0]
  rw [if_neg (by omega)]
  by_cases h : (i : Int) ≥ (s.size : Int)
  · rw [if_pos (by simpa using h), bt_none h]
    simp [tb]
  · rw [if_neg (by simpa using h), if_pos (by omega), if_pos (by omega), w64 (by omega) (by omega)]
    have := bit_l0 b k 0 b (bt s i).toNat (by omega) (by omega) (by omega) (by omega) (by omega)
    rw [Nat.pow_zero, Nat.div_one, show (((bt s i).toNat : Nat) : Int) = bt s i by omega] at this
    exact this
/-- The lowest k bits of a byte, as a number. -/
def low (z : Int) : Nat → Int
  | 0 => 0
  | k + 1 => low z k + if tb z k = true then 2 ^ k else 0
theorem low_all : ∀ z : Fin 256, low (z.val : Int) 8 = z.val := by decide +kernel
theorem low_eq (z : Int) (h : 0 ≤ z ∧ z ≤ 255) : low z 8 = z := by
  have := low_all ⟨z.toNat, by omega⟩
  have e : (z.toNat : Int) = z := by omega
  simpa only [e] using this
theorem low_bound (z : Int) : ∀ k, 0 ≤ low z k ∧ low z k < 2 ^ k
  | 0 => by simp [low]
  | k + 1 => by
    have ih := low_bound z k
    simp only [low]
    have e : (2 : Int) ^ (k + 1) = 2 ^ k * 2 := Int.pow_succ 2 k
    split <;> omega

theorem mask_l1 (s m : ByteArray) (hs : s.size ≤ 1000000) (hm : m.size ≤ 1000000) (l : List Int) (i : Nat) (hi : i < s.size) (d : Nat) : ∀ (k j : Nat), j + d = 8 → d + 13 ≤ k →
    signalboxref01_Mask.l1 k s m l i (low (band (bt s i) (bt m i)) j) (2 ^ j) j = signalboxref01_Mask.l1 (k - d) s m l i (band (bt s i) (bt m i)) 256 8 := by
  induction d with
  | zero =>
    intro k j hj hk
    obtain rfl : j = 8 := by omega
    rw [low_eq _ (band_range _ _ (bt_range s _))]
    rfl
  | succ d ih =>
    intro k j hj hk
    obtain ⟨k, rfl⟩ : ∃ m, k = m + 1 := ⟨k - 1, by omega⟩
    have hlb := low_bound (band (bt s i) (bt m i)) j
    have hp : (2 : Int) ^ j ≤ 2 ^ 8 := by
      have := Nat.pow_le_pow_right (show 0 < 2 by decide) (show j ≤ 8 by omega)
      exact_mod_cast this
    have hp0 : (0 : Int) < 2 ^ j := Int.pow_pos (by decide)
    have ih := ih k (j + 1) (by omega) (by omega)
    have e2 : wrap64 (2 * 2 ^ j) = 2 ^ (j + 1) := by rw [w64 (by omega) (by omega), Int.pow_succ]; omega
    have e3 : wrap64 ((j : Int) + 1) = ((j + 1 : Nat) : Int) := by unfold wrap64; omega
    have e4 : wrap64 (low (band (bt s i) (bt m i)) j + 2 ^ j) = low (band (bt s i) (bt m i)) j + 2 ^ j := w64 (by omega) (by omega)
    simp only [signalboxref01_Mask.l1, e2, e3, e4]
    rw [if_pos (by omega), bit_eq k (by omega) s hs i j (by omega), ob, bit_eq k (by omega) m hm i j (by omega), ob]
    rw [show k + 1 - (d + 1) = k - d by omega, ← ih]
    simp only [low, tb_band]
    cases tb (bt s i) j <;> cases tb (bt m i) j <;> simp
theorem mask_l0 (s m : ByteArray) (hs : s.size ≤ 1000000) (hm : m.size ≤ 1000000) (d : Nat) : ∀ (k j : Nat), j + d = s.size → d * 12 + 40 ≤ k →
    signalboxref01_Mask.l0 k s m (msk s m j) j = some (mk s m) := by
  induction d with
  | zero =>
    intro k j hj hk
    obtain ⟨k, rfl⟩ : ∃ m, k = m + 1 := ⟨k - 1, by omega⟩
    obtain rfl : j = s.size := by omega
    simp only [signalboxref01_Mask.l0]
    rw [if_neg (by omega)]
    rfl
  | succ d ih =>
    intro k j hj hk
    obtain ⟨k, rfl⟩ : ∃ m, k = m + 1 := ⟨k - 1, by omega⟩
    have hl := octet_Mask.len s m j
    simp only [signalboxref01_Mask.l0]
    rw [if_pos (by omega)]
    have h1 := mask_l1 s m hs hm (msk s m j) j (by omega) 8 k 0 (by omega) (by omega)
    have e0 : low (band (bt s j) (bt m j)) 0 = 0 := rfl
    rw [e0] at h1
    have e1 : (2 : Int) ^ 0 = 1 := rfl
    rw [e1] at h1
    show signalboxref01_Mask.l1 k s m (msk s m j) (j : Int) 0 1 ((0 : Nat) : Int) = _
    rw [h1]
    obtain ⟨q, hq⟩ : ∃ q, k - 8 = q + 1 := ⟨k - 9, by omega⟩
    rw [hq]
    simp only [signalboxref01_Mask.l1]
    rw [if_neg (by decide), if_pos (by omega)]
    have hb := band_range (bt s j) (bt m j) (bt_range s _)
    have e2 : msk s m j ++ [band (bt s (j : Int)) (bt m (j : Int)) % 256] = msk s m (j + 1) := by
      simp only [msk]
      congr 2
      split
      · rw [bits_band _ _ (bt_range s _) (bt_range m _)]; omega
      · rw [bits_band _ _ (bt_range s _) (by decide), ← bt_none (s := m) (i := (j : Int)) (by omega)]; omega
    rw [e2, show wrap64 ((j : Int) + 1) = ((j + 1 : Nat) : Int) by unfold wrap64; omega]
    exact ih q (j + 1) (by omega) (by omega)
theorem rmask_eq (s m : ByteArray) (hs : s.size ≤ 1000) (hm : m.size ≤ 1000) (k : Nat) (hk : 20000 ≤ k) : signalboxref01_Mask.f k s m = some (mk s m) :=
  mask_l0 s m (by omega) (by omega) s.size k 0 (by omega) (by omega)
theorem ones_l1 (s : ByteArray) (hs : s.size ≤ 1000000) (i : Nat) (hi : i < s.size) (n0 : Int) (h0 : 0 ≤ n0) (h1 : n0 ≤ 100000000) (k : Nat) (hk : 40 ≤ k) :
    signalboxref01_Ones.l1 k s n0 i 0 = signalboxref01_Ones.l0 (k - 9) s (n0 + bsum (bt s i)) ((i + 1 : Nat) : Int) := by
  obtain ⟨q, rfl⟩ : ∃ q, k = q + 1 + 1 + 1 + 1 + 1 + 1 + 1 + 1 + 1 := ⟨k - 9, by omega⟩
  have st : ∀ (q j : Nat) (n : Int), 12 ≤ q → j < 8 → 0 ≤ n → n ≤ 100000100 → signalboxref01_Ones.l1 (q + 1) s n i (j : Int) = signalboxref01_Ones.l1 q s (n + (tb (bt s i) j).toInt) i ((j + 1 : Nat) : Int) := by
    intro q j n hq hj hn0 hn1
    have e3 : wrap64 ((j : Int) + 1) = ((j + 1 : Nat) : Int) := by unfold wrap64; omega
    have e4 : wrap64 (n + 1) = n + 1 := w64 (by omega) (by omega)
    simp only [signalboxref01_Ones.l1, e3, e4]
    rw [if_pos (by omega), bit_eq q hq s hs i j (by omega), ob]
    cases tb (bt s i) j
    · simp
    · simp
  have tr : ∀ p : Bool, 0 ≤ p.toInt ∧ p.toInt ≤ 1 := by decide
  have t0 := tr (tb (bt s i) 0)
  have t1 := tr (tb (bt s i) 1)
  have t2 := tr (tb (bt s i) 2)
  have t3 := tr (tb (bt s i) 3)
  have t4 := tr (tb (bt s i) 4)
  have t5 := tr (tb (bt s i) 5)
  have t6 := tr (tb (bt s i) 6)
  have t7 := tr (tb (bt s i) 7)
  show signalboxref01_Ones.l1 _ s n0 i ((0 : Nat) : Int) = _
  rw [st _ 0 _ (by omega) (by decide) (by omega) (by omega), st _ 1 _ (by omega) (by decide) (by omega) (by omega), st _ 2 _ (by omega) (by decide) (by omega) (by omega), st _ 3 _ (by omega) (by decide) (by omega) (by omega),
    st _ 4 _ (by omega) (by decide) (by omega) (by omega), st _ 5 _ (by omega) (by decide) (by omega) (by omega), st _ 6 _ (by omega) (by decide) (by omega) (by omega), st _ 7 _ (by omega) (by decide) (by omega) (by omega)]
  simp only [signalboxref01_Ones.l1]
  rw [if_neg (by decide), show wrap64 ((i : Int) + 1) = ((i + 1 : Nat) : Int) by unfold wrap64; omega]
  unfold bsum
  congr 1
  omega
theorem ones_l0 (s : ByteArray) (hs : s.size ≤ 1000) (d : Nat) : ∀ (k j : Nat), j + d = s.size → d * 12 + 60 ≤ k → signalboxref01_Ones.l0 k s (onesL s j) j = some (onesL s s.size) := by
  induction d with
  | zero =>
    intro k j hj hk
    obtain ⟨k, rfl⟩ : ∃ m, k = m + 1 := ⟨k - 1, by omega⟩
    obtain rfl : j = s.size := by omega
    simp only [signalboxref01_Ones.l0]
    rw [if_neg (by omega)]
  | succ d ih =>
    intro k j hj hk
    obtain ⟨k, rfl⟩ : ∃ m, k = m + 1 := ⟨k - 1, by omega⟩
    have hb := onesL_bound s j (by omega)
    simp only [signalboxref01_Ones.l0]
    rw [if_pos (by omega), ones_l1 s (by omega) j (by omega) _ hb.1 (by omega) k (by omega)]
    have := ih (k - 9) (j + 1) (by omega) (by omega)
    simp only [onesL] at this
    rw [pop_bsum _ (bt_range s _)] at this
    exact this
theorem rones_eq (s : ByteArray) (hs : s.size ≤ 1000) (k : Nat) (hk : 20000 ≤ k) : signalboxref01_Ones.f k s = some (onesL s s.size) :=
  ones_l0 s hs s.size k 0 (by omega) (by omega)
/-- Do two bytes differ under a third, in one of the bits from j on? -/
theorem differ_l1 (a b m : ByteArray) (ha : a.size ≤ 1000000) (hb : b.size ≤ 1000000) (hm : m.size ≤ 1000000) (i : Nat) (d : Nat) : ∀ (k j : Nat), j + d = 8 → d + 13 ≤ k →
    (∃ q, j ≤ q ∧ q < 8 ∧ tb (bt m i) q = true ∧ tb (bt a i) q ≠ tb (bt b i) q) ∧ signalboxref01_Differ.l1 k a b m i j = some true ∨
    (∀ q, j ≤ q → q < 8 → tb (bt m i) q = true → tb (bt a i) q = tb (bt b i) q) ∧ signalboxref01_Differ.l1 k a b m i j = signalboxref01_Differ.l0 (k - d - 1) a b m (wrap64 ((i : Int) + 1)) := by
  induction d with
  | zero =>
    intro k j hj hk
    obtain ⟨k, rfl⟩ : ∃ m, k = m + 1 := ⟨k - 1, by omega⟩
    obtain rfl : j = 8 := by omega
    refine .inr ⟨fun q h1 h2 => by omega, ?_⟩
    simp only [signalboxref01_Differ.l1]
    rw [if_neg (by decide)]
    rfl
  | succ d ih =>
    intro k j hj hk
    obtain ⟨k, rfl⟩ : ∃ m, k = m + 1 := ⟨k - 1, by omega⟩
    have ih := ih k (j + 1) (by omega) (by omega)
    have e3 : wrap64 ((j : Int) + 1) = ((j + 1 : Nat) : Int) := by unfold wrap64; omega
    have step : signalboxref01_Differ.l1 (k + 1) a b m i j = if tb (bt m i) j = true then (if (tb (bt a i) j != tb (bt b i) j) = true then some true else signalboxref01_Differ.l1 k a b m i ((j + 1 : Nat) : Int)) else signalboxref01_Differ.l1 k a b m i ((j + 1 : Nat) : Int) := by
      simp only [signalboxref01_Differ.l1, e3]
      rw [if_pos (by omega), bit_eq k (by omega) m hm i j (by omega), ob, bit_eq k (by omega) a ha i j (by omega), ob, bit_eq k (by omega) b hb i j (by omega), ob]
    rw [step, show k + 1 - (d + 1) - 1 = k - d - 1 by omega]
    by_cases h1 : tb (bt m i) j = true
    · by_cases h2 : tb (bt a i) j = tb (bt b i) j
      · rw [if_pos h1, if_neg (by simp [h2])]
        rcases ih with ⟨⟨q, q1, q2, q3⟩, h⟩ | ⟨hq, h⟩
        · exact .inl ⟨⟨q, by omega, q2, q3⟩, h⟩
        · refine .inr ⟨fun q q1 q2 q3 => ?_, h⟩
          by_cases e : q = j
          · rw [e]; exact h2
          · exact hq q (by omega) q2 q3
      · rw [if_pos h1, if_pos (by simp [h2])]
        exact .inl ⟨⟨j, by omega, by omega, h1, h2⟩, rfl⟩
    · rw [if_neg h1]
      rcases ih with ⟨⟨q, q1, q2, q3⟩, h⟩ | ⟨hq, h⟩
      · exact .inl ⟨⟨q, by omega, q2, q3⟩, h⟩
      · refine .inr ⟨fun q q1 q2 q3 => ?_, h⟩
        by_cases e : q = j
        · rw [e] at q3; exact absurd q3 h1
        · exact hq q (by omega) q2 q3
theorem band_same (x y z : Int) (hx : 0 ≤ x ∧ x ≤ 255) (hy : 0 ≤ y ∧ y ≤ 255) : (∀ q, 0 ≤ q → q < 8 → tb z q = true → tb x q = tb y q) ↔ band x z = band y z := by
  constructor
  · intro h
    unfold band
    congr 1
    apply Nat.eq_of_testBit_eq
    intro q
    rw [Nat.testBit_and, Nat.testBit_and]
    by_cases hq : q < 8
    · cases hz : z.toNat.testBit q
      · simp
      · have := h q (by omega) hq hz
        unfold tb at this
        rw [this]
    · have h1 : x.toNat.testBit q = false := Nat.testBit_lt_two_pow (Nat.lt_of_lt_of_le (show x.toNat < 2 ^ 8 by omega) (Nat.pow_le_pow_right (by decide) (by omega)))
      have h2 : y.toNat.testBit q = false := Nat.testBit_lt_two_pow (Nat.lt_of_lt_of_le (show y.toNat < 2 ^ 8 by omega) (Nat.pow_le_pow_right (by decide) (by omega)))
      rw [h1, h2]
  · intro h q _ _ hz
    have := congrArg (fun v => tb v q) h
    simp only [tb_band, hz, Bool.and_true] at this
    exact this
theorem differ_l0 (a b m : ByteArray) (hz : a.size = b.size) (ha : a.size ≤ 1000) (hm : m.size ≤ 1000) (d : Nat) : ∀ (k j : Nat), j + d = a.size → d * 12 + 60 ≤ k → (∀ q, q < j → bt (mk a m) q = bt (mk b m) q) →
    signalboxref01_Differ.l0 k a b m j = some (dif a b m) := by
  induction d with
  | zero =>
    intro k j hj hk hq
    obtain ⟨k, rfl⟩ : ∃ m, k = m + 1 := ⟨k - 1, by omega⟩
    simp only [signalboxref01_Differ.l0]
    rw [if_neg (by omega)]
    have e : mk a m = mk b m := bytes_ext (by rw [mk_size, mk_size]; exact hz) (fun i hi => hq i (by rw [mk_size] at hi; omega))
    unfold dif
    simp [hz, e]
  | succ d ih =>
    intro k j hj hk hq
    obtain ⟨k, rfl⟩ : ∃ m, k = m + 1 := ⟨k - 1, by omega⟩
    simp only [signalboxref01_Differ.l0]
    rw [if_pos (by omega)]
    have h1 := differ_l1 a b m (by omega) (by omega) (by omega) j 8 k 0 (by omega) (by omega)
    rcases h1 with ⟨⟨q, q1, q2, q3, q4⟩, h⟩ | ⟨hall, h⟩
    · show signalboxref01_Differ.l1 k a b m (j : Int) ((0 : Nat) : Int) = _
      rw [h]
      congr 1
      have hne : mk a m ≠ mk b m := by
        intro e
        have e2 : bt (mk a m) j = bt (mk b m) j := by rw [e]
        rw [bt_mk, bt_mk] at e2
        have := (band_same _ _ _ (bt_range a _) (bt_range b _)).mpr e2 q (by omega) q2 q3
        exact q4 this
      unfold dif
      simp [hne]
    · show signalboxref01_Differ.l1 k a b m (j : Int) ((0 : Nat) : Int) = _
      rw [h, show wrap64 ((j : Int) + 1) = ((j + 1 : Nat) : Int) by unfold wrap64; omega]
      refine ih _ (j + 1) (by omega) (by omega) (fun q hq2 => ?_)
      by_cases e : q = j
      · subst e
        rw [bt_mk, bt_mk]
        exact (band_same _ _ _ (bt_range a _) (bt_range b _)).mp hall
      · exact hq q (by omega)
theorem rdiffer_eq (a b m : ByteArray) (ha : a.size ≤ 1000) (hm : m.size ≤ 1000) (k : Nat) (hk : 20000 ≤ k) : signalboxref01_Differ.f k a b m = some (dif a b m) := by
  unfold signalboxref01_Differ.f
  by_cases h : (a.size : Int) = b.size
  · rw [if_pos h]
    exact differ_l0 a b m (by omega) ha hm a.size k 0 (by omega) (by omega) (fun q hq => by omega)
  · rw [if_neg h]
    have h' : ¬ a.size = b.size := by omega
    simp [dif, h']
theorem j0_alive (k : Nat) (a b m : ByteArray) (ha : signalboxlaw01_alive.f k = some true) : signalboxlaw01_OctetMasks.j0 (k + 1) a b m true = some true := by
  simp only [signalboxlaw01_OctetMasks.j0, if_true]
  rw [ha]
  rfl
theorem tail (k : Nat) (a b m t : ByteArray) (x : Bool) (n : Int) (h1 : octet_Mask.f a m = some t) (h2 : signalboxref01_Mask.f k a m = some t) (h3 : octet_Differ.f a b m = some x) (h4 : signalboxref01_Differ.f k a b m = some x) (h5 : octet_Ones.f a = some n) (h6 : signalboxref01_Ones.f k a = some n)
    (ha : signalboxlaw01_alive.f k = some true) : signalboxlaw01_OctetMasks.j0 (k + 1) a b m false = some true := by
  simp only [signalboxlaw01_OctetMasks.j0, ite_tl, Bool.false_eq_true, if_false]
  rw [h1, ob, h2, ob, if_pos rfl, h3, ob, h4, ob, if_pos (by simp), h5, ob, h6, ob, if_pos rfl, ha]
  rfl
theorem OctetMasks : signalboxlaw01_OctetMasks.Pure := by
  intro a b m h1 h2 h3
  obtain ⟨K, hK⟩ := alive_k
  obtain ⟨M, hM⟩ : ∃ M, M = K + 20000 := ⟨_, rfl⟩
  refine ⟨M + 1, ?_⟩
  have hal := hK M (by omega)
  simp only [signalboxlaw01_OctetMasks.f]
  split
  · exact j0_alive M a b m hal
  split
  · exact j0_alive M a b m hal
  by_cases h : (m.size : Int) > 500
  · simp only [h, decide_true]
    exact j0_alive M a b m hal
  · simp only [h, decide_false]
    exact tail M a b m _ _ _ (mask_eq _ _ h1) (rmask_eq _ _ (by omega) (by omega) M (by omega)) (differ_eq _ _ _ h1 h2) (rdiffer_eq _ _ _ (by omega) (by omega) M (by omega)) (ones_eq _ h1) (rones_eq _ (by omega) M (by omega)) hal

end Go.Proofs.Ytooadablecjpdaa.Pure
