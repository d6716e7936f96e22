/- OctetTwice: masked by two masks, one behind the other, a text is masked by what both have; masked again it stays; it has no more bits than it had. Conditions: none beyond the statement's own. -/
import Derived.Test.YtooadablecjpdaaPOctetTwicex2
namespace Go.Proofs.Ytooadablecjpdaa.Pure
open Go.RowKit Go.Proofs.Ytooadablecjpdaa.POctetTwice Go.Proofs.YtooadablecjpdaaW.PrintWords Go.Proofs.YtooadablecjpdaaW.PrintLast
set_option linter.unusedVariables false
set_option linter.unusedSimpArgs false

theorem wf_i64 {n : Int} (h : (Lit.int .i64 n).wf = true) : -9223372036854775808 ≤ n ∧ n ≤ 9223372036854775807 := by
  simp only [Lit.wf, Bool.and_eq_true, decide_eq_true_eq] at h
  exact h
theorem wf_u32 {n : Int} (h : (Lit.int .u32 n).wf = true) : 0 ≤ n ∧ n ≤ 4294967295 := by
  simp only [Lit.wf, Bool.and_eq_true, decide_eq_true_eq] at h
  exact h
theorem wf_i32 {n : Int} (h : (Lit.int .i32 n).wf = true) : -2147483648 ≤ n ∧ n ≤ 2147483647 := by
  simp only [Lit.wf, Bool.and_eq_true, decide_eq_true_eq] at h
  exact h
theorem w64 {n : Int} (h0 : -9223372036854775808 ≤ n) (h1 : n ≤ 9223372036854775807) : wrap64 n = n := by unfold wrap64; omega

theorem alive_k : ∃ K, ∀ k, K ≤ k → signalboxlaw01_alive.f k = some true :=
  Ev.of signalboxlaw01_alive.mono (k := 20) (by decide +kernel)

theorem bt_size {s : ByteArray} {i : Nat} (h : i < s.size) : bt s (i : Int) = (s.data.toList[i]'(by rw [Array.length_toList]; exact h)).toNat := by
  have e := bt_at s (i : Int) (by simpa using h)
  rw [← e]
  simp
  rfl
theorem bt_none {s : ByteArray} {i : Int} (h : (s.size : Int) ≤ i) : bt s i = 0 := by
  unfold bt
  rw [dif_neg (by omega)]
theorem bt_num (l : List Int) (hl : ∀ x ∈ l, 0 ≤ x ∧ x ≤ 255) (i : Nat) (h : i < l.length) : bt (strOfNums l) i = l[i] := by
  have hs : i < (strOfNums l).size := by rw [strOfNums_size]; exact h
  rw [bt_size hs]
  have hx := hl l[i] (List.getElem_mem h)
  have : (strOfNums l).data.toList[i]'(by rw [Array.length_toList]; exact hs) = UInt8.ofNat (l[i]).toNat := by
    simp [strOfNums]
  rw [this]
  simp
  omega
theorem bytes_ext {s t : ByteArray} (hz : s.size = t.size) (h : ∀ i : Nat, i < s.size → bt s i = bt t i) : s = t := by
  have : s.data.toList = t.data.toList := by
    apply List.ext_getElem
    · rw [Array.length_toList, Array.length_toList]; exact hz
    · intro i h1 h2
      rw [Array.length_toList] at h1 h2
      have e := h i h1
      rw [bt_size h1, bt_size (show i < t.size from h2)] at e
      have e2 : (s.data.toList[i]).toNat = (t.data.toList[i]).toNat := by exact_mod_cast e
      exact UInt8.toNat_inj.mp e2
  obtain ⟨a⟩ := s
  obtain ⟨b⟩ := t
  have : a.toList = b.toList := this
  rw [Array.toList_inj.mp this]
theorem toList_inj' {s t : ByteArray} : s.toList = t.toList ↔ s = t := by
  constructor
  · intro h
    rw [ByteArray.toList_eq, ByteArray.toList_eq] at h
    obtain ⟨a⟩ := s
    obtain ⟨b⟩ := t
    have h : a.toList = b.toList := h
    rw [Array.toList_inj.mp h]
  · intro h; rw [h]
theorem str_beq (s t : ByteArray) : (s.toList == t.toList) = decide (s = t) := by
  rw [Bool.eq_iff_iff]
  simp [toList_inj']
/-- The comparison of two texts as the print has it, without 'toList' (which the kernel had better not unfold). -/
theorem ite_tl {α : Type} (x y : ByteArray) (p q : α) : (if x.toList = y.toList then p else q) = if x = y then p else q := by
  by_cases h : x = y
  · rw [if_pos h, if_pos (by rw [h])]
  · rw [if_neg h, if_neg (fun e => h (toList_inj'.mp e))]
theorem ite_tl0 {α : Type} (x : ByteArray) (p q : α) : (if x.toList = ([] : List UInt8) then p else q) = if x = ⟨#[]⟩ then p else q := by
  have e : (⟨#[]⟩ : ByteArray).toList = [] := by rw [ByteArray.toList_eq]
  by_cases h : x = ⟨#[]⟩
  · rw [if_pos h, if_pos (by rw [h, e])]
  · rw [if_neg h, if_neg (fun e2 => h (toList_inj'.mp (by rw [e2, e])))]

/-- 'Option.bind_some' as an equation that simp carries along (not by 'rfl': else the kernel unfolds what is bound). -/
theorem ob {α β : Type} (a : α) (f : α → Option β) : (some a).bind f = f a := by
  have h : (some a).bind f = f a := rfl
  exact h.symm.symm

/-- 'and' of two bytes, as numbers. -/
def band (x y : Int) : Int := ((x.toNat &&& y.toNat : Nat) : Int)
theorem bits_band (x y : Int) (hx : 0 ≤ x ∧ x ≤ 255) (hy : 0 ≤ y ∧ y ≤ 255) : Go.bits .and .u8 x y = band x y := by
  have h := (bits_nat .u8 8 (by decide) wraps_u8 x.toNat y.toNat (by omega) (by omega)).1
  rw [show ((x.toNat : Nat) : Int) = x by omega, show ((y.toNat : Nat) : Int) = y by omega] at h
  exact h
theorem band_range (x y : Int) (hx : 0 ≤ x ∧ x ≤ 255) : 0 ≤ band x y ∧ band x y ≤ 255 := by
  unfold band
  have := @Nat.and_le_left x.toNat y.toNat
  omega
theorem band_toNat (x y : Int) : (band x y).toNat = x.toNat &&& y.toNat := by unfold band; omega
theorem band_comm (x y : Int) : band x y = band y x := by unfold band; rw [Nat.and_comm]
theorem band_assoc (x y z : Int) : band (band x y) z = band x (band y z) := by unfold band; simp only [Int.toNat_natCast, Nat.and_assoc]
theorem band_self (x y : Int) : band (band x y) y = band x y := by unfold band; simp only [Int.toNat_natCast, Nat.and_assoc, Nat.and_self]
theorem band_zero (x : Int) : band x 0 = 0 := by unfold band; simp
theorem zero_band (x : Int) : band 0 x = 0 := by unfold band; simp
/-- A text under a mask. -/
def mk (s m : ByteArray) : ByteArray := strOfNums (msk s m s.size)
theorem msk_at (s m : ByteArray) : ∀ n i (h : i < n), (msk s m n)[i]'(by rw [octet_Mask.len]; exact h) = band (bt s i) (bt m i)
  | n + 1, i, h => by
    have hl := octet_Mask.len s m n
    by_cases hi : i < n
    · simp only [msk]
      rw [List.getElem_append_left (by omega)]
      exact msk_at s m n i hi
    · obtain rfl : i = n := by omega
      simp only [msk]
      rw [List.getElem_append_right (by omega)]
      simp only [hl, Nat.sub_self, List.getElem_cons_zero]
      split
      · exact bits_band _ _ (bt_range s _) (bt_range m _)
      · rw [bits_band _ _ (bt_range s _) (by decide), bt_none (s := m) (by omega)]
theorem mk_size (s m : ByteArray) : (mk s m).size = s.size := by unfold mk; rw [strOfNums_size, octet_Mask.len]
theorem bt_mk (s m : ByteArray) (i : Nat) : bt (mk s m) i = band (bt s i) (bt m i) := by
  by_cases h : i < s.size
  · have hl := octet_Mask.len s m s.size
    unfold mk
    rw [bt_num _ _ i (by omega)]
    · exact msk_at s m s.size i h
    · intro x hx
      obtain ⟨j, hj, rfl⟩ := List.getElem_of_mem hx
      rw [msk_at s m s.size j (by omega)]
      exact band_range _ _ (bt_range s _)
  · rw [bt_none (s := mk s m) (by rw [mk_size]; omega), bt_none (s := s) (by omega), zero_band]
theorem mask_eq (s m : ByteArray) (h : s.size ≤ 140737488351232) : octet_Mask.f s m = some (mk s m) := by
  unfold octet_Mask.f mk
  rw [if_pos (by omega)]

def tb (x : Int) (k : Nat) : Bool := x.toNat.testBit k
def bsum (x : Int) : Int := (tb x 0).toInt + (tb x 1).toInt + (tb x 2).toInt + (tb x 3).toInt + (tb x 4).toInt + (tb x 5).toInt + (tb x 6).toInt + (tb x 7).toInt
theorem pop_all : ∀ x : Fin 256, pop (x.val : Int) = bsum (x.val : Int) := by decide +kernel
theorem pop_bsum (x : Int) (h : 0 ≤ x ∧ x ≤ 255) : pop x = bsum x := by
  have := pop_all ⟨x.toNat, by omega⟩
  have e : (x.toNat : Int) = x := by omega
  simpa only [e] using this
theorem tb_band (x y : Int) (k : Nat) : tb (band x y) k = (tb x k && tb y k) := by
  unfold tb
  rw [band_toNat, Nat.testBit_and]
theorem tb_le (p q : Bool) : (p && q).toInt ≤ p.toInt := by cases p <;> cases q <;> decide
theorem bsum_band (x y : Int) : bsum (band x y) ≤ bsum x := by
  unfold bsum
  simp only [tb_band]
  have := tb_le (tb x 0) (tb y 0)
  have := tb_le (tb x 1) (tb y 1)
  have := tb_le (tb x 2) (tb y 2)
  have := tb_le (tb x 3) (tb y 3)
  have := tb_le (tb x 4) (tb y 4)
  have := tb_le (tb x 5) (tb y 5)
  have := tb_le (tb x 6) (tb y 6)
  have := tb_le (tb x 7) (tb y 7)
  omega
theorem ones_mk (s m : ByteArray) : ∀ n, onesL (mk s m) n ≤ onesL s n
  | 0 => by simp [onesL]
  | n + 1 => by
    have ih := ones_mk s m n
    simp only [onesL]
    rw [bt_mk, pop_bsum _ (band_range _ _ (bt_range s _)), pop_bsum _ (bt_range s _)]
    have := bsum_band (bt s n) (bt m n)
    omega
theorem ones_eq (s : ByteArray) (h : s.size ≤ 140737488351232) : octet_Ones.f s = some (onesL s s.size) := by
  unfold octet_Ones.f
  rw [if_pos (by omega)]

theorem mk_again (s a : ByteArray) : mk (mk s a) a = mk s a := by
  refine bytes_ext (by simp only [mk_size]) (fun i _ => ?_)
  rw [bt_mk, bt_mk, band_self]
theorem mk_both (s a b : ByteArray) : mk (mk s a) b = mk s (mk a b) := by
  refine bytes_ext (by simp only [mk_size]) (fun i _ => ?_)
  rw [bt_mk, bt_mk, bt_mk, bt_mk, band_assoc]
theorem mk_swap (s a b : ByteArray) : mk (mk s a) b = mk (mk s b) a := by
  refine bytes_ext (by simp only [mk_size]) (fun i _ => ?_)
  rw [bt_mk, bt_mk, bt_mk, bt_mk, band_assoc, band_assoc, band_comm (bt a _)]
theorem tail (k : Nat) (s a b m mb ab sb : ByteArray) (o1 o2 : Int) (h1 : octet_Mask.f s a = some m) (h2 : octet_Mask.f m a = some m) (h3 : octet_Mask.f m b = some mb) (h4 : octet_Mask.f a b = some ab) (h5 : octet_Mask.f s ab = some mb)
    (h6 : octet_Mask.f s b = some sb) (h7 : octet_Mask.f sb a = some mb) (h8 : octet_Ones.f m = some o1) (h9 : octet_Ones.f s = some o2) (ho : o1 ≤ o2) (hz : (m.size : Int) = s.size) (ha : signalboxlaw01_alive.f k = some true) :
    signalboxlaw01_OctetTwice.j0 (k + 1) s a b false = some true := by
  simp only [signalboxlaw01_OctetTwice.j0, ite_tl, Bool.false_eq_true, if_false]
  rw [h1, ob, h2, ob, if_pos rfl, h3, ob, h4, ob, h5, ob, if_pos rfl, ob, h6, ob, h7, ob, if_pos rfl, h8, ob, h9, ob, if_pos ho, if_pos hz, ha]
  rfl
theorem j0_alive (k : Nat) (s a b : ByteArray) (ha : signalboxlaw01_alive.f k = some true) : signalboxlaw01_OctetTwice.j0 (k + 1) s a b true = some true := by
  simp only [signalboxlaw01_OctetTwice.j0, if_true]
  rw [ha]
  rfl
theorem OctetTwice : signalboxlaw01_OctetTwice.Pure := by
  intro s a b hs ha hb
  obtain ⟨K, hK⟩ := alive_k
  refine ⟨K + 1, ?_⟩
  simp only [signalboxlaw01_OctetTwice.f]
  split
  · exact j0_alive K s a b (hK K (Nat.le_refl _))
  split
  · exact j0_alive K s a b (hK K (Nat.le_refl _))
  by_cases h : (b.size : Int) > 500
  · simp only [h, decide_true]
    exact j0_alive K s a b (hK K (Nat.le_refl _))
  · simp only [h, decide_false]
    have e2 := mk_again s a
    have e3 := mk_both s a b
    have e4 := mk_swap s a b
    have z1 := mk_size s a
    refine tail K s a b (mk s a) (mk (mk s a) b) (mk a b) (mk s b) _ _ (mask_eq _ _ hs) ?_ (mask_eq _ _ (by omega)) (mask_eq _ _ ha) ?_ (mask_eq _ _ hs) ?_ (ones_eq _ (by omega)) (ones_eq _ hs) ?_ (by omega) (hK K (Nat.le_refl _))
    · rw [mask_eq _ _ (by omega), e2]
    · rw [mask_eq _ _ hs, e3]
    · rw [mask_eq _ _ (by rw [mk_size]; omega), e4]
    · rw [z1]; exact ones_mk s a s.size

end Go.Proofs.Ytooadablecjpdaa.Pure
