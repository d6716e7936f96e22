/- OctetSame: not to differ under a mask is to be the same: each text is the same as itself, being the same goes both ways, and on; what differs under less differs under more. Conditions: none beyond the statement's own. -/
import Derived.Test.YtooadablecjpdaaPOctetSamex2
namespace Go.Proofs.Ytooadablecjpdaa.Pure
open Go.RowKit Go.Proofs.Ytooadablecjpdaa.POctetSame Go.Proofs.YtooadablecjpdaaW.PrintWords Go.Proofs.YtooadablecjpdaaW.PrintLast
set_option linter.unusedVariables false
set_option linter.unusedSimpArgs false

theorem wf_i64 {n : Int} (h : (Lit.int .i64 n).wf = true) : -9223372036854775808 ≤ n ∧ n ≤ 9223372036854775807 := by
  simp only [Lit.wf, Bool.and_eq_true, decide_eq_true_eq] at h
  exact h
theorem wf_u32 {n : Int} (h : (Lit.int .u32 n).wf = true) : 0 ≤ n ∧ n ≤ 4294967295 := by
  simp only [Lit.wf, Bool.and_eq_true, decide_eq_true_eq] at h
  exact h
theorem wf_i32 {n : Int} (h : (Lit.int .i32 n).wf = true) : -2147483648 ≤ n ∧ n ≤ 2147483647 := by
  simp only [Lit.wf, Bool.and_eq_true, decide_eq_true_eq] at h
  exact h
theorem w64 {n : Int} (h0 : -9223372036854775808 ≤ n) (h1 : n ≤ 9223372036854775807) : wrap64 n = n := by unfold wrap64; omega

theorem alive_k : ∃ K, ∀ k, K ≤ k → signalboxlaw01_alive.f k = some true :=
  Ev.of signalboxlaw01_alive.mono (k := 20) (by decide +kernel)

theorem bt_size {s : ByteArray} {i : Nat} (h : i < s.size) : bt s (i : Int) = (s.data.toList[i]'(by rw [Array.length_toList]; exact h)).toNat := by
  have e := bt_at s (i : Int) (by simpa using h)
  rw [← e]
  simp
  rfl
theorem bt_none {s : ByteArray} {i : Int} (h : (s.size : Int) ≤ i) : bt s i = 0 := by
  unfold bt
  rw [dif_neg (by omega)]
theorem bt_num (l : List Int) (hl : ∀ x ∈ l, 0 ≤ x ∧ x ≤ 255) (i : Nat) (h : i < l.length) : bt (strOfNums l) i = l[i] := by
  have hs : i < (strOfNums l).size := by rw [strOfNums_size]; exact h
  rw [bt_size hs]
  have hx := hl l[i] (List.getElem_mem h)
  have : (strOfNums l).data.toList[i]'(by rw [Array.length_toList]; exact hs) = UInt8.ofNat (l[i]).toNat := by
    simp [strOfNums]
  rw [this]
  simp
  omega
theorem bytes_ext {s t : ByteArray} (hz : s.size = t.size) (h : ∀ i : Nat, i < s.size → bt s i = bt t i) : s = t := by
  have : s.data.toList = t.data.toList := by
    apply List.ext_getElem
    · rw [Array.length_toList, Array.length_toList]; exact hz
    · intro i h1 h2
      rw [Array.length_toList] at h1 h2
      have e := h i h1
      rw [bt_size h1, bt_size (show i < t.size from h2)] at e
      have e2 : (s.data.toList[i]).toNat = (t.data.toList[i]).toNat := by exact_mod_cast e
      exact UInt8.toNat_inj.mp e2
  obtain ⟨a⟩ := s
  obtain ⟨b⟩ := t
  have : a.toList = b.toList := this
  rw [Array.toList_inj.mp this]
theorem toList_inj' {s t : ByteArray} : s.toList = t.toList ↔ s = t := by
  constructor
  · intro h
    rw [ByteArray.toList_eq, ByteArray.toList_eq] at h
    obtain ⟨a⟩ := s
    obtain ⟨b⟩ := t
    have h : a.toList = b.toList := h
    rw [Array.toList_inj.mp h]
  · intro h; rw [h]
theorem str_beq (s t : ByteArray) : (s.toList == t.toList) = decide (s = t) := by
  rw [Bool.eq_iff_iff]
  simp [toList_inj']
/-- The comparison of two texts as the print has it, without 'toList' (which the kernel had better not unfold). -/
theorem ite_tl {α : Type} (x y : ByteArray) (p q : α) : (if x.toList = y.toList then p else q) = if x = y then p else q := by
  by_cases h : x = y
  · rw [if_pos h, if_pos (by rw [h])]
  · rw [if_neg h, if_neg (fun e => h (toList_inj'.mp e))]
theorem ite_tl0 {α : Type} (x : ByteArray) (p q : α) : (if x.toList = ([] : List UInt8) then p else q) = if x = ⟨#[]⟩ then p else q := by
  have e : (⟨#[]⟩ : ByteArray).toList = [] := by rw [ByteArray.toList_eq]
  by_cases h : x = ⟨#[]⟩
  · rw [if_pos h, if_pos (by rw [h, e])]
  · rw [if_neg h, if_neg (fun e2 => h (toList_inj'.mp (by rw [e2, e])))]

/-- 'Option.bind_some' as an equation that simp carries along (not by 'rfl': else the kernel unfolds what is bound). -/
theorem ob {α β : Type} (a : α) (f : α → Option β) : (some a).bind f = f a := by
  have h : (some a).bind f = f a := rfl
  exact h.symm.symm

/-- 'and' of two bytes, as numbers. -/
def band (x y : Int) : Int := ((x.toNat &&& y.toNat : Nat) : Int)
theorem bits_band (x y : Int) (hx : 0 ≤ x ∧ x ≤ 255) (hy : 0 ≤ y ∧ y ≤ 255) : Go.bits .and .u8 x y = band x y := by
  have h := (bits_nat .u8 8 (by decide) wraps_u8 x.toNat y.toNat (by omega) (by omega)).1
  rw [show ((x.toNat : Nat) : Int) = x by omega, show ((y.toNat : Nat) : Int) = y by omega] at h
  exact h
theorem band_range (x y : Int) (hx : 0 ≤ x ∧ x ≤ 255) : 0 ≤ band x y ∧ band x y ≤ 255 := by
  unfold band
  have := @Nat.and_le_left x.toNat y.toNat
  omega
theorem band_toNat (x y : Int) : (band x y).toNat = x.toNat &&& y.toNat := by unfold band; omega
theorem band_comm (x y : Int) : band x y = band y x := by unfold band; rw [Nat.and_comm]
theorem band_assoc (x y z : Int) : band (band x y) z = band x (band y z) := by unfold band; simp only [Int.toNat_natCast, Nat.and_assoc]
theorem band_self (x y : Int) : band (band x y) y = band x y := by unfold band; simp only [Int.toNat_natCast, Nat.and_assoc, Nat.and_self]
theorem band_zero (x : Int) : band x 0 = 0 := by unfold band; simp
theorem zero_band (x : Int) : band 0 x = 0 := by unfold band; simp
/-- A text under a mask. -/
def mk (s m : ByteArray) : ByteArray := strOfNums (msk s m s.size)
theorem msk_at (s m : ByteArray) : ∀ n i (h : i < n), (msk s m n)[i]'(by rw [octet_Mask.len]; exact h) = band (bt s i) (bt m i)
  | n + 1, i, h => by
    have hl := octet_Mask.len s m n
    by_cases hi : i < n
    · simp only [msk]
      rw [List.getElem_append_left (by omega)]
      exact msk_at s m n i hi
    · obtain rfl : i = n := by omega
      simp only [msk]
      rw [List.getElem_append_right (by omega)]
      simp only [hl, Nat.sub_self, List.getElem_cons_zero]
      split
      · exact bits_band _ _ (bt_range s _) (bt_range m _)
      · rw [bits_band _ _ (bt_range s _) (by decide), bt_none (s := m) (by omega)]
theorem mk_size (s m : ByteArray) : (mk s m).size = s.size := by unfold mk; rw [strOfNums_size, octet_Mask.len]
theorem bt_mk (s m : ByteArray) (i : Nat) : bt (mk s m) i = band (bt s i) (bt m i) := by
  by_cases h : i < s.size
  · have hl := octet_Mask.len s m s.size
    unfold mk
    rw [bt_num _ _ i (by omega)]
    · exact msk_at s m s.size i h
    · intro x hx
      obtain ⟨j, hj, rfl⟩ := List.getElem_of_mem hx
      rw [msk_at s m s.size j (by omega)]
      exact band_range _ _ (bt_range s _)
  · rw [bt_none (s := mk s m) (by rw [mk_size]; omega), bt_none (s := s) (by omega), zero_band]
theorem mask_eq (s m : ByteArray) (h : s.size ≤ 140737488351232) : octet_Mask.f s m = some (mk s m) := by
  unfold octet_Mask.f mk
  rw [if_pos (by omega)]

def dif (a b m : ByteArray) : Bool := !decide (a.size = b.size ∧ mk a m = mk b m)
theorem differ_eq (a b m : ByteArray) (ha : a.size ≤ 140737488351232) (hb : b.size ≤ 140737488351232) : octet_Differ.f a b m = some (dif a b m) := by
  unfold octet_Differ.f dif
  by_cases h : (a.size : Int) = b.size
  · have h' : a.size = b.size := by omega
    rw [if_pos h, mask_eq a m ha, ob, mask_eq b m hb, ob]
    congr 1
    by_cases e : mk a m = mk b m
    · simp [h', e]
    · have : ¬ (mk a m).toList = (mk b m).toList := fun x => e (toList_inj'.mp x)
      simp [e, this]
  · rw [if_neg h]
    have h' : ¬ a.size = b.size := by omega
    simp [h']

theorem mk_both (s a b : ByteArray) : mk (mk s a) b = mk s (mk a b) := by
  refine bytes_ext (by simp only [mk_size]) (fun i _ => ?_)
  rw [bt_mk, bt_mk, bt_mk, bt_mk, band_assoc]
theorem dif_self (a m : ByteArray) : dif a a m = false := by simp [dif]
theorem dif_symm (a b m : ByteArray) : dif a b m = dif b a m := by
  unfold dif
  congr 1
  rw [decide_eq_decide]
  constructor
  · intro h; exact ⟨h.1.symm, h.2.symm⟩
  · intro h; exact ⟨h.1.symm, h.2.symm⟩
theorem dif_false (a b m : ByteArray) : dif a b m = false ↔ a.size = b.size ∧ mk a m = mk b m := by unfold dif; simp
theorem dif_trans (a b c m : ByteArray) (h1 : dif a b m = false) (h2 : dif b c m = false) : dif a c m = false := by
  rw [dif_false] at *
  exact ⟨h1.1.trans h2.1, h1.2.trans h2.2⟩
theorem dif_less (a b m o : ByteArray) (h : dif a b m = false) : dif a b (mk m o) = false := by
  rw [dif_false] at *
  exact ⟨h.1, by rw [← mk_both, ← mk_both, h.2]⟩
theorem tail (k : Nat) (a b c m o mo : ByteArray) (x y z w : Bool) (h1 : octet_Differ.f a b m = some x) (h2 : octet_Differ.f b c m = some y) (h3 : octet_Differ.f a c m = some z) (h4 : octet_Differ.f a a m = some false)
    (h5 : octet_Differ.f b a m = some x) (h6 : octet_Mask.f m o = some mo) (h7 : octet_Differ.f a b mo = some w) (hxyz : x = false → y = false → z = false) (hw : x = false → w = false) (ha : signalboxlaw01_alive.f k = some true) :
    signalboxlaw01_OctetSame.j0 (k + 1) a b c m o false = some true := by
  simp only [signalboxlaw01_OctetSame.j0, Bool.false_eq_true, if_false]
  rw [h1, ob, h2, ob, h3, ob, h4, ob, if_neg (by decide), h5, ob, if_pos (by simp), h6, ob, h7, ob, ha]
  cases x with
  | true => rfl
  | false =>
    have hw := hw rfl
    subst hw
    cases y with
    | true => rfl
    | false =>
      have hz := hxyz rfl rfl
      subst hz
      rfl
theorem j0_alive (k : Nat) (a b c m o : ByteArray) (ha : signalboxlaw01_alive.f k = some true) : signalboxlaw01_OctetSame.j0 (k + 1) a b c m o true = some true := by
  simp only [signalboxlaw01_OctetSame.j0, if_true]
  rw [ha]
  rfl
theorem OctetSame : signalboxlaw01_OctetSame.Pure := by
  intro a b c m o h1 h2 h3 h4 h5
  obtain ⟨K, hK⟩ := alive_k
  refine ⟨K + 1, ?_⟩
  simp only [signalboxlaw01_OctetSame.f]
  split
  · exact j0_alive K a b c m o (hK K (Nat.le_refl _))
  split
  · exact j0_alive K a b c m o (hK K (Nat.le_refl _))
  split
  · exact j0_alive K a b c m o (hK K (Nat.le_refl _))
  split
  · exact j0_alive K a b c m o (hK K (Nat.le_refl _))
  by_cases h : (o.size : Int) > 300
  · simp only [h, decide_true]
    exact j0_alive K a b c m o (hK K (Nat.le_refl _))
  · simp only [h, decide_false]
    refine tail K a b c m o (mk m o) (dif a b m) (dif b c m) (dif a c m) (dif a b (mk m o)) (differ_eq _ _ _ h1 h2) (differ_eq _ _ _ h2 h3) (differ_eq _ _ _ h1 h3) ?_ ?_ (mask_eq _ _ h4) (differ_eq _ _ _ h1 h2) (dif_trans a b c m) (dif_less a b m o) (hK K (Nat.le_refl _))
    · rw [differ_eq _ _ _ h1 h1, dif_self]
    · rw [differ_eq _ _ _ h2 h1, dif_symm]

end Go.Proofs.Ytooadablecjpdaa.Pure
