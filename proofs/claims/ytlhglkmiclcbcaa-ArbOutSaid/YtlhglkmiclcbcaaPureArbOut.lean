/- ArbOut: raced without one that goes out, the same are left. Conditions: none beyond the statement's own. -/
import Derived.Test.YtlhglkmiclcbcaaPArbOutx6
namespace Go.Proofs.Ytlhglkmiclcbcaa.Pure
open Go.RowKit Go.Proofs.Ytlhglkmiclcbcaa.PArbOut Go.Proofs.YtlhglkmiclcbcaaW.PrintWords Go.Proofs.YtlhglkmiclcbcaaW.PrintLast
set_option linter.unusedVariables false
set_option linter.unusedSimpArgs false

theorem wf_i64 {n : Int} (h : (Lit.int .i64 n).wf = true) : -9223372036854775808 ≤ n ∧ n ≤ 9223372036854775807 := by
  simp only [Lit.wf, Bool.and_eq_true, decide_eq_true_eq] at h
  exact h
theorem wf_u32 {n : Int} (h : (Lit.int .u32 n).wf = true) : 0 ≤ n ∧ n ≤ 4294967295 := by
  simp only [Lit.wf, Bool.and_eq_true, decide_eq_true_eq] at h
  exact h
theorem wf_i32 {n : Int} (h : (Lit.int .i32 n).wf = true) : -2147483648 ≤ n ∧ n ≤ 2147483647 := by
  simp only [Lit.wf, Bool.and_eq_true, decide_eq_true_eq] at h
  exact h
theorem w64 {n : Int} (h0 : -9223372036854775808 ≤ n) (h1 : n ≤ 9223372036854775807) : wrap64 n = n := by unfold wrap64; omega

/-- 'Option.bind_some' as an equation that simp carries along (not by 'rfl': else the kernel unfolds what is bound). -/
theorem ob {α β : Type} (a : α) (f : α → Option β) : (some a).bind f = f a := by
  have h : (some a).bind f = f a := rfl
  exact h.symm.symm

theorem up1 (j : Nat) (h : j < 1000000000) : wrap64 ((j : Int) + 1) = ((j + 1 : Nat) : Int) := by rw [w64 (by omega) (by omega)]; omega

theorem bt_size {s : ByteArray} {i : Nat} (h : i < s.size) : bt s (i : Int) = (s.data.toList[i]'(by rw [Array.length_toList]; exact h)).toNat := by
  have e := bt_at s (i : Int) (by simpa using h)
  rw [← e]
  simp
  rfl
theorem bt_none {s : ByteArray} {i : Int} (h : (s.size : Int) ≤ i) : bt s i = 0 := by
  unfold bt
  rw [dif_neg (by omega)]
theorem bt_num (l : List Int) (hl : ∀ x ∈ l, 0 ≤ x ∧ x ≤ 255) (i : Nat) (h : i < l.length) : bt (strOfNums l) i = l[i] := by
  have hs : i < (strOfNums l).size := by rw [strOfNums_size]; exact h
  rw [bt_size hs]
  have hx := hl l[i] (List.getElem_mem h)
  have : (strOfNums l).data.toList[i]'(by rw [Array.length_toList]; exact hs) = UInt8.ofNat (l[i]).toNat := by
    simp [strOfNums]
  rw [this]
  simp
  omega
theorem bytes_ext {s t : ByteArray} (hz : s.size = t.size) (h : ∀ i : Nat, i < s.size → bt s i = bt t i) : s = t := by
  have : s.data.toList = t.data.toList := by
    apply List.ext_getElem
    · rw [Array.length_toList, Array.length_toList]; exact hz
    · intro i h1 h2
      rw [Array.length_toList] at h1 h2
      have e := h i h1
      rw [bt_size h1, bt_size (show i < t.size from h2)] at e
      have e2 : (s.data.toList[i]).toNat = (t.data.toList[i]).toNat := by exact_mod_cast e
      exact UInt8.toNat_inj.mp e2
  obtain ⟨a⟩ := s
  obtain ⟨b⟩ := t
  have : a.toList = b.toList := this
  rw [Array.toList_inj.mp this]
theorem toList_inj' {s t : ByteArray} : s.toList = t.toList ↔ s = t := by
  constructor
  · intro h
    rw [ByteArray.toList_eq, ByteArray.toList_eq] at h
    obtain ⟨a⟩ := s
    obtain ⟨b⟩ := t
    have h : a.toList = b.toList := h
    rw [Array.toList_inj.mp h]
  · intro h; rw [h]
theorem str_beq (s t : ByteArray) : (s.toList == t.toList) = decide (s = t) := by
  rw [Bool.eq_iff_iff]
  simp [toList_inj']
/-- The comparison of two texts as the print has it, without 'toList' (which the kernel had better not unfold). -/
theorem ite_tl {α : Type} (x y : ByteArray) (p q : α) : (if x.toList = y.toList then p else q) = if x = y then p else q := by
  by_cases h : x = y
  · rw [if_pos h, if_pos (by rw [h])]
  · rw [if_neg h, if_neg (fun e => h (toList_inj'.mp e))]
theorem ite_tl0 {α : Type} (x : ByteArray) (p q : α) : (if x.toList = ([] : List UInt8) then p else q) = if x = ⟨#[]⟩ then p else q := by
  have e : (⟨#[]⟩ : ByteArray).toList = [] := by rw [ByteArray.toList_eq]
  by_cases h : x = ⟨#[]⟩
  · rw [if_pos h, if_pos (by rw [h, e])]
  · rw [if_neg h, if_neg (fun e2 => h (toList_inj'.mp (by rw [e2, e])))]

theorem ints_l0 (x : List Int) (hl : x.length ≤ 100000) (d : Nat) : ∀ (k j : Nat), j + d = x.length → d + 1 ≤ k → signalboxref09_Ints.l0 k x x j = some true := by
  induction d with
  | zero =>
    intro k j hj hk
    obtain ⟨k, rfl⟩ : ∃ m, k = m + 1 := ⟨k - 1, by omega⟩
    obtain rfl : j = x.length := by omega
    have hlt : ¬ (x.length : Int) < (x.length : Int) := Int.lt_irrefl _
    simp only [signalboxref09_Ints.l0, if_neg hlt]
  | succ d ih =>
    intro k j hj hk
    obtain ⟨k, rfl⟩ : ∃ m, k = m + 1 := ⟨k - 1, by omega⟩
    have c1 : (j : Int) < (x.length : Int) := by omega
    have c2 : 0 ≤ (j : Int) := by omega
    simp only [signalboxref09_Ints.l0, if_pos c1, if_pos c2, if_true, up1 j (by omega)]
    exact ih k (j + 1) (by omega) (by omega)
theorem ints_same (x : List Int) (hl : x.length ≤ 100000) (k : Nat) (hk : x.length + 1 ≤ k) : signalboxref09_Ints.f k x x = some true := by
  unfold signalboxref09_Ints.f
  rw [if_pos rfl]
  exact ints_l0 x hl x.length k 0 (by omega) hk

theorem son_app (x y : List Int) : strOfNums x ++ strOfNums y = strOfNums (x ++ y) := by
  apply ByteArray.ext
  simp [strOfNums]
theorem son_list (x : List Int) : (strOfNums x).toList = x.map (fun n => UInt8.ofNat n.toNat) := by
  rw [ByteArray.toList_eq]
  simp [strOfNums]

/-- 1 where a text shows no nought. -/
def sb (s : ByteArray) (j : Nat) : Nat := if shw s j = true then 0 else 1
/-- The first places of a text, as a number. -/
def val (s : ByteArray) : Nat → Nat
  | 0 => 0
  | n + 1 => 2 * val s n + sb s n
theorem sb_le (s : ByteArray) (j : Nat) : sb s j ≤ 1 := by unfold sb; split <;> omega
theorem sb_shw (s : ByteArray) (j : Nat) : sb s j = 0 ↔ shw s j = true := by
  unfold sb
  split
  · rename_i h; simp [h]
  · rename_i h; simp [h]
/-- Is a text one of the least? -/
def isL (l : List ByteArray) (n : Nat) (s : ByteArray) : Bool := l.all (fun t => decide (val s n ≤ val t n))
theorem isL_iff (l : List ByteArray) (n : Nat) (s : ByteArray) : isL l n s = true ↔ ∀ t, t ∈ l → val s n ≤ val t n := by
  unfold isL
  simp [List.all_eq_true]
theorem isL_step (l : List ByteArray) (n : Nat) (s : ByteArray) (hs : s ∈ l) : isL l (n + 1) s = true ↔ isL l n s = true ∧ (sb s n = 0 ∨ ∀ t, t ∈ l → isL l n t = true → sb t n = 1) := by
  simp only [isL_iff, val]
  have b0 := sb_le s n
  constructor
  · intro h
    have h1 : ∀ t, t ∈ l → val s n ≤ val t n := fun t ht => by
      have := h t ht
      have := sb_le t n
      omega
    refine ⟨h1, ?_⟩
    by_cases h0 : sb s n = 0
    · exact Or.inl h0
    · refine Or.inr (fun t ht h2 => ?_)
      have a := h t ht
      have b := h2 s hs
      have c := sb_le t n
      omega
  · rintro ⟨h1, h2⟩ t ht
    have a := h1 t ht
    have c := sb_le t n
    by_cases he : val s n = val t n
    · rcases h2 with h2 | h2
      · omega
      · have := h2 t ht (fun u hu => by rw [← he]; exact h1 u hu)
        omega
    · omega
theorem rd_mem (l : List ByteArray) (x : Int) (h : x ∈ iotaL l.length) : rdOf ByteArray.empty l x ∈ l := by
  obtain ⟨h0, h1⟩ := iotaL_mem _ x h
  have hx : x.toNat < l.length := by omega
  unfold rdOf
  rw [List.getD_eq_getElem?_getD, List.getElem?_eq_getElem hx, Option.getD_some]
  exact List.getElem_mem hx
theorem mem_iota : ∀ (n i : Nat), i < n → (i : Int) ∈ iotaL n
  | n + 1, i, h => by
    simp only [iotaL, List.mem_append, List.mem_singleton]
    by_cases hi : i = n
    · right; rw [hi]
    · left; exact mem_iota n i (by omega)
theorem rd_nat (l : List ByteArray) (i : Nat) (h : i < l.length) : rdOf ByteArray.empty l (i : Int) = l[i] := by
  unfold rdOf
  rw [List.getD_eq_getElem?_getD, Int.toNat_natCast, List.getElem?_eq_getElem h, Option.getD_some]
theorem rd_of_mem (l : List ByteArray) (t : ByteArray) (h : t ∈ l) : ∃ x, x ∈ iotaL l.length ∧ rdOf ByteArray.empty l x = t := by
  obtain ⟨i, hi, rfl⟩ := List.getElem_of_mem h
  exact ⟨(i : Int), mem_iota _ _ hi, rd_nat l i hi⟩
/-- Who is left is who has the least text. -/
theorem race_eq (l : List ByteArray) : ∀ j, raceN l j = (iotaL l.length).filter (fun i => isL l j (rdOf ByteArray.empty l i))
  | 0 => by
    show iotaL l.length = _
    symm
    rw [List.filter_eq_self]
    intro x hx
    simp [isL, val]
  | j + 1 => by
    have ih := race_eq l j
    have hk : keepL l j (raceN l j) = (iotaL l.length).filter (fun i => shw (rdOf ByteArray.empty l i) j && isL l j (rdOf ByteArray.empty l i)) := by
      rw [ih]
      unfold keepL
      rw [List.filter_filter]
    rw [raceN]
    split
    · rename_i h
      rw [ih]
      rw [hk, List.filter_eq_nil_iff] at h
      apply List.filter_congr
      intro x hx
      rw [Bool.eq_iff_iff, isL_step _ _ _ (rd_mem l x hx)]
      constructor
      · intro h1
        refine ⟨h1, Or.inr (fun t ht h2 => ?_)⟩
        obtain ⟨y, hy, rfl⟩ := rd_of_mem l t ht
        have h3 := h y hy
        rw [h2, Bool.and_true] at h3
        unfold sb
        rw [if_neg h3]
      · exact fun h1 => h1.1
    · rename_i h
      rw [hk] at h ⊢
      obtain ⟨y, hy⟩ := List.exists_mem_of_ne_nil _ h
      obtain ⟨hy1, hy2⟩ := List.mem_filter.mp hy
      rw [Bool.and_eq_true] at hy2
      apply List.filter_congr
      intro x hx
      rw [Bool.eq_iff_iff, isL_step _ _ _ (rd_mem l x hx), Bool.and_eq_true]
      constructor
      · rintro ⟨h1, h2⟩
        exact ⟨h2, Or.inl ((sb_shw _ _).mpr h1)⟩
      · rintro ⟨h1, h2⟩
        refine ⟨?_, h1⟩
        rcases h2 with h2 | h2
        · exact (sb_shw _ _).mp h2
        · have h3 := h2 _ (rd_mem l y hy1) hy2.2
          rw [(sb_shw _ _).mpr hy2.1] at h3
          cases h3
/-- How long the longest of the first ones is. -/
def lgT (l : List ByteArray) : Nat → Nat
  | 0 => 0
  | i + 1 => max (lgT l i) (rdOf ByteArray.empty l (i : Int)).size
def lgN (l : List ByteArray) : Nat := lgT l l.length
theorem lgT_mem (l : List ByteArray) : ∀ (n i : Nat), i < n → (rdOf ByteArray.empty l (i : Int)).size ≤ lgT l n
  | n + 1, i, h => by
    rw [lgT]
    by_cases hi : i = n
    · subst hi; omega
    · have := lgT_mem l n i (by omega); omega
theorem lgT_le (l : List ByteArray) (B : Nat) (h : ∀ s, s ∈ l → s.size ≤ B) : ∀ n, n ≤ l.length → lgT l n ≤ B
  | 0, _ => Nat.zero_le _
  | n + 1, hn => by
    rw [lgT]
    have a := lgT_le l B h n (by omega)
    have b := h _ (rd_mem l (n : Int) (mem_iota _ _ hn))
    omega
theorem lgN_mem (l : List ByteArray) (s : ByteArray) (h : s ∈ l) : s.size ≤ lgN l := by
  obtain ⟨i, hi, rfl⟩ := List.getElem_of_mem h
  have := lgT_mem l l.length i hi
  rw [rd_nat l i hi] at this
  exact this
theorem lgN_le (l : List ByteArray) (B : Nat) (h : ∀ s, s ∈ l → s.size ≤ B) : lgN l ≤ B := lgT_le l B h l.length (Nat.le_refl _)
/-- A text as it is shown. -/
def wl (s : ByteArray) : Nat → List Int
  | 0 => []
  | n + 1 => wl s n ++ [if shw s n = true then 48 else 49]
theorem wl_len (s : ByteArray) : ∀ n, (wl s n).length = n
  | 0 => rfl
  | n + 1 => by rw [wl, List.length_append, wl_len s n]; rfl
def whl (s : ByteArray) (n : Nat) : ByteArray := strOfNums (wl s n)
theorem less_app : ∀ (x y : List UInt8) (c d : UInt8), x.length = y.length → Op.bytesLess (x ++ [c]) (y ++ [d]) = (Op.bytesLess x y || (x == y && decide (c < d)))
  | [], [], c, d, _ => by simp [Op.bytesLess]
  | a :: x, b :: y, c, d, h => by
    have ih := less_app x y c d (by simpa using h)
    simp only [List.cons_append, Op.bytesLess, ih]
    by_cases h1 : a < b
    · simp [h1]
    · by_cases h2 : a = b
      · subst h2
        simp [h1]
      · have h3 : (a == b) = false := by simpa using h2
        have h4 : (a :: x == b :: y) = false := by simp [h2]
        simp [h1, h3, h4]
def wu (s : ByteArray) (n : Nat) : List UInt8 := (wl s n).map (fun n => UInt8.ofNat n.toNat)
theorem wu_len (s : ByteArray) (n : Nat) : (wu s n).length = n := by unfold wu; rw [List.length_map, wl_len]
theorem wu_step (s : ByteArray) (n : Nat) : wu s (n + 1) = wu s n ++ [if shw s n = true then 48 else 49] := by
  unfold wu
  rw [wl, List.map_append]
  congr 1
  split <;> rfl
theorem wu_val (a b : ByteArray) : ∀ n, (wu a n = wu b n ↔ val a n = val b n)
  | 0 => by simp [wu, wl, val]
  | n + 1 => by
    have ih := wu_val a b n
    have ha := sb_le a n
    have hb := sb_le b n
    rw [wu_step, wu_step, val, val]
    constructor
    · intro h
      obtain ⟨h1, h2⟩ := List.append_inj' h rfl
      have h3 := ih.mp h1
      have h4 : sb a n = sb b n := by
        unfold sb
        cases e1 : shw a n <;> cases e2 : shw b n <;> simp [e1, e2] at h2 ⊢
      omega
    · intro h
      have h1 : val a n = val b n := by omega
      have h2 : sb a n = sb b n := by omega
      rw [ih.mpr h1]
      unfold sb at h2
      cases e1 : shw a n <;> cases e2 : shw b n <;> simp [e1, e2] at h2 ⊢
theorem wu_less (a b : ByteArray) : ∀ n, Op.bytesLess (wu a n) (wu b n) = decide (val a n < val b n)
  | 0 => by simp [wu, wl, val, Op.bytesLess]
  | n + 1 => by
    rw [wu_step, wu_step, less_app _ _ _ _ (by rw [wu_len, wu_len]), wu_less a b n, val, val]
    have ha := sb_le a n
    have hb := sb_le b n
    have he : (wu a n == wu b n) = decide (val a n = val b n) := by
      rw [Bool.eq_iff_iff]
      simp [wu_val a b n]
    have hs : decide ((if shw a n = true then (48 : UInt8) else 49) < (if shw b n = true then (48 : UInt8) else 49)) = decide (sb a n < sb b n) := by
      unfold sb
      cases shw a n <;> cases shw b n <;> rfl
    rw [he, hs, Bool.eq_iff_iff]
    simp only [Bool.or_eq_true, Bool.and_eq_true, decide_eq_true_eq]
    omega
theorem whl_less (a b : ByteArray) (n : Nat) : Op.bytesLess (whl a n).toList (whl b n).toList = decide (val a n < val b n) := by
  unfold whl
  rw [son_list, son_list]
  exact wu_less a b n

theorem longest_l0 (l : List ByteArray) (hl : l.length ≤ 100000) : ∀ (d k j : Nat), j + d = l.length → arb_longest.l0 (k + (d + 1)) (lgT l j : Nat) l (l.length : Int) j = some ((lgN l : Nat) : Int)
  | 0, k, j, hj => by
    obtain rfl : j = l.length := by omega
    have hlt : ¬ (l.length : Int) < (l.length : Int) := Int.lt_irrefl _
    rw [arb_longest.l0, if_neg hlt]
    rfl
  | d + 1, k, j, hj => by
    have c1 : (j : Int) < (l.length : Int) := by omega
    have c2 : 0 ≤ (j : Int) := by omega
    rw [show k + (d + 1 + 1) = (k + (d + 1)) + 1 by omega, arb_longest.l0, if_pos c1, if_pos c2, if_pos c1, up1 j (by omega)]
    have e : mx ((lgT l j : Nat) : Int) ((rdOf ByteArray.empty l (j : Int)).size : Int) = ((lgT l (j + 1) : Nat) : Int) := by
      rw [lgT]
      unfold mx
      split <;> omega
    rw [e]
    exact longest_l0 l hl d k (j + 1) (by omega)
theorem longest_eq (l : List ByteArray) (hl : l.length ≤ 100000) (k : Nat) (hk : l.length + 1 ≤ k) : arb_longest.f k l = some ((lgN l : Nat) : Int) := by
  obtain ⟨q, rfl⟩ : ∃ q, k = q + (l.length + 1) := ⟨k - (l.length + 1), by omega⟩
  exact longest_l0 l hl l.length q 0 (by omega)
theorem race_f (l : List ByteArray) (hl : l.length ≤ 100000) (hN : lgN l ≤ 99999) (k : Nat) (hk : l.length + 1 ≤ k) : arb_Race.f k l = some (raceN l (lgN l)) := by
  unfold arb_Race.f
  rw [longest_eq l hl k hk, ob, if_pos (by omega), if_pos (by omega), Int.toNat_natCast]

/-- How much the first texts come to. -/
def sumT (l : List ByteArray) : Nat → Int
  | 0 => 0
  | i + 1 => sumT l i + mn ((rdOf ByteArray.empty l (i : Int)).size : Int) 2000
theorem mn2000 (t : Nat) : 0 ≤ mn (t : Int) 2000 ∧ mn (t : Int) 2000 ≤ 2000 := by unfold mn; split <;> omega
theorem sumT_range (l : List ByteArray) : ∀ i, 0 ≤ sumT l i ∧ sumT l i ≤ 2000 * i
  | 0 => by simp [sumT]
  | i + 1 => by
    have h := sumT_range l i
    have h2 := mn2000 (rdOf ByteArray.empty l (i : Int)).size
    simp only [sumT]
    omega
theorem few_l0 (l : List ByteArray) : ∀ (d k i : Nat), i + d = min l.length 21 → signalboxref09_Few.l0 (k + (d + 1)) l (sumT l i) i = some (decide (l.length ≤ 20 ∧ sumT l (min l.length 21) ≤ 800))
  | 0, k, i, hi => by
    obtain rfl : i = min l.length 21 := by omega
    have hlast : (if (l.length : Int) ≤ 20 then (some (decide (sumT l (min l.length 21) ≤ 800))) else (some false)) = some (decide (l.length ≤ 20 ∧ sumT l (min l.length 21) ≤ 800)) := by
      by_cases h : l.length ≤ 20
      · rw [if_pos (by omega)]; congr 1; rw [decide_eq_decide]; exact ⟨fun h2 => ⟨h, h2⟩, fun h2 => h2.2⟩
      · rw [if_neg (by omega)]; congr 1; symm; rw [decide_eq_false_iff_not]; exact fun h2 => h h2.1
    rw [show k + (0 + 1) = k + 1 from rfl, signalboxref09_Few.l0]
    split
    · rename_i h
      rw [if_neg (by omega)]
      exact hlast
    · exact hlast
  | d + 1, k, i, hi => by
    have c1 : (i : Int) < (l.length : Int) := by omega
    have c2 : (i : Int) ≤ 20 := by omega
    have c3 : 0 ≤ (i : Int) := by omega
    have hr := sumT_range l i
    have h2 := mn2000 (rdOf ByteArray.empty l (i : Int)).size
    rw [show k + (d + 1 + 1) = (k + (d + 1)) + 1 by omega, signalboxref09_Few.l0, if_pos c1, if_pos c2, if_pos c3, up1 i (by omega), w64 (by omega) (by omega)]
    exact few_l0 l d k (i + 1) (by omega)
theorem few_eq (l : List ByteArray) (k : Nat) (hk : 22 ≤ k) : signalboxref09_Few.f k l = some (decide (l.length ≤ 20 ∧ sumT l (min l.length 21) ≤ 800)) := by
  obtain ⟨q, rfl⟩ : ∃ q, k = q + (min l.length 21 + 1) := ⟨k - (min l.length 21 + 1), by omega⟩
  exact few_l0 l (min l.length 21) q 0 (by omega)
theorem sumT_mem (l : List ByteArray) : ∀ (n i : Nat), i < n → mn ((rdOf ByteArray.empty l (i : Int)).size : Int) 2000 ≤ sumT l n
  | n + 1, i, h => by
    have hr := sumT_range l n
    have h2 := mn2000 (rdOf ByteArray.empty l (n : Int)).size
    simp only [sumT]
    by_cases hi : i = n
    · subst hi; omega
    · have := sumT_mem l n i (by omega); omega
theorem few_lg (l : List ByteArray) (h1 : l.length ≤ 20) (h2 : sumT l (min l.length 21) ≤ 800) : lgN l ≤ 800 := by
  refine lgN_le l 800 (fun s hs => ?_)
  obtain ⟨i, hi, rfl⟩ := List.getElem_of_mem hs
  have h := sumT_mem l (min l.length 21) i (by omega)
  rw [rd_nat l i hi] at h
  unfold mn at h
  split at h <;> omega

theorem alive_k : ∃ K, ∀ k, K ≤ k → signalboxlaw09_alive.f k = some true :=
  Ev.of signalboxlaw09_alive.mono (k := 200) (by decide +kernel)

theorem rdI_mem' (x : List Int) (m : Nat) (h : m < x.length) : rd x (m : Int) = x[m] := by
  unfold rd
  rw [Int.toNat_natCast, List.getD_eq_getElem?_getD, List.getElem?_eq_getElem h, Option.getD_some]
theorem in_l0 (x : List Int) (hl : x.length ≤ 100000) (v : Int) : ∀ (d k j : Nat), j + d = x.length → signalboxref09_In.l0 (k + (d + 1)) x v j = some (decide (v ∈ x.drop j))
  | 0, k, j, hj => by
    obtain rfl : j = x.length := by omega
    have hlt : ¬ (x.length : Int) < (x.length : Int) := Int.lt_irrefl _
    rw [show k + (0 + 1) = k + 1 from rfl, signalboxref09_In.l0, if_neg hlt, List.drop_length]
    simp
  | d + 1, k, j, hj => by
    have c1 : (j : Int) < (x.length : Int) := by omega
    have c2 : 0 ≤ (j : Int) := by omega
    have hj' : j < x.length := by omega
    rw [show k + (d + 1 + 1) = (k + (d + 1)) + 1 by omega, signalboxref09_In.l0, if_pos c1, if_pos c2, up1 j (by omega), rdI_mem' x j hj', List.drop_eq_getElem_cons hj']
    by_cases h : x[j] = v
    · rw [if_pos h]
      simp [h]
    · rw [if_neg h, in_l0 x hl v d k (j + 1) (by omega)]
      congr 1
      rw [decide_eq_decide, List.mem_cons]
      constructor
      · exact Or.inr
      · rintro (h2 | h2)
        · exact absurd h2.symm h
        · exact h2
theorem in_eq (x : List Int) (hl : x.length ≤ 100000) (v : Int) (k : Nat) (hk : x.length + 1 ≤ k) : signalboxref09_In.f k x v = some (decide (v ∈ x)) := by
  obtain ⟨q, rfl⟩ : ∃ q, k = q + (x.length + 1) := ⟨k - (x.length + 1), by omega⟩
  have h := in_l0 x hl v x.length q 0 (by omega)
  rw [List.drop_zero] at h
  exact h

theorem val_pad (s : ByteArray) (m : Nat) (h : s.size ≤ m) : val s (m + 1) = 2 * val s m + 1 := by
  rw [val]
  unfold sb
  have e : shw s m = false := by
    unfold shw
    rw [decide_eq_false (by omega), Bool.false_and]
  rw [e]
  simp
theorem isL_pad (r : List ByteArray) (s : ByteArray) (hs : s ∈ r) (m : Nat) (hm : ∀ t, t ∈ r → t.size ≤ m) : ∀ e, isL r (m + e) s = isL r m s
  | 0 => rfl
  | e + 1 => by
    rw [← isL_pad r s hs m hm e, Bool.eq_iff_iff, isL_iff, isL_iff]
    constructor
    · intro h t ht
      have := h t ht
      rw [← Nat.add_assoc, val_pad s (m + e) (by have := hm s hs; omega), val_pad t (m + e) (by have := hm t ht; omega)] at this
      omega
    · intro h t ht
      have := h t ht
      rw [← Nat.add_assoc, val_pad s (m + e) (by have := hm s hs; omega), val_pad t (m + e) (by have := hm t ht; omega)]
      omega
def ren (w : Nat) (x : Int) : Int := if x > (w : Int) then x - 1 else x
theorem mem_rest (l : List ByteArray) (w : Nat) (hw : w < l.length) (t : ByteArray) : t ∈ l ↔ t = l[w] ∨ t ∈ l.eraseIdx w := by
  have e : l = l.take w ++ l[w] :: l.drop (w + 1) := by rw [← List.drop_eq_getElem_cons hw, List.take_append_drop]
  rw [List.eraseIdx_eq_take_drop_succ]
  constructor
  · intro h
    rw [e] at h
    simp only [List.mem_append, List.mem_cons] at h ⊢
    rcases h with h | h | h
    · exact Or.inr (Or.inl h)
    · exact Or.inl h
    · exact Or.inr (Or.inr h)
  · intro h
    rw [e]
    simp only [List.mem_append, List.mem_cons] at h ⊢
    rcases h with h | h | h
    · exact Or.inr (Or.inl h)
    · exact Or.inl h
    · exact Or.inr (Or.inr h)
theorem rest_len (l : List ByteArray) (w : Nat) (hw : w < l.length) : (l.eraseIdx w).length = l.length - 1 := by rw [List.length_eraseIdx, if_pos hw]
theorem isL_rest (l : List ByteArray) (w : Nat) (hw : w < l.length) (n : Nat) (hl : isL l n l[w] = false) (s : ByteArray) : isL (l.eraseIdx w) n s = isL l n s := by
  rw [Bool.eq_iff_iff, isL_iff, isL_iff]
  constructor
  · intro h t ht
    rcases (mem_rest l w hw t).mp ht with rfl | h2
    · have hx : ¬ ∀ t, t ∈ l → val l[w] n ≤ val t n := by rw [← isL_iff, hl]; decide
      simp only [Classical.not_forall] at hx
      obtain ⟨u, hu, hlt⟩ := hx
      rcases (mem_rest l w hw u).mp hu with rfl | h3
      · omega
      · have := h u h3; omega
    · exact h t h2
  · intro h t ht
    exact h t ((mem_rest l w hw t).mpr (Or.inr ht))
theorem iota_map (P P' : Int → Bool) (w len : Nat) (hw : w < len) (h1 : ∀ x : Nat, x < w → P x = P' x) (h2 : P w = false) (h3 : ∀ x : Nat, w ≤ x → x + 1 < len → P ((x + 1 : Nat) : Int) = P' x) : ∀ n, n ≤ len → (n ≤ w → ((iotaL n).filter P).map (ren w) = (iotaL n).filter P') ∧ (w < n → ((iotaL n).filter P).map (ren w) = (iotaL (n - 1)).filter P')
  | 0, _ => ⟨fun _ => rfl, fun h => absurd h (Nat.not_lt_zero _)⟩
  | n + 1, hn => by
    obtain ⟨ih1, ih2⟩ := iota_map P P' w len hw h1 h2 h3 n (by omega)
    constructor
    · intro h
      rw [iotaL, List.filter_append, List.filter_append, List.map_append, ih1 (by omega)]
      congr 1
      have e := h1 n (by omega)
      cases hp : P n with
      | true => rw [List.filter_cons_of_pos hp, List.filter_cons_of_pos (by rw [← e]; exact hp)]; show [ren w n] = [(n : Int)]; unfold ren; rw [if_neg (by omega)]
      | false => rw [List.filter_cons_of_neg (by rw [hp]; decide), List.filter_cons_of_neg (by rw [← e, hp]; decide)]; rfl
    · intro h
      rw [iotaL, List.filter_append, List.map_append, Nat.add_sub_cancel]
      by_cases he : n = w
      · subst he
        rw [ih1 (Nat.le_refl _), List.filter_cons_of_neg (by rw [h2]; decide)]
        exact List.append_nil _
      · obtain ⟨q, rfl⟩ : ∃ q, n = q + 1 := ⟨n - 1, by omega⟩
        rw [ih2 (by omega), Nat.add_sub_cancel, iotaL, List.filter_append]
        congr 1
        have e := h3 q (by omega) (by omega)
        cases hp : P ((q + 1 : Nat) : Int) with
        | true => rw [List.filter_cons_of_pos hp, List.filter_cons_of_pos (by rw [← e]; exact hp)]; show [ren w ((q + 1 : Nat) : Int)] = [(q : Int)]; unfold ren; rw [if_pos (by omega)]; congr 1; omega
        | false => rw [List.filter_cons_of_neg (by rw [hp]; decide), List.filter_cons_of_neg (by rw [← e, hp]; decide)]; rfl
theorem race_rest (l : List ByteArray) (w : Nat) (hw : w < l.length) (h : ¬ (w : Int) ∈ raceN l (lgN l)) : raceN (l.eraseIdx w) (lgN (l.eraseIdx w)) = (raceN l (lgN l)).map (ren w) := by
  have hlen := rest_len l w hw
  rw [race_eq] at h
  rw [race_eq, race_eq, hlen]
  have hL : isL l (lgN l) l[w] = false := by
    rw [List.mem_filter] at h
    have : ¬ isL l (lgN l) (rdOf ByteArray.empty l (w : Int)) = true := fun e => h ⟨mem_iota _ _ hw, e⟩
    rw [rd_nat l w hw] at this
    simpa using this
  have hlg : lgN (l.eraseIdx w) ≤ lgN l := lgN_le _ _ (fun s hs => lgN_mem l s ((mem_rest l w hw s).mpr (Or.inr hs)))
  have hP : ∀ s, s ∈ l.eraseIdx w → isL (l.eraseIdx w) (lgN (l.eraseIdx w)) s = isL l (lgN l) s := by
    intro s hs
    rw [← isL_rest l w hw (lgN l) hL s]
    have h2 := isL_pad (l.eraseIdx w) s hs (lgN (l.eraseIdx w)) (fun t ht => lgN_mem _ t ht) (lgN l - lgN (l.eraseIdx w))
    rw [show lgN (l.eraseIdx w) + (lgN l - lgN (l.eraseIdx w)) = lgN l by omega] at h2
    exact h2.symm
  have hm := (iota_map (fun i => isL l (lgN l) (rdOf ByteArray.empty l i)) (fun i => isL (l.eraseIdx w) (lgN (l.eraseIdx w)) (rdOf ByteArray.empty (l.eraseIdx w) i)) w l.length hw ?_ ?_ ?_ l.length (Nat.le_refl _)).2 hw
  · exact hm.symm
  · intro x hx
    have hx2 : x < (l.eraseIdx w).length := by omega
    show isL l _ _ = isL (l.eraseIdx w) _ _
    rw [hP _ (rd_mem _ _ (mem_iota _ _ hx2)), rd_nat l x (by omega), rd_nat _ x hx2, List.getElem_eraseIdx, dif_pos hx]
  · show isL l _ _ = false
    rw [rd_nat l w hw]
    exact hL
  · intro x hx1 hx
    have hx2 : x < (l.eraseIdx w).length := by omega
    show isL l _ _ = isL (l.eraseIdx w) _ _
    rw [hP _ (rd_mem _ _ (mem_iota _ _ hx2)), rd_nat l (x + 1) (by omega), rd_nat _ x hx2, List.getElem_eraseIdx, dif_neg (by omega)]
theorem out_l0 (r : List ByteArray) (w : Nat) (R : List Int) (hR : R.length ≤ 20) (hin : ∀ x, x ∈ R → 0 ≤ x ∧ x ≤ 1000) (hr : r.length ≤ 20) (hN : lgN r ≤ 800) (he : raceN r (lgN r) = R.map (ren w)) (K : Nat) (hal : ∀ k, K ≤ k → signalboxlaw09_alive.f k = some true) : ∀ (d k m : Nat), K + 1000 ≤ k → m + d = R.length →
    signalboxlaw09_ArbOut.l0 (k + (d + 1)) w r ((R.take m).map (ren w)) R (R.length : Int) m = some true
  | 0, k, m, hk, hm => by
    obtain rfl : m = R.length := by omega
    have hlt : ¬ (R.length : Int) < (R.length : Int) := Int.lt_irrefl _
    rw [show k + (0 + 1) = k + 1 from rfl, signalboxlaw09_ArbOut.l0, if_neg hlt, List.take_length, race_f r (by omega) (by omega) k (by omega), ob, he, ints_same _ (by rw [List.length_map]; omega) k (by rw [List.length_map]; omega), ob, if_pos rfl, hal k (by omega), ob]
  | d + 1, k, m, hk, hm => by
    have c1 : (m : Int) < (R.length : Int) := by omega
    have c2 : 0 ≤ (m : Int) := by omega
    have hm' : m < R.length := by omega
    have hx := rdI_mem' R m hm'
    obtain ⟨r0, r1⟩ := hin _ (List.getElem_mem hm')
    have ih := out_l0 r w R hR hin hr hN he K hal d k (m + 1) hk (by omega)
    rw [List.take_add_one, List.getElem?_eq_getElem hm', List.map_append] at ih
    have hl : ((R.take m).map (ren w)).length < 17592186044416 := by rw [List.length_map, List.length_take]; omega
    rw [show k + (d + 1 + 1) = (k + (d + 1)) + 1 by omega, signalboxlaw09_ArbOut.l0, if_pos c1, if_pos c2, if_pos c1, up1 m (by omega), hx, if_pos hl, if_pos hl, w64 (by omega) (by omega)]
    have e : (Option.map (ren w) (some R[m])).toList = [if R[m] > (w : Int) then R[m] - 1 else R[m]] := rfl
    have e2 : List.map (ren w) (some R[m]).toList = [if R[m] > (w : Int) then R[m] - 1 else R[m]] := rfl
    rw [e2] at ih
    split
    · rename_i h; rw [if_pos h] at ih; exact ih
    · rename_i h; rw [if_neg h] at ih; exact ih
theorem ArbOutL : signalboxlaw09_ArbOut.Pure := by
  intro l a1 _ _ _ hw
  have hw := wf_i64 hw
  obtain ⟨K, hal⟩ := alive_k
  obtain ⟨M, hM⟩ : ∃ M, M = K + 100000 := ⟨_, rfl⟩
  refine ⟨M + 1, ?_⟩
  have ha := hal M (by omega)
  have hT : signalboxlaw09_ArbOut.j0 (M + 1) l a1 true = some true := by rw [signalboxlaw09_ArbOut.j0, if_pos rfl, ha, ob]
  unfold signalboxlaw09_ArbOut.f
  rw [few_eq l (M + 1) (by omega), ob]
  by_cases h : l.length ≤ 20 ∧ sumT l (min l.length 21) ≤ 800
  · have hd : decide (l.length ≤ 20 ∧ sumT l (min l.length 21) ≤ 800) = true := decide_eq_true h
    have hN := few_lg l h.1 h.2
    rw [hd, if_pos rfl]
    split
    · exact hT
    rename_i hn
    by_cases hge : a1 ≥ (l.length : Int)
    · rw [decide_eq_true hge]; exact hT
    rw [decide_eq_false hge, signalboxlaw09_ArbOut.j0, if_neg (by decide)]
    obtain ⟨w, rfl⟩ : ∃ w : Nat, a1 = w := ⟨a1.toNat, by omega⟩
    have hwl : w < l.length := by omega
    have hrl := raceN_len l (lgN l)
    have hlen := rest_len l w hwl
    rw [race_f l (by omega) (by omega) M (by omega), ob, in_eq _ (by omega) _ M (by omega), ob]
    by_cases hin : (w : Int) ∈ raceN l (lgN l)
    · rw [decide_eq_true hin, if_pos rfl, ha, ob]
    · rw [decide_eq_false hin, if_neg (by decide), ob, if_pos (by omega), if_pos (by omega), w64 (by omega) (by omega), Int.toNat_natCast, if_pos (by simp only [List.length_nil, List.length_take]; omega), ob, if_pos (by omega), if_pos (by omega),
        if_pos (by simp only [List.nil_append, List.length_take, List.length_drop]; omega), List.nil_append, show ((w : Int) + 1).toNat = w + 1 by omega, ← List.eraseIdx_eq_take_drop_succ]
      have hlg : lgN (l.eraseIdx w) ≤ lgN l := lgN_le _ _ (fun s hs => lgN_mem l s ((mem_rest l w hwl s).mpr (Or.inr hs)))
      have h0 := out_l0 (l.eraseIdx w) w (raceN l (lgN l)) (by omega) (fun x hx => by have := raceN_mem l (lgN l) x hx; omega) (by omega) (by omega) (race_rest l w hwl hin) K hal (raceN l (lgN l)).length (M - ((raceN l (lgN l)).length + 1)) 0 (by omega) (by omega)
      rw [show M - ((raceN l (lgN l)).length + 1) + ((raceN l (lgN l)).length + 1) = M by omega] at h0
      exact h0
  · have hd : decide (l.length ≤ 20 ∧ sumT l (min l.length 21) ≤ 800) = false := decide_eq_false h
    rw [hd, if_neg (by decide)]
    exact hT

theorem ArbOut : signalboxlaw09_ArbOut.Pure := ArbOutL

end Go.Proofs.Ytlhglkmiclcbcaa.Pure
