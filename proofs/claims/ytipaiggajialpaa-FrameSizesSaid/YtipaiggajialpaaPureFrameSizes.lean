/- FrameSizes: each of the lengths has its code, each code its length, and every number the least length that holds it. Conditions: none beyond the statement's own. -/
import Derived.Test.YtipaiggajialpaaPFrameSizesx4
namespace Go.Proofs.Ytipaiggajialpaa.Pure
open Go.RowKit Go.Proofs.Ytipaiggajialpaa.PFrameSizes Go.Proofs.YtipaiggajialpaaW.PrintWords Go.Proofs.YtipaiggajialpaaW.PrintLast
set_option linter.unusedVariables false
set_option linter.unusedSimpArgs false

theorem wf_i64 {n : Int} (h : (Lit.int .i64 n).wf = true) : -9223372036854775808 ≤ n ∧ n ≤ 9223372036854775807 := by
  simp only [Lit.wf, Bool.and_eq_true, decide_eq_true_eq] at h
  exact h
theorem wf_u32 {n : Int} (h : (Lit.int .u32 n).wf = true) : 0 ≤ n ∧ n ≤ 4294967295 := by
  simp only [Lit.wf, Bool.and_eq_true, decide_eq_true_eq] at h
  exact h
theorem wf_i32 {n : Int} (h : (Lit.int .i32 n).wf = true) : -2147483648 ≤ n ∧ n ≤ 2147483647 := by
  simp only [Lit.wf, Bool.and_eq_true, decide_eq_true_eq] at h
  exact h
theorem w64 {n : Int} (h0 : -9223372036854775808 ≤ n) (h1 : n ≤ 9223372036854775807) : wrap64 n = n := by unfold wrap64; omega

theorem bt_size {s : ByteArray} {i : Nat} (h : i < s.size) : bt s (i : Int) = (s.data.toList[i]'(by rw [Array.length_toList]; exact h)).toNat := by
  have e := bt_at s (i : Int) (by simpa using h)
  rw [← e]
  simp
  rfl
theorem bt_none {s : ByteArray} {i : Int} (h : (s.size : Int) ≤ i) : bt s i = 0 := by
  unfold bt
  rw [dif_neg (by omega)]
theorem bt_num (l : List Int) (hl : ∀ x ∈ l, 0 ≤ x ∧ x ≤ 255) (i : Nat) (h : i < l.length) : bt (strOfNums l) i = l[i] := by
  have hs : i < (strOfNums l).size := by rw [strOfNums_size]; exact h
  rw [bt_size hs]
  have hx := hl l[i] (List.getElem_mem h)
  have : (strOfNums l).data.toList[i]'(by rw [Array.length_toList]; exact hs) = UInt8.ofNat (l[i]).toNat := by
    simp [strOfNums]
  rw [this]
  simp
  omega
theorem bytes_ext {s t : ByteArray} (hz : s.size = t.size) (h : ∀ i : Nat, i < s.size → bt s i = bt t i) : s = t := by
  have : s.data.toList = t.data.toList := by
    apply List.ext_getElem
    · rw [Array.length_toList, Array.length_toList]; exact hz
    · intro i h1 h2
      rw [Array.length_toList] at h1 h2
      have e := h i h1
      rw [bt_size h1, bt_size (show i < t.size from h2)] at e
      have e2 : (s.data.toList[i]).toNat = (t.data.toList[i]).toNat := by exact_mod_cast e
      exact UInt8.toNat_inj.mp e2
  obtain ⟨a⟩ := s
  obtain ⟨b⟩ := t
  have : a.toList = b.toList := this
  rw [Array.toList_inj.mp this]
theorem toList_inj' {s t : ByteArray} : s.toList = t.toList ↔ s = t := by
  constructor
  · intro h
    rw [ByteArray.toList_eq, ByteArray.toList_eq] at h
    obtain ⟨a⟩ := s
    obtain ⟨b⟩ := t
    have h : a.toList = b.toList := h
    rw [Array.toList_inj.mp h]
  · intro h; rw [h]
theorem str_beq (s t : ByteArray) : (s.toList == t.toList) = decide (s = t) := by
  rw [Bool.eq_iff_iff]
  simp [toList_inj']
/-- The comparison of two texts as the print has it, without 'toList' (which the kernel had better not unfold). -/
theorem ite_tl {α : Type} (x y : ByteArray) (p q : α) : (if x.toList = y.toList then p else q) = if x = y then p else q := by
  by_cases h : x = y
  · rw [if_pos h, if_pos (by rw [h])]
  · rw [if_neg h, if_neg (fun e => h (toList_inj'.mp e))]
theorem ite_tl0 {α : Type} (x : ByteArray) (p q : α) : (if x.toList = ([] : List UInt8) then p else q) = if x = ⟨#[]⟩ then p else q := by
  have e : (⟨#[]⟩ : ByteArray).toList = [] := by rw [ByteArray.toList_eq]
  by_cases h : x = ⟨#[]⟩
  · rw [if_pos h, if_pos (by rw [h, e])]
  · rw [if_neg h, if_neg (fun e2 => h (toList_inj'.mp (by rw [e2, e])))]

/-- 'Option.bind_some' as an equation that simp carries along (not by 'rfl': else the kernel unfolds what is bound). -/
theorem ob {α β : Type} (a : α) (f : α → Option β) : (some a).bind f = f a := by
  have h : (some a).bind f = f a := rfl
  exact h.symm.symm

theorem frst_step0 (p : Int → Bool) (i : Int) (x : Int) (l : List Int) : frst p i (x :: l) = if p x = true then (i, x, true) else frst p (i + 1) l := rfl
theorem frst_no (p : Int → Bool) (l : List Int) (i : Int) (h : (frst p i l).2.2 = false) : frst p i l = (0, 0, false) := by
  induction l generalizing i with
  | nil => rfl
  | cons x l ih =>
    rw [frst_step0] at h ⊢
    by_cases hb : p x = true
    · rw [if_pos hb] at h; exact absurd h (by simp)
    · rw [if_neg hb] at h ⊢; exact ih _ h
theorem frst_pos (p : Int → Bool) (l : List Int) (hl : ∀ x ∈ l, 0 ≤ x) (i : Int) (hi : 0 ≤ i) : 0 ≤ (frst p i l).1 ∧ 0 ≤ (frst p i l).2.1 := by
  induction l generalizing i with
  | nil => exact ⟨Int.le_refl 0, Int.le_refl 0⟩
  | cons x l ih =>
    rw [frst_step0]
    split
    · exact ⟨hi, hl x (by simp)⟩
    · exact ih (fun y hy => hl y (by simp [hy])) (i + 1) (by omega)
theorem szL_pos : ∀ x ∈ szL, 0 ≤ x := by decide
theorem rcode_l0 (len : Int) (d : Nat) : ∀ (k j : Nat), j + d = 16 → d + 1 ≤ k →
    signalboxref02_Code.l0 k len szL j = some (if (frst (fun x => x == len) j (szL.drop j)).2.2 = true then (frst (fun x => x == len) j (szL.drop j)).1 else -1) := by
  induction d with
  | zero =>
    intro k j hj hk
    obtain ⟨k, rfl⟩ : ∃ m, k = m + 1 := ⟨k - 1, by omega⟩
    obtain rfl : j = 16 := by omega
    rfl
  | succ d ih =>
    intro k j hj hk
    obtain ⟨k, rfl⟩ : ∃ m, k = m + 1 := ⟨k - 1, by omega⟩
    have ih := ih k (j + 1) (by omega) (by omega)
    rw [frst_step _ j (by omega)]
    have e : wrap64 ((j : Int) + 1) = ((j + 1 : Nat) : Int) := by unfold wrap64; omega
    have er : rd szL (j : Int) = szAt j := by
      have : j < szL.length := by show j < 16; omega
      simp [rd, szAt]
    have el : (szL.length : Int) = 16 := rfl
    simp only [signalboxref02_Code.l0, e, ih, er, el]
    rw [if_pos (by omega), if_pos (by omega)]
    by_cases h : szAt j = len
    · have hb : (szAt j == len) = true := by simpa using h
      simp only [if_pos h, hb, if_true]
    · have hb : (szAt j == len) = false := by simpa using h
      simp only [if_neg h, hb, Bool.false_eq_true, if_false]
theorem rfit_l0 (len : Int) (d : Nat) : ∀ (k j : Nat), j + d = 16 → d + 1 ≤ k →
    signalboxref02_Fit.l0 k len szL j = some (if 0 ≤ len ∧ (frst (fun x => decide (len ≤ x)) j (szL.drop j)).2.2 = true then (frst (fun x => decide (len ≤ x)) j (szL.drop j)).2.1 else -1) := by
  induction d with
  | zero =>
    intro k j hj hk
    obtain ⟨k, rfl⟩ : ∃ m, k = m + 1 := ⟨k - 1, by omega⟩
    obtain rfl : j = 16 := by omega
    simp only [signalboxref02_Fit.l0]
    rw [if_neg (by decide), if_neg]
    intro h
    exact absurd h.2 (by simp [szL, frst])
  | succ d ih =>
    intro k j hj hk
    obtain ⟨k, rfl⟩ : ∃ m, k = m + 1 := ⟨k - 1, by omega⟩
    have ih := ih k (j + 1) (by omega) (by omega)
    rw [frst_step _ j (by omega)]
    have e : wrap64 ((j : Int) + 1) = ((j + 1 : Nat) : Int) := by unfold wrap64; omega
    have er : rd szL (j : Int) = szAt j := by
      have : j < szL.length := by show j < 16; omega
      simp [rd, szAt]
    have el : (szL.length : Int) = 16 := rfl
    simp only [signalboxref02_Fit.l0, e, ih, er, el]
    rw [if_pos (by omega)]
    by_cases hn : len ≥ 0
    · rw [if_pos hn, if_pos (by omega)]
      by_cases h : szAt j ≥ len
      · have hb : decide (len ≤ szAt j) = true := by simpa using h
        simp only [if_pos h, hb, if_true, and_true]
        rw [if_pos (by omega)]
      · have hb : decide (len ≤ szAt j) = false := by simpa using h
        simp only [if_neg h, hb, Bool.false_eq_true, if_false]
    · rw [if_neg hn, if_neg (fun h => hn h.1), if_neg (fun h => hn h.1)]
/-- What the document answers. -/
def cd (len : Int) : Int := if (frst (fun x => x == len) 0 szL).2.2 = true then (frst (fun x => x == len) 0 szL).1 else -1
def ft (len : Int) : Int := if 0 ≤ len ∧ (frst (fun x => decide (len ≤ x)) 0 szL).2.2 = true then (frst (fun x => decide (len ≤ x)) 0 szL).2.1 else -1
theorem rcode_eq (k : Nat) (hk : 20 ≤ k) (len : Int) : signalboxref02_Code.f k len = some (cd len) := by
  simp only [signalboxref02_Code.f, signalboxref02_Sizes.f, ob]
  exact rcode_l0 len 16 k 0 (by omega) (by omega)
theorem rfit_eq (k : Nat) (hk : 20 ≤ k) (len : Int) : signalboxref02_Fit.f k len = some (ft len) := by
  simp only [signalboxref02_Fit.f, signalboxref02_Sizes.f, ob]
  exact rfit_l0 len 16 k 0 (by omega) (by omega)
theorem code_some (len : Int) : ∃ c b, frame_Code.f len = some (c, b) ∧ (b = true → c = cd len ∧ 0 ≤ c) ∧ (b = false → c = 0 ∧ cd len = -1) := by
  refine ⟨_, _, rfl, ?_, ?_⟩
  · intro h
    exact ⟨by unfold cd; rw [if_pos h], (frst_pos _ _ szL_pos 0 (by decide)).1⟩
  · intro h
    exact ⟨by rw [frst_no _ _ _ h], by unfold cd; rw [if_neg (by rw [h]; decide)]⟩
theorem fit_some (len : Int) : ∃ c b, frame_Fit.f len = some (c, b) ∧ (b = true → c = ft len ∧ 0 ≤ c) ∧ (b = false → c = 0 ∧ ft len = -1) := by
  unfold frame_Fit.f ft
  by_cases hn : len < 0
  · rw [if_pos hn]
    refine ⟨0, false, rfl, fun h => absurd h (by decide), fun _ => ⟨rfl, if_neg (by omega)⟩⟩
  · rw [if_neg hn]
    refine ⟨_, _, rfl, ?_, ?_⟩
    · intro h
      exact ⟨by rw [if_pos ⟨by omega, h⟩], (frst_pos _ _ szL_pos 0 (by decide)).2⟩
    · intro h
      exact ⟨by rw [frst_no _ _ _ h], if_neg (by rw [h]; intro h; exact absurd h.2 (by decide))⟩
theorem code_size : ∀ j : Fin 16, frame_Code.f (szAt j.val) = some ((j.val : Int), true) := by decide +kernel
theorem alive_k : ∃ K, ∀ k, K ≤ k → signalboxlaw02_alive.f k = some true :=
  Ev.of signalboxlaw02_alive.mono (k := 20) (by decide +kernel)

theorem sz_j2 (k : Nat) (len s : Int) (b : Bool) (h : b = true → frame_Code.f s = some (len, true)) (hA : ∀ m, k ≤ m + 3 → signalboxlaw02_alive.f m = some true) (hk : 5 ≤ k) : signalboxlaw02_FrameSizes.j2 k len s b false = some true := by
  obtain ⟨k, rfl⟩ : ∃ m, k = m + 1 := ⟨k - 1, by omega⟩
  simp only [signalboxlaw02_FrameSizes.j2, hA k (by omega), ob, Bool.false_eq_true, if_false]
  cases b with
  | true => rw [if_pos rfl, h rfl, ob]; simp
  | false => rw [if_neg (by decide)]
theorem sz_j1 (k : Nat) (len s : Int) (b : Bool) (h : b = true → frame_Code.f s = some (len, true)) (hA : ∀ m, k ≤ m + 4 → signalboxlaw02_alive.f m = some true) (hk : 30 ≤ k) : signalboxlaw02_FrameSizes.j1 k len s b false = some true := by
  obtain ⟨k, rfl⟩ : ∃ m, k = m + 1 := ⟨k - 1, by omega⟩
  obtain ⟨c, f, e, h1, h2⟩ := fit_some len
  have hj := sz_j2 k len s b h (fun m hm => hA m (by omega)) (by omega)
  simp only [signalboxlaw02_FrameSizes.j1, e, rfit_eq k (by omega), ob, Bool.false_eq_true, if_false]
  cases f with
  | true =>
    obtain ⟨rfl, hc⟩ := h1 rfl
    rw [decide_eq_true hc, if_neg (by decide), if_pos rfl, if_pos rfl, hj]
  | false =>
    obtain ⟨rfl, hc⟩ := h2 rfl
    rw [hc, if_neg (by decide), if_neg (by decide)]
    exact hj
theorem sz_j0 (k : Nat) (len : Int) (hA : ∀ m, k ≤ m + 5 → signalboxlaw02_alive.f m = some true) (hk : 40 ≤ k) : signalboxlaw02_FrameSizes.j0 k len false = some true := by
  obtain ⟨k, rfl⟩ : ∃ m, k = m + 1 := ⟨k - 1, by omega⟩
  have hj := fun s b h => sz_j1 k len s b h (fun m hm => hA m (by omega)) (by omega)
  simp only [signalboxlaw02_FrameSizes.j0, frame_Size.f, signalboxref02_Sizes.f, ob, Bool.false_eq_true, if_false]
  by_cases h0 : len ≥ 0
  · rw [if_pos h0]
    by_cases h1 : len < 16
    · have hs : ¬ (len < 0 ∨ 16 ≤ len) := by omega
      simp only [if_neg hs, decide_eq_true h1]
      have hr : rd szL len = szAt len.toNat := rfl
      have hl : ((szL.length : Nat) : Int) = 16 := rfl
      have hc := code_size ⟨len.toNat, by omega⟩
      have hn : ((len.toNat : Nat) : Int) = len := by omega
      simp only [hn] at hc
      rw [if_neg (by decide), if_pos trivial, if_pos (by omega)]
      refine (if_pos (by show len < ((szL.length : Nat) : Int); omega)).trans ?_
      exact (if_pos hr.symm).trans (hj _ _ (fun _ => hc))
    · have hs : (len < 0 ∨ 16 ≤ len) := by omega
      simp only [if_pos hs, decide_eq_false h1]
      exact hj _ _ (fun h => absurd h (by decide))
  · have hs : (len < 0 ∨ 16 ≤ len) := by omega
    rw [if_neg h0]
    simp only [if_pos hs]
    exact hj _ _ (fun h => absurd h (by decide))
theorem FrameSizes : signalboxlaw02_FrameSizes.Pure := by
  intro len hlen
  obtain ⟨K, hK⟩ := alive_k
  obtain ⟨M, hM⟩ : ∃ M, M = K + 5000 := ⟨_, rfl⟩
  refine ⟨M, ?_⟩
  have hj := sz_j0 M len (fun m hm => hK m (by omega)) (by omega)
  obtain ⟨c, f, e, h1, h2⟩ := code_some len
  simp only [signalboxlaw02_FrameSizes.f, e, rcode_eq M (by omega), ob]
  cases f with
  | true =>
    obtain ⟨rfl, hc⟩ := h1 rfl
    rw [decide_eq_true hc, if_neg (by decide), if_pos rfl, if_pos rfl, hj]
  | false =>
    obtain ⟨rfl, hc⟩ := h2 rfl
    rw [hc, if_neg (by decide), if_neg (by decide)]
    exact hj

end Go.Proofs.Ytipaiggajialpaa.Pure
