/- OctetHex: any bytes as digits, and the bytes of any digits, are as the document says. Conditions: none beyond the statement's own. -/
import Derived.Test.YtooadablecjpdaaPOctetHexx3
namespace Go.Proofs.Ytooadablecjpdaa.Pure
open Go.RowKit Go.Proofs.Ytooadablecjpdaa.POctetHex Go.Proofs.YtooadablecjpdaaW.PrintWords Go.Proofs.YtooadablecjpdaaW.PrintLast
set_option linter.unusedVariables false
set_option linter.unusedSimpArgs false

theorem wf_i64 {n : Int} (h : (Lit.int .i64 n).wf = true) : -9223372036854775808 ≤ n ∧ n ≤ 9223372036854775807 := by
  simp only [Lit.wf, Bool.and_eq_true, decide_eq_true_eq] at h
  exact h
theorem wf_u32 {n : Int} (h : (Lit.int .u32 n).wf = true) : 0 ≤ n ∧ n ≤ 4294967295 := by
  simp only [Lit.wf, Bool.and_eq_true, decide_eq_true_eq] at h
  exact h
theorem wf_i32 {n : Int} (h : (Lit.int .i32 n).wf = true) : -2147483648 ≤ n ∧ n ≤ 2147483647 := by
  simp only [Lit.wf, Bool.and_eq_true, decide_eq_true_eq] at h
  exact h
theorem w64 {n : Int} (h0 : -9223372036854775808 ≤ n) (h1 : n ≤ 9223372036854775807) : wrap64 n = n := by unfold wrap64; omega

theorem alive_k : ∃ K, ∀ k, K ≤ k → signalboxlaw01_alive.f k = some true :=
  Ev.of signalboxlaw01_alive.mono (k := 20) (by decide +kernel)

theorem bt_size {s : ByteArray} {i : Nat} (h : i < s.size) : bt s (i : Int) = (s.data.toList[i]'(by rw [Array.length_toList]; exact h)).toNat := by
  have e := bt_at s (i : Int) (by simpa using h)
  rw [← e]
  simp
  rfl
theorem bt_none {s : ByteArray} {i : Int} (h : (s.size : Int) ≤ i) : bt s i = 0 := by
  unfold bt
  rw [dif_neg (by omega)]
theorem bt_num (l : List Int) (hl : ∀ x ∈ l, 0 ≤ x ∧ x ≤ 255) (i : Nat) (h : i < l.length) : bt (strOfNums l) i = l[i] := by
  have hs : i < (strOfNums l).size := by rw [strOfNums_size]; exact h
  rw [bt_size hs]
  have hx := hl l[i] (List.getElem_mem h)
  have : (strOfNums l).data.toList[i]'(by rw [Array.length_toList]; exact hs) = UInt8.ofNat (l[i]).toNat := by
    simp [strOfNums]
  rw [this]
  simp
  omega
theorem bytes_ext {s t : ByteArray} (hz : s.size = t.size) (h : ∀ i : Nat, i < s.size → bt s i = bt t i) : s = t := by
  have : s.data.toList = t.data.toList := by
    apply List.ext_getElem
    · rw [Array.length_toList, Array.length_toList]; exact hz
    · intro i h1 h2
      rw [Array.length_toList] at h1 h2
      have e := h i h1
      rw [bt_size h1, bt_size (show i < t.size from h2)] at e
      have e2 : (s.data.toList[i]).toNat = (t.data.toList[i]).toNat := by exact_mod_cast e
      exact UInt8.toNat_inj.mp e2
  obtain ⟨a⟩ := s
  obtain ⟨b⟩ := t
  have : a.toList = b.toList := this
  rw [Array.toList_inj.mp this]
theorem toList_inj' {s t : ByteArray} : s.toList = t.toList ↔ s = t := by
  constructor
  · intro h
    rw [ByteArray.toList_eq, ByteArray.toList_eq] at h
    obtain ⟨a⟩ := s
    obtain ⟨b⟩ := t
    have h : a.toList = b.toList := h
    rw [Array.toList_inj.mp h]
  · intro h; rw [h]
theorem str_beq (s t : ByteArray) : (s.toList == t.toList) = decide (s = t) := by
  rw [Bool.eq_iff_iff]
  simp [toList_inj']
/-- The comparison of two texts as the print has it, without 'toList' (which the kernel had better not unfold). -/
theorem ite_tl {α : Type} (x y : ByteArray) (p q : α) : (if x.toList = y.toList then p else q) = if x = y then p else q := by
  by_cases h : x = y
  · rw [if_pos h, if_pos (by rw [h])]
  · rw [if_neg h, if_neg (fun e => h (toList_inj'.mp e))]
theorem ite_tl0 {α : Type} (x : ByteArray) (p q : α) : (if x.toList = ([] : List UInt8) then p else q) = if x = ⟨#[]⟩ then p else q := by
  have e : (⟨#[]⟩ : ByteArray).toList = [] := by rw [ByteArray.toList_eq]
  by_cases h : x = ⟨#[]⟩
  · rw [if_pos h, if_pos (by rw [h, e])]
  · rw [if_neg h, if_neg (fun e2 => h (toList_inj'.mp (by rw [e2, e])))]

/-- 'Option.bind_some' as an equation that simp carries along (not by 'rfl': else the kernel unfolds what is bound). -/
theorem ob {α β : Type} (a : α) (f : α → Option β) : (some a).bind f = f a := by
  have h : (some a).bind f = f a := rfl
  exact h.symm.symm

theorem rdigit_eq (k : Nat) (hk : 2 ≤ k) (c : Int) (h0 : 0 ≤ c) (h1 : c ≤ 255) : signalboxref01_Digit.f k c = some (dgt c) := by
  obtain ⟨k, rfl⟩ : ∃ m, k = m + 1 + 1 := ⟨k - 2, by omega⟩
  have e0 : wrap64 c = c := by unfold wrap64; omega
  have e1 : wrap64 (c - 48) = c - 48 := by unfold wrap64; omega
  have e2 : wrap64 (c - 55) = c - 55 := by unfold wrap64; omega
  have e3 : wrap64 (c - 87) = c - 87 := by unfold wrap64; omega
  simp only [signalboxref01_Digit.f, signalboxref01_Digit.j0, signalboxref01_Digit.j1, e0, e1, e2, e3]
  by_cases q1 : 48 ≤ c ∧ c ≤ 57
  · have hv : dgt c = c - 48 := by unfold dgt; rw [if_pos q1]
    rw [if_pos q1.1, hv, if_pos (by simpa using q1.2)]
  by_cases q2 : 65 ≤ c ∧ c ≤ 70
  · have hv : dgt c = c - 55 := by unfold dgt; rw [if_neg q1, if_pos q2]
    rw [if_pos (by omega), if_neg (by simp; omega), if_pos q2.1, hv, if_pos (by simpa using q2.2)]
  by_cases q3 : 97 ≤ c ∧ c ≤ 102
  · have hv : dgt c = c - 87 := by unfold dgt; rw [if_neg q1, if_neg q2, if_pos q3]
    rw [if_pos (by omega), if_neg (by simp; omega), if_pos (by omega), if_neg (by simp; omega), if_pos q3.1, if_pos q3.2, hv]
  have hv : dgt c = 16 := by unfold dgt; rw [if_neg q1, if_neg q2, if_neg q3]
  rw [hv]
  by_cases a : c ≥ 48
  · rw [if_pos a, if_neg (by simp; omega)]
    by_cases b : c ≥ 65
    · rw [if_pos b, if_neg (by simp; omega)]
      by_cases d : c ≥ 97
      · rw [if_pos d, if_neg (by omega)]
      · rw [if_neg d]
    · rw [if_neg b, if_neg (by decide), if_neg (by omega)]
  · rw [if_neg a, if_neg (by decide), if_neg (by omega), if_neg (by decide), if_neg (by omega)]

def sgn (d : Int) : Int := if d < 10 then 48 + d else 55 + d
def hexL (s : ByteArray) : Nat → List Int
  | 0 => []
  | n + 1 => hexL s n ++ [sgn (bt s n / 16), sgn (bt s n % 16)]
theorem hexL_len (s : ByteArray) : ∀ n, (hexL s n).length = 2 * n
  | 0 => rfl
  | n + 1 => by simp [hexL, hexL_len s n]; omega
theorem tab16 : ∀ d : Fin 16, bt (⟨#[48, 49, 50, 51, 52, 53, 54, 55, 56, 57, 65, 66, 67, 68, 69, 70]⟩ : ByteArray) (d.val : Int) = sgn d.val := by decide +kernel
theorem tab_sgn (d : Int) (h0 : 0 ≤ d) (h1 : d < 16) : bt (⟨#[48, 49, 50, 51, 52, 53, 54, 55, 56, 57, 65, 66, 67, 68, 69, 70]⟩ : ByteArray) d = sgn d := by
  have := tab16 ⟨d.toNat, by omega⟩
  have e : (d.toNat : Int) = d := by omega
  simpa only [e] using this
theorem hex_l0 (s : ByteArray) (hs : s.size ≤ 1000000) (d : Nat) : ∀ (k j : Nat), j ≤ s.size → s.size - j = d → d < k →
    octet_Hex.l0 k s (hexL s j) s.size j = some (strOfNums (hexL s s.size)) := by
  induction d with
  | zero =>
    intro k j hj hd hk
    obtain ⟨k, rfl⟩ : ∃ m, k = m + 1 := ⟨k - 1, by omega⟩
    obtain rfl : j = s.size := by omega
    simp only [octet_Hex.l0]
    rw [if_neg (by omega)]
  | succ d ih =>
    intro k j hj hd hk
    obtain ⟨k, rfl⟩ : ∃ m, k = m + 1 := ⟨k - 1, by omega⟩
    have hb : 0 ≤ bt s (j : Int) ∧ bt s (j : Int) ≤ 255 := bt_range s (j : Int)
    have ha : Go.bits .and .u8 (bt s (j : Int)) 15 = bt s (j : Int) % 16 := u8_and15 _ hb.1 (by omega)
    have hl := hexL_len s j
    simp only [octet_Hex.l0, ha]
    rw [if_pos (by omega), if_pos (by omega), if_pos (by omega), if_pos (by omega), if_pos (by omega), if_pos (by omega), if_pos (by omega)]
    simp only [Option.bind_some]
    rw [if_pos (by simp [hl]; omega), tab_sgn _ (by omega) (by omega), tab_sgn _ (by omega) (by omega)]
    rw [show wrap64 ((j : Int) + 1) = ((j + 1 : Nat) : Int) by unfold wrap64; omega]
    exact ih k (j + 1) (by omega) (by omega) (by omega)
theorem hex_eq (s : ByteArray) (hs : s.size ≤ 1000000) (k : Nat) (hk : s.size < k) : octet_Hex.f k s = some (strOfNums (hexL s s.size)) :=
  hex_l0 s hs s.size k 0 (by omega) (by omega) (by omega)
theorem uhx_form (s : ByteArray) : ∀ j x, uhx s j = some x → 2 * x.1.length + (if x.2.2 = true then 1 else 0) = j
  | 0, x, h => by
    simp only [uhx, Option.some.injEq] at h
    subst h
    rfl
  | j + 1, x, h => by
    simp only [uhx, Option.bind_eq_some_iff] at h
    obtain ⟨y, hy, h⟩ := h
    have ih := uhx_form s j y hy
    split at h
    · cases h
    · split at h
      · rename_i hh
        rw [if_pos hh] at ih
        obtain rfl := Option.some.inj h
        simp
        omega
      · rename_i hh
        rw [if_neg hh] at ih
        obtain rfl := Option.some.inj h
        simp
        omega

theorem strOfNums_append (a b : List Int) : strOfNums a ++ strOfNums b = strOfNums (a ++ b) := by
  simp only [strOfNums, List.map_append]
  exact (ByteArray.ext (by simp)).symm
theorem sign_eq (d : Int) (h0 : 0 ≤ d) (h1 : d < 16) : signalboxref01_Sign.f d = some (strOfNums [sgn d]) := by
  unfold signalboxref01_Sign.f sgn
  by_cases h : d < 10
  · rw [if_pos h, if_pos h, w64 (by omega) (by omega)]
    congr 3
    omega
  · rw [if_neg h, if_neg h, w64 (by omega) (by omega)]
    congr 3
    omega
theorem rhex_l0 (s : ByteArray) (hs : s.size ≤ 1000000) (d : Nat) : ∀ (k j : Nat), j ≤ s.size → s.size - j = d → d < k →
    signalboxref01_Hex.l0 k s (strOfNums (hexL s j)) j = some (strOfNums (hexL s s.size)) := by
  induction d with
  | zero =>
    intro k j hj hd hk
    obtain ⟨k, rfl⟩ : ∃ m, k = m + 1 := ⟨k - 1, by omega⟩
    obtain rfl : j = s.size := by omega
    simp only [signalboxref01_Hex.l0]
    rw [if_neg (by omega)]
  | succ d ih =>
    intro k j hj hd hk
    obtain ⟨k, rfl⟩ : ∃ m, k = m + 1 := ⟨k - 1, by omega⟩
    have hb : 0 ≤ bt s (j : Int) ∧ bt s (j : Int) ≤ 255 := bt_range s (j : Int)
    have hl := hexL_len s j
    have e0 : wrap64 (bt s (j : Int)) = bt s j := w64 (by omega) (by omega)
    have e1 : wrap64 (Int.tdiv (bt s (j : Int)) 16) = bt s j / 16 := by rw [Int.tdiv_eq_ediv_of_nonneg hb.1]; exact w64 (by omega) (by omega)
    have e2 : Int.tmod (bt s (j : Int)) 16 = bt s j % 16 := Int.tmod_eq_emod_of_nonneg hb.1
    simp only [signalboxref01_Hex.l0, e0, e1, e2]
    rw [if_pos (by omega), if_pos (by omega), sign_eq _ (by omega) (by omega), sign_eq _ (by omega) (by omega), ob, ob, strOfNums_append, strOfNums_append]
    rw [if_pos (by simp only [strOfNums_size, hl, List.length_cons, List.length_nil]; omega), if_pos (by simp only [strOfNums_size, List.length_append, hl, List.length_cons, List.length_nil]; omega)]
    rw [show wrap64 ((j : Int) + 1) = ((j + 1 : Nat) : Int) by unfold wrap64; omega]
    have := ih k (j + 1) (by omega) (by omega) (by omega)
    simp only [hexL] at this
    rw [List.append_assoc]
    exact this
theorem rhex_eq (s : ByteArray) (hs : s.size ≤ 1000000) (k : Nat) (hk : s.size < k) : signalboxref01_Hex.f k s = some (strOfNums (hexL s s.size)) := by
  have := rhex_l0 s hs s.size k 0 (by omega) (by omega) (by omega)
  have e : strOfNums (hexL s 0) = ⟨#[]⟩ := rfl
  rw [e] at this
  exact this
theorem runhex_l0 (s : ByteArray) (hs : s.size ≤ 1000000) (he : s.size % 2 = 0) (d : Nat) : ∀ (k j : Nat) (l : List Int) (hi : Int), 2 * j ≤ s.size → s.size - 2 * j = 2 * d → d + 3 < k → uhx s (2 * j) = some (l, hi, false) →
    signalboxref01_Unhex.l0 k s l ((2 * j : Nat) : Int) = octet_Unhex.f s := by
  induction d with
  | zero =>
    intro k j l hi hj hd hk hu
    obtain ⟨k, rfl⟩ : ∃ m, k = m + 1 := ⟨k - 1, by omega⟩
    have e : 2 * j = s.size := by omega
    simp only [signalboxref01_Unhex.l0]
    rw [w64 (by omega) (by omega), if_neg (by omega)]
    unfold octet_Unhex.f
    rw [if_pos (by omega), ← e, hu]
  | succ d ih =>
    intro k j l hi hj hd hk hu
    obtain ⟨k, rfl⟩ : ∃ m, k = m + 1 := ⟨k - 1, by omega⟩
    have hb : 0 ≤ bt s ((2 * j : Nat) : Int) ∧ bt s ((2 * j : Nat) : Int) ≤ 255 := bt_range s _
    have hb2 : 0 ≤ bt s ((2 * j + 1 : Nat) : Int) ∧ bt s ((2 * j + 1 : Nat) : Int) ≤ 255 := bt_range s _
    have hf := uhx_form s (2 * j) _ hu
    simp only [Bool.false_eq_true, if_false] at hf
    have bad : ∀ m, m ≤ s.size → uhx s m = none → octet_Unhex.f s = some (⟨#[]⟩, false) := by
      intro m hm hn
      have := uhx_none s m hn (s.size - m)
      rw [show m + (s.size - m) = s.size by omega] at this
      unfold octet_Unhex.f
      rw [if_pos (by omega), this]
    have e1 : wrap64 (((2 * j : Nat) : Int) + 1) = ((2 * j + 1 : Nat) : Int) := by unfold wrap64; omega
    have e2 : wrap64 (((2 * j : Nat) : Int) + 2) = ((2 * (j + 1) : Nat) : Int) := by unfold wrap64; omega
    simp only [signalboxref01_Unhex.l0, e1, e2]
    rw [if_pos (by omega), if_pos (by omega), if_pos (by omega), rdigit_eq k (by omega) _ hb.1 hb.2, ob, if_pos (by omega), rdigit_eq k (by omega) _ hb2.1 hb2.2, ob]
    by_cases h1 : dgt (bt s ((2 * j : Nat) : Int)) = 16
    · rw [if_pos (by omega), bad (2 * j + 1) (by omega) (by simp only [uhx, hu, ob, h1, if_true])]
    · have r1 := dgt_range _ h1
      rw [if_neg (by omega)]
      have hu1 : uhx s (2 * j + 1) = some (l, dgt (bt s ((2 * j : Nat) : Int)), true) := by
        show (uhx s (2 * j)).bind _ = _
        rw [hu, ob, if_neg h1]
        rfl
      by_cases h2 : dgt (bt s ((2 * j + 1 : Nat) : Int)) = 16
      · rw [if_pos (by omega), bad (2 * j + 1 + 1) (by omega) (by show (uhx s (2 * j + 1)).bind _ = _; rw [hu1, ob, if_pos h2])]
      · have r2 := dgt_range _ h2
        have hu2 : uhx s (2 * (j + 1)) = some (l ++ [16 * dgt (bt s ((2 * j : Nat) : Int)) + dgt (bt s ((2 * j + 1 : Nat) : Int))], dgt (bt s ((2 * j : Nat) : Int)), false) := by
          rw [show 2 * (j + 1) = 2 * j + 1 + 1 by omega, uhx, hu1, ob, if_neg h2]
          rfl
        rw [if_neg (by omega), if_pos (by omega), w64 (n := 16 * _) (by omega) (by omega), w64 (by omega) (by omega), show (16 * dgt (bt s ((2 * j : Nat) : Int)) + dgt (bt s ((2 * j + 1 : Nat) : Int))) % 256 = 16 * dgt (bt s ((2 * j : Nat) : Int)) + dgt (bt s ((2 * j + 1 : Nat) : Int)) by omega]
        exact ih k (j + 1) _ _ (by omega) (by omega) (by omega) hu2
theorem runhex_eq (s : ByteArray) (hs : s.size ≤ 1000000) (k : Nat) (hk : s.size + 4 < k) : signalboxref01_Unhex.f k s = octet_Unhex.f s := by
  unfold signalboxref01_Unhex.f
  by_cases h : ((s.size : Int) % 2) = 0
  · rw [if_pos h]
    exact runhex_l0 s hs (by omega) (s.size / 2) k 0 [] 0 (by omega) (by omega) (by omega) rfl
  · rw [if_neg h]
    unfold octet_Unhex.f
    rw [if_pos (by omega)]
    cases hu : uhx s s.size with
    | none => rfl
    | some x =>
      obtain ⟨l, hi, half⟩ := x
      have hf := uhx_form s s.size _ hu
      cases half with
      | true => rfl
      | false =>
        simp only [Bool.false_eq_true, if_false] at hf
        omega
theorem unhex_some (s : ByteArray) (hs : s.size ≤ 1000000) : ∃ x, octet_Unhex.f s = some x := by
  unfold octet_Unhex.f
  rw [if_pos (by omega)]
  exact ⟨_, rfl⟩
theorem law_k (s h : ByteArray) (x : ByteArray × Bool) (k : Nat) (hb : ¬ (s.size : Int) > 2000) (h1 : octet_Unhex.f s = some x) (h2 : signalboxref01_Unhex.f k s = some x) (h3 : octet_Hex.f k s = some h) (h4 : signalboxref01_Hex.f k s = some h)
    (ha : signalboxlaw01_alive.f k = some true) : signalboxlaw01_OctetHex.f k s = some true := by
  simp only [signalboxlaw01_OctetHex.f, ite_tl]
  rw [if_neg hb, h1, ob, h2, ob, h3, ob, h4, ob, if_pos rfl, if_pos rfl, if_pos (by simp), ha]
  rfl
theorem OctetHex : signalboxlaw01_OctetHex.Pure := by
  intro s hs
  obtain ⟨K, hK⟩ := alive_k
  obtain ⟨M, hF⟩ : ∃ M, M = K + 5000 := ⟨_, rfl⟩
  refine ⟨M, ?_⟩
  by_cases hb : (s.size : Int) > 2000
  · simp only [signalboxlaw01_OctetHex.f]
    rw [if_pos hb, hK _ (by omega)]
    rfl
  · obtain ⟨x, hx⟩ := unhex_some s (by omega)
    exact law_k s _ x M hb hx (by rw [runhex_eq s (by omega) M (by omega)]; exact hx) (hex_eq s (by omega) M (by omega)) (rhex_eq s (by omega) M (by omega)) (hK M (by omega))

end Go.Proofs.Ytooadablecjpdaa.Pure
