/- OctetBack: bytes as digits are these bytes again; digits that are read are as many as are told, twice as many as the bytes, and told again they are the same, but for small letters. Conditions: none beyond the statement's own. -/
import Derived.Test.YtooadablecjpdaaPOctetBackx2
namespace Go.Proofs.Ytooadablecjpdaa.Pure
open Go.RowKit Go.Proofs.Ytooadablecjpdaa.POctetBack Go.Proofs.YtooadablecjpdaaW.PrintWords Go.Proofs.YtooadablecjpdaaW.PrintLast
set_option linter.unusedVariables false
set_option linter.unusedSimpArgs false

theorem wf_i64 {n : Int} (h : (Lit.int .i64 n).wf = true) : -9223372036854775808 ≤ n ∧ n ≤ 9223372036854775807 := by
  simp only [Lit.wf, Bool.and_eq_true, decide_eq_true_eq] at h
  exact h
theorem wf_u32 {n : Int} (h : (Lit.int .u32 n).wf = true) : 0 ≤ n ∧ n ≤ 4294967295 := by
  simp only [Lit.wf, Bool.and_eq_true, decide_eq_true_eq] at h
  exact h
theorem wf_i32 {n : Int} (h : (Lit.int .i32 n).wf = true) : -2147483648 ≤ n ∧ n ≤ 2147483647 := by
  simp only [Lit.wf, Bool.and_eq_true, decide_eq_true_eq] at h
  exact h
theorem w64 {n : Int} (h0 : -9223372036854775808 ≤ n) (h1 : n ≤ 9223372036854775807) : wrap64 n = n := by unfold wrap64; omega

theorem alive_k : ∃ K, ∀ k, K ≤ k → signalboxlaw01_alive.f k = some true :=
  Ev.of signalboxlaw01_alive.mono (k := 20) (by decide +kernel)

theorem bt_size {s : ByteArray} {i : Nat} (h : i < s.size) : bt s (i : Int) = (s.data.toList[i]'(by rw [Array.length_toList]; exact h)).toNat := by
  have e := bt_at s (i : Int) (by simpa using h)
  rw [← e]
  simp
  rfl
theorem bt_none {s : ByteArray} {i : Int} (h : (s.size : Int) ≤ i) : bt s i = 0 := by
  unfold bt
  rw [dif_neg (by omega)]
theorem bt_num (l : List Int) (hl : ∀ x ∈ l, 0 ≤ x ∧ x ≤ 255) (i : Nat) (h : i < l.length) : bt (strOfNums l) i = l[i] := by
  have hs : i < (strOfNums l).size := by rw [strOfNums_size]; exact h
  rw [bt_size hs]
  have hx := hl l[i] (List.getElem_mem h)
  have : (strOfNums l).data.toList[i]'(by rw [Array.length_toList]; exact hs) = UInt8.ofNat (l[i]).toNat := by
    simp [strOfNums]
  rw [this]
  simp
  omega
theorem bytes_ext {s t : ByteArray} (hz : s.size = t.size) (h : ∀ i : Nat, i < s.size → bt s i = bt t i) : s = t := by
  have : s.data.toList = t.data.toList := by
    apply List.ext_getElem
    · rw [Array.length_toList, Array.length_toList]; exact hz
    · intro i h1 h2
      rw [Array.length_toList] at h1 h2
      have e := h i h1
      rw [bt_size h1, bt_size (show i < t.size from h2)] at e
      have e2 : (s.data.toList[i]).toNat = (t.data.toList[i]).toNat := by exact_mod_cast e
      exact UInt8.toNat_inj.mp e2
  obtain ⟨a⟩ := s
  obtain ⟨b⟩ := t
  have : a.toList = b.toList := this
  rw [Array.toList_inj.mp this]
theorem toList_inj' {s t : ByteArray} : s.toList = t.toList ↔ s = t := by
  constructor
  · intro h
    rw [ByteArray.toList_eq, ByteArray.toList_eq] at h
    obtain ⟨a⟩ := s
    obtain ⟨b⟩ := t
    have h : a.toList = b.toList := h
    rw [Array.toList_inj.mp h]
  · intro h; rw [h]
theorem str_beq (s t : ByteArray) : (s.toList == t.toList) = decide (s = t) := by
  rw [Bool.eq_iff_iff]
  simp [toList_inj']
/-- The comparison of two texts as the print has it, without 'toList' (which the kernel had better not unfold). -/
theorem ite_tl {α : Type} (x y : ByteArray) (p q : α) : (if x.toList = y.toList then p else q) = if x = y then p else q := by
  by_cases h : x = y
  · rw [if_pos h, if_pos (by rw [h])]
  · rw [if_neg h, if_neg (fun e => h (toList_inj'.mp e))]
theorem ite_tl0 {α : Type} (x : ByteArray) (p q : α) : (if x.toList = ([] : List UInt8) then p else q) = if x = ⟨#[]⟩ then p else q := by
  have e : (⟨#[]⟩ : ByteArray).toList = [] := by rw [ByteArray.toList_eq]
  by_cases h : x = ⟨#[]⟩
  · rw [if_pos h, if_pos (by rw [h, e])]
  · rw [if_neg h, if_neg (fun e2 => h (toList_inj'.mp (by rw [e2, e])))]

/-- 'Option.bind_some' as an equation that simp carries along (not by 'rfl': else the kernel unfolds what is bound). -/
theorem ob {α β : Type} (a : α) (f : α → Option β) : (some a).bind f = f a := by
  have h : (some a).bind f = f a := rfl
  exact h.symm.symm

def sgn (d : Int) : Int := if d < 10 then 48 + d else 55 + d
def hexL (s : ByteArray) : Nat → List Int
  | 0 => []
  | n + 1 => hexL s n ++ [sgn (bt s n / 16), sgn (bt s n % 16)]
theorem hexL_len (s : ByteArray) : ∀ n, (hexL s n).length = 2 * n
  | 0 => rfl
  | n + 1 => by simp [hexL, hexL_len s n]; omega
theorem tab16 : ∀ d : Fin 16, bt (⟨#[48, 49, 50, 51, 52, 53, 54, 55, 56, 57, 65, 66, 67, 68, 69, 70]⟩ : ByteArray) (d.val : Int) = sgn d.val := by decide +kernel
theorem tab_sgn (d : Int) (h0 : 0 ≤ d) (h1 : d < 16) : bt (⟨#[48, 49, 50, 51, 52, 53, 54, 55, 56, 57, 65, 66, 67, 68, 69, 70]⟩ : ByteArray) d = sgn d := by
  have := tab16 ⟨d.toNat, by omega⟩
  have e : (d.toNat : Int) = d := by omega
  simpa only [e] using this
theorem hex_l0 (s : ByteArray) (hs : s.size ≤ 1000000) (d : Nat) : ∀ (k j : Nat), j ≤ s.size → s.size - j = d → d < k →
    octet_Hex.l0 k s (hexL s j) s.size j = some (strOfNums (hexL s s.size)) := by
  induction d with
  | zero =>
    intro k j hj hd hk
    obtain ⟨k, rfl⟩ : ∃ m, k = m + 1 := ⟨k - 1, by omega⟩
    obtain rfl : j = s.size := by omega
    simp only [octet_Hex.l0]
    rw [if_neg (by omega)]
  | succ d ih =>
    intro k j hj hd hk
    obtain ⟨k, rfl⟩ : ∃ m, k = m + 1 := ⟨k - 1, by omega⟩
    have hb : 0 ≤ bt s (j : Int) ∧ bt s (j : Int) ≤ 255 := bt_range s (j : Int)
    have ha : Go.bits .and .u8 (bt s (j : Int)) 15 = bt s (j : Int) % 16 := u8_and15 _ hb.1 (by omega)
    have hl := hexL_len s j
    simp only [octet_Hex.l0, ha]
    rw [if_pos (by omega), if_pos (by omega), if_pos (by omega), if_pos (by omega), if_pos (by omega), if_pos (by omega), if_pos (by omega)]
    simp only [Option.bind_some]
    rw [if_pos (by simp [hl]; omega), tab_sgn _ (by omega) (by omega), tab_sgn _ (by omega) (by omega)]
    rw [show wrap64 ((j : Int) + 1) = ((j + 1 : Nat) : Int) by unfold wrap64; omega]
    exact ih k (j + 1) (by omega) (by omega) (by omega)
theorem hex_eq (s : ByteArray) (hs : s.size ≤ 1000000) (k : Nat) (hk : s.size < k) : octet_Hex.f k s = some (strOfNums (hexL s s.size)) :=
  hex_l0 s hs s.size k 0 (by omega) (by omega) (by omega)
theorem uhx_form (s : ByteArray) : ∀ j x, uhx s j = some x → 2 * x.1.length + (if x.2.2 = true then 1 else 0) = j
  | 0, x, h => by
    simp only [uhx, Option.some.injEq] at h
    subst h
    rfl
  | j + 1, x, h => by
    simp only [uhx, Option.bind_eq_some_iff] at h
    obtain ⟨y, hy, h⟩ := h
    have ih := uhx_form s j y hy
    split at h
    · cases h
    · split at h
      · rename_i hh
        rw [if_pos hh] at ih
        obtain rfl := Option.some.inj h
        simp
        omega
      · rename_i hh
        rw [if_neg hh] at ih
        obtain rfl := Option.some.inj h
        simp
        omega

theorem sgn_range (d : Int) (h0 : 0 ≤ d) (h1 : d < 16) : 0 ≤ sgn d ∧ sgn d ≤ 255 := by unfold sgn; split <;> omega
theorem dgt_sgn (d : Int) (h0 : 0 ≤ d) (h1 : d < 16) : dgt (sgn d) = d := by
  unfold sgn dgt
  by_cases h : d < 10
  · rw [if_pos h, if_pos (by omega)]; omega
  · rw [if_neg h, if_neg (by omega), if_pos (by omega)]; omega
theorem hexL_range (s : ByteArray) : ∀ n, ∀ x ∈ hexL s n, 0 ≤ x ∧ x ≤ 255
  | 0, x, h => by simp [hexL] at h
  | n + 1, x, h => by
    have hb : 0 ≤ bt s (n : Int) ∧ bt s (n : Int) ≤ 255 := bt_range s (n : Int)
    simp only [hexL, List.mem_append] at h
    rcases h with h | h
    · exact hexL_range s n x h
    · simp at h
      rcases h with rfl | rfl
      · exact sgn_range _ (by omega) (by omega)
      · exact sgn_range _ (by omega) (by omega)
theorem hexL_at (s : ByteArray) : ∀ n i (h : i < n), (hexL s n)[2 * i]'(by rw [hexL_len]; omega) = sgn (bt s i / 16) ∧ (hexL s n)[2 * i + 1]'(by rw [hexL_len]; omega) = sgn (bt s i % 16)
  | n + 1, i, h => by
    have hl := hexL_len s n
    by_cases hi : i < n
    · have ih := hexL_at s n i hi
      simp only [hexL]
      rw [List.getElem_append_left (by omega), List.getElem_append_left (by omega)]
      exact ih
    · obtain rfl : i = n := by omega
      simp only [hexL]
      rw [List.getElem_append_right (by omega), List.getElem_append_right (by omega)]
      simp [hl]
def bytesL (s : ByteArray) (n : Nat) : List Int := (List.range n).map fun (i : Nat) => bt s (i : Int)
theorem bytesL_all (s : ByteArray) : strOfNums (bytesL s s.size) = s := by
  have hr : ∀ x ∈ bytesL s s.size, 0 ≤ x ∧ x ≤ 255 := by
    intro x hx
    simp only [bytesL, List.mem_map] at hx
    obtain ⟨i, _, rfl⟩ := hx
    exact bt_range s (i : Int)
  have hz : (strOfNums (bytesL s s.size)).size = s.size := by simp [strOfNums_size, bytesL]
  refine bytes_ext hz (fun i hi => ?_)
  rw [hz] at hi
  rw [bt_num _ hr i (by simpa [bytesL] using hi)]
  simp [bytesL]
theorem uhx_hex (s : ByteArray) : ∀ j, j ≤ s.size → ∃ hi, uhx (strOfNums (hexL s s.size)) (2 * j) = some (bytesL s j, hi, false)
  | 0, _ => ⟨0, by simp [uhx, bytesL]⟩
  | j + 1, h => by
    obtain ⟨hi, ih⟩ := uhx_hex s j (by omega)
    have hb : 0 ≤ bt s (j : Int) ∧ bt s (j : Int) ≤ 255 := bt_range s (j : Int)
    have hl := hexL_len s s.size
    have hr := hexL_range s s.size
    have h1 := bt_num _ hr (2 * j) (by omega)
    have h2 := bt_num _ hr (2 * j + 1) (by omega)
    have ha := hexL_at s s.size j (by omega)
    rw [ha.1] at h1
    rw [ha.2] at h2
    have d1 : dgt (bt (strOfNums (hexL s s.size)) ((2 * j : Nat) : Int)) = bt s j / 16 := by rw [h1]; exact dgt_sgn _ (by omega) (by omega)
    have d2 : dgt (bt (strOfNums (hexL s s.size)) ((2 * j + 1 : Nat) : Int)) = bt s j % 16 := by rw [h2]; exact dgt_sgn _ (by omega) (by omega)
    refine ⟨bt s j / 16, ?_⟩
    show uhx _ (2 * j + 1 + 1) = _
    simp only [uhx]
    rw [ih]
    simp only [Option.bind_some]
    rw [d1, if_neg (by omega), if_neg (by decide)]
    simp only [Option.bind_some]
    rw [d2, if_neg (by omega), if_pos trivial]
    congr 2
    simp only [bytesL, List.range_succ, List.map_append, List.map_cons, List.map_nil]
    congr 2
    omega
theorem unhex_hex (s : ByteArray) (hs : s.size ≤ 1000000) : octet_Unhex.f (strOfNums (hexL s s.size)) = some (s, true) := by
  have hz : (strOfNums (hexL s s.size)).size = 2 * s.size := by rw [strOfNums_size, hexL_len]
  obtain ⟨hi, h⟩ := uhx_hex s s.size (Nat.le_refl _)
  unfold octet_Unhex.f
  rw [hz, if_pos (by omega), h]
  simp only [bytesL_all]

theorem tail_yes0 (s t : ByteArray) (x y : ByteArray × Bool) (M : Nat) (h0 : octet_Unhex.f s = some x) (hx : x.2 = true) (h1 : octet_Hex.f M x.1 = some t) (h2 : octet_Unhex.f t = some y) (hy : y.1 = x.1) (hy2 : y.2 = true)
    (hz : (s.size : Int) = wrap64 (2 * (x.1.size : Int))) (ha : signalboxlaw01_alive.f M = some true) : signalboxlaw01_OctetBack.j0 (M + 1) s false = some true := by
  simp only [signalboxlaw01_OctetBack.j0, Bool.false_eq_true, if_false, ite_tl, ite_tl0, h0, ob]
  rw [if_pos hx, h1]
  simp only [ob, h2]
  rw [if_pos hz, if_pos hy, if_pos hy2, ha]
  rfl
theorem tail_yes (s b t : ByteArray) (M : Nat) (h0 : octet_Unhex.f s = some (b, true)) (h1 : octet_Hex.f M b = some t) (h2 : octet_Unhex.f t = some (b, true))
    (hz : (s.size : Int) = wrap64 (2 * (b.size : Int))) (ha : signalboxlaw01_alive.f M = some true) : signalboxlaw01_OctetBack.j0 (M + 1) s false = some true :=
  tail_yes0 s t (b, true) (b, true) M h0 rfl h1 h2 rfl rfl hz ha
theorem tail_no (s : ByteArray) (M : Nat) (h0 : octet_Unhex.f s = some (⟨#[]⟩, false)) (ha : signalboxlaw01_alive.f M = some true) : signalboxlaw01_OctetBack.j0 (M + 1) s false = some true := by
  simp only [signalboxlaw01_OctetBack.j0, Bool.false_eq_true, if_false, ite_tl, ite_tl0]
  rw [h0, ob, if_neg (by decide), if_pos rfl, ha]
  rfl
theorem back_tail (s : ByteArray) (hs : s.size ≤ 2000) (M : Nat) (hM : 5000 ≤ M) (ha : signalboxlaw01_alive.f M = some true) : signalboxlaw01_OctetBack.j0 (M + 1) s false = some true := by
  cases hu : uhx s s.size with
  | none =>
    refine tail_no s M ?_ ha
    unfold octet_Unhex.f
    rw [if_pos (by omega), hu]
  | some x =>
    obtain ⟨l, hi, half⟩ := x
    cases half with
    | true =>
      refine tail_no s M ?_ ha
      unfold octet_Unhex.f
      rw [if_pos (by omega), hu]
    | false =>
      have hf := uhx_form s s.size _ hu
      simp only [Bool.false_eq_true, if_false] at hf
      have hz : (strOfNums l).size = l.length := strOfNums_size l
      refine tail_yes s (strOfNums l) _ M ?_ (hex_eq (strOfNums l) (by omega) M (by omega)) (unhex_hex (strOfNums l) (by omega)) (by rw [hz, w64 (by omega) (by omega)]; omega) ha
      unfold octet_Unhex.f
      rw [if_pos (by omega), hu]

theorem back_head (s : ByteArray) (hs : s.size ≤ 2000) (M : Nat) (hM : 5000 ≤ M) (ht : signalboxlaw01_OctetBack.j0 M s false = some true) : signalboxlaw01_OctetBack.f M s = some true := by
  have e1 : (((strOfNums (hexL s s.size)).size : Int) != wrap64 (2 * (s.size : Int))) = false := by
    rw [strOfNums_size, hexL_len, w64 (by omega) (by omega)]
    simp
  have key : ∃ t y, octet_Hex.f M s = some t ∧ octet_Unhex.f t = some y ∧ y.1 = s ∧ y.2 = true ∧ ((t.size : Int) != wrap64 (2 * (s.size : Int))) = false :=
    ⟨_, (s, true), hex_eq s (by omega) M (by omega), unhex_hex s (by omega), rfl, rfl, e1⟩
  obtain ⟨t, y, h1, h2, hy, hy2, h3⟩ := key
  simp only [signalboxlaw01_OctetBack.f, ite_tl, h1, h2, ob, h3, ht]
  rw [if_neg (by omega), if_pos hy, if_pos hy2]

theorem OctetBack : signalboxlaw01_OctetBack.Pure := by
  intro s hs
  obtain ⟨K, hK⟩ := alive_k
  obtain ⟨M, hF⟩ : ∃ M, M = K + 5000 := ⟨_, rfl⟩
  refine ⟨M + 1, ?_⟩
  by_cases hb : (s.size : Int) > 2000
  · simp only [signalboxlaw01_OctetBack.f]
    rw [if_pos hb, hK _ (by omega)]
    rfl
  · exact back_head s (by omega) (M + 1) (by omega) (back_tail s (by omega) M (by omega) (hK M (by omega)))

end Go.Proofs.Ytooadablecjpdaa.Pure
