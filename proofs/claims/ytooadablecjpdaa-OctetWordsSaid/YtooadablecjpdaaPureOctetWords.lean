/- OctetWords: the four bytes of any number, and the number at any place of any text, are as the document says; the one leads back to the other. Conditions: none beyond the statement's own. -/
import Derived.Test.YtooadablecjpdaaPOctetWordsx2
namespace Go.Proofs.Ytooadablecjpdaa.Pure
open Go.RowKit Go.Proofs.Ytooadablecjpdaa.POctetWords Go.Proofs.YtooadablecjpdaaW.PrintWords Go.Proofs.YtooadablecjpdaaW.PrintLast
set_option linter.unusedVariables false
set_option linter.unusedSimpArgs false

theorem wf_i64 {n : Int} (h : (Lit.int .i64 n).wf = true) : -9223372036854775808 ≤ n ∧ n ≤ 9223372036854775807 := by
  simp only [Lit.wf, Bool.and_eq_true, decide_eq_true_eq] at h
  exact h
theorem wf_u32 {n : Int} (h : (Lit.int .u32 n).wf = true) : 0 ≤ n ∧ n ≤ 4294967295 := by
  simp only [Lit.wf, Bool.and_eq_true, decide_eq_true_eq] at h
  exact h
theorem wf_i32 {n : Int} (h : (Lit.int .i32 n).wf = true) : -2147483648 ≤ n ∧ n ≤ 2147483647 := by
  simp only [Lit.wf, Bool.and_eq_true, decide_eq_true_eq] at h
  exact h
theorem w64 {n : Int} (h0 : -9223372036854775808 ≤ n) (h1 : n ≤ 9223372036854775807) : wrap64 n = n := by unfold wrap64; omega

theorem alive_k : ∃ K, ∀ k, K ≤ k → signalboxlaw01_alive.f k = some true :=
  Ev.of signalboxlaw01_alive.mono (k := 20) (by decide +kernel)

theorem bt_size {s : ByteArray} {i : Nat} (h : i < s.size) : bt s (i : Int) = (s.data.toList[i]'(by rw [Array.length_toList]; exact h)).toNat := by
  have e := bt_at s (i : Int) (by simpa using h)
  rw [← e]
  simp
  rfl
theorem bt_none {s : ByteArray} {i : Int} (h : (s.size : Int) ≤ i) : bt s i = 0 := by
  unfold bt
  rw [dif_neg (by omega)]
theorem bt_num (l : List Int) (hl : ∀ x ∈ l, 0 ≤ x ∧ x ≤ 255) (i : Nat) (h : i < l.length) : bt (strOfNums l) i = l[i] := by
  have hs : i < (strOfNums l).size := by rw [strOfNums_size]; exact h
  rw [bt_size hs]
  have hx := hl l[i] (List.getElem_mem h)
  have : (strOfNums l).data.toList[i]'(by rw [Array.length_toList]; exact hs) = UInt8.ofNat (l[i]).toNat := by
    simp [strOfNums]
  rw [this]
  simp
  omega
theorem bytes_ext {s t : ByteArray} (hz : s.size = t.size) (h : ∀ i : Nat, i < s.size → bt s i = bt t i) : s = t := by
  have : s.data.toList = t.data.toList := by
    apply List.ext_getElem
    · rw [Array.length_toList, Array.length_toList]; exact hz
    · intro i h1 h2
      rw [Array.length_toList] at h1 h2
      have e := h i h1
      rw [bt_size h1, bt_size (show i < t.size from h2)] at e
      have e2 : (s.data.toList[i]).toNat = (t.data.toList[i]).toNat := by exact_mod_cast e
      exact UInt8.toNat_inj.mp e2
  obtain ⟨a⟩ := s
  obtain ⟨b⟩ := t
  have : a.toList = b.toList := this
  rw [Array.toList_inj.mp this]
theorem toList_inj' {s t : ByteArray} : s.toList = t.toList ↔ s = t := by
  constructor
  · intro h
    rw [ByteArray.toList_eq, ByteArray.toList_eq] at h
    obtain ⟨a⟩ := s
    obtain ⟨b⟩ := t
    have h : a.toList = b.toList := h
    rw [Array.toList_inj.mp h]
  · intro h; rw [h]
theorem str_beq (s t : ByteArray) : (s.toList == t.toList) = decide (s = t) := by
  rw [Bool.eq_iff_iff]
  simp [toList_inj']

theorem or_comm_u32 (x y : Int) : Go.bits .or .u32 x y = Go.bits .or .u32 y x := by
  simp [Go.bits, BitVec.or_comm]
theorem wraps_u32 (n : Int) (h₀ : 0 ≤ n) (h₁ : n < 2 ^ 32) : IntKind.u32.wrap n = n := by rw [IntKind.wrap_u32]; omega
theorem join8 (x b : Int) (i : Nat) (hi : i ≤ 24) (hx0 : 0 ≤ x) (hx : x < 2 ^ i) (hb0 : 0 ≤ b) (hb : b * 2 ^ i < 4294967296) : Go.bits .or .u32 x (b * 2 ^ i) = x + b * 2 ^ i := by
  have hp : (0 : Int) < 2 ^ i := Int.pow_pos (by decide)
  have hp2 : (2 : Int) ^ i ≤ 2 ^ 24 := by
    have := Nat.pow_le_pow_right (show 0 < 2 by decide) hi
    exact_mod_cast this
  rw [or_comm_u32, bits_join .u32 32 (by decide) wraps_u32 i (b * 2 ^ i) x (Int.mul_nonneg hb0 (by omega)) (Int.mul_emod_left b (2 ^ i)) (by omega) hx0 hx (by omega), Int.add_comm]
theorem bt_rng (s : ByteArray) (i : Int) (h0 : 0 ≤ i) (h1 : i < s.size) : 0 ≤ bt s i ∧ bt s i ≤ 255 := by
  have := bt_range s i.toNat (by omega)
  rw [show ((i.toNat : Nat) : Int) = i by omega] at this
  exact this
/-- The number at a place. -/
def num4 (s : ByteArray) (i : Int) : Int := bt s i + bt s (i + 1) * 256 + bt s (i + 2) * 65536 + bt s (i + 3) * 16777216
theorem get_ok (k : Nat) (hk : 6 ≤ k) (s : ByteArray) (hs : s.size ≤ 140737488351232) (i : Int) (h0 : 0 ≤ i) (h1 : i ≤ s.size - 4) : octet_Get.f k s i = some (num4 s i, true) := by
  obtain ⟨k, rfl⟩ : ∃ m, k = m + 1 + 1 + 1 + 1 + 1 + 1 := ⟨k - 6, by omega⟩
  have b0 := bt_rng s i h0 (by omega)
  have b1 := bt_rng s (i + 1) (by omega) (by omega)
  have b2 := bt_rng s (i + 2) (by omega) (by omega)
  have b3 := bt_rng s (i + 3) (by omega) (by omega)
  have e4 : wrap64 ((s.size : Int) - 4) = s.size - 4 := w64 (by omega) (by omega)
  have s0 : shl .u32 (bt s i % 4294967296) 0 = bt s i * 2 ^ 0 := by
    simp only [shl]
    rw [IntKind.wrap_u32]; simp; omega
  have s1 : shl .u32 (bt s (i + 1) % 4294967296) 8 = bt s (i + 1) * 2 ^ 8 := by
    simp only [shl]
    rw [IntKind.wrap_u32, show min (8 : Int).toNat IntKind.u32.bits = 8 by decide]; omega
  have s2 : shl .u32 (bt s (i + 2) % 4294967296) 16 = bt s (i + 2) * 2 ^ 16 := by
    simp only [shl]
    rw [IntKind.wrap_u32, show min (16 : Int).toNat IntKind.u32.bits = 16 by decide]; omega
  have s3 : shl .u32 (bt s (i + 3) % 4294967296) 24 = bt s (i + 3) * 2 ^ 24 := by
    simp only [shl]
    rw [IntKind.wrap_u32, show min (24 : Int).toNat IntKind.u32.bits = 24 by decide]; omega
  simp only [octet_Get.f, octet_Get.j0]
  rw [if_neg (by omega), e4, if_neg (by simp; omega)]
  have w0 : wrap64 (i + 0) = i := by rw [Int.add_zero]; exact w64 (by omega) (by omega)
  have w1 : wrap64 (i + 1) = i + 1 := w64 (by omega) (by omega)
  have w2 : wrap64 (i + 2) = i + 2 := w64 (by omega) (by omega)
  have w3 : wrap64 (i + 3) = i + 3 := w64 (by omega) (by omega)
  have z0 : wrap64 (8 * 0) = 0 := by unfold wrap64; decide
  have z1 : wrap64 (8 * 1) = 8 := by unfold wrap64; decide
  have z2 : wrap64 (8 * 2) = 16 := by unfold wrap64; decide
  have z3 : wrap64 (8 * 3) = 24 := by unfold wrap64; decide
  have c0 : wrap64 (0 + 1) = 1 := by unfold wrap64; decide
  have c1 : wrap64 (1 + 1) = 2 := by unfold wrap64; decide
  have c2 : wrap64 (2 + 1) = 3 := by unfold wrap64; decide
  have c3 : wrap64 (3 + 1) = 4 := by unfold wrap64; decide
  simp only [octet_Get.l0, w0, w1, w2, w3, c0, c1, c2, c3, z0, z1, z2, z3, s0, s1, s2, s3]
  rw [if_pos (by decide), if_pos h0, if_pos (by omega), if_pos (by decide), if_pos (by decide), if_pos (by omega), if_pos (by omega), if_pos (by decide),
    if_pos (by decide), if_pos (by omega), if_pos (by omega), if_pos (by decide), if_pos (by decide), if_pos (by omega), if_pos (by omega), if_pos (by decide), if_neg (by decide)]
  rw [join8 0 (bt s i) 0 (by decide) (by decide) (by decide) b0.1 (by omega), join8 _ (bt s (i + 1)) 8 (by decide) (by omega) (by omega) b1.1 (by omega),
    join8 _ (bt s (i + 2)) 16 (by decide) (by omega) (by omega) b2.1 (by omega), join8 _ (bt s (i + 3)) 24 (by decide) (by omega) (by omega) b3.1 (by omega)]
  simp only [num4]
  congr 2
  omega
theorem rget_ok (k : Nat) (hk : 6 ≤ k) (s : ByteArray) (hs : s.size ≤ 140737488351232) (i : Int) (h0 : 0 ≤ i) (h1 : i ≤ s.size - 4) : signalboxref01_Get.f k s i = some (num4 s i, true) := by
  obtain ⟨k, rfl⟩ : ∃ m, k = m + 1 + 1 + 1 + 1 + 1 + 1 := ⟨k - 6, by omega⟩
  have b0 := bt_rng s i h0 (by omega)
  have b1 := bt_rng s (i + 1) (by omega) (by omega)
  have b2 := bt_rng s (i + 2) (by omega) (by omega)
  have b3 := bt_rng s (i + 3) (by omega) (by omega)
  have e4 : wrap64 ((s.size : Int) - i) = s.size - i := w64 (by omega) (by omega)
  simp only [signalboxref01_Get.f, signalboxref01_Get.j0]
  rw [if_neg (by omega), if_neg (by omega), e4, if_neg (by simp; omega)]
  have w0 : wrap64 (i + 0) = i := by rw [Int.add_zero]; exact w64 (by omega) (by omega)
  have w1 : wrap64 (i + 1) = i + 1 := w64 (by omega) (by omega)
  have w2 : wrap64 (i + 2) = i + 2 := w64 (by omega) (by omega)
  have w3 : wrap64 (i + 3) = i + 3 := w64 (by omega) (by omega)
  have c0 : wrap64 (3 - 1) = 2 := by unfold wrap64; decide
  have c1 : wrap64 (2 - 1) = 1 := by unfold wrap64; decide
  have c2 : wrap64 (1 - 1) = 0 := by unfold wrap64; decide
  have c3 : wrap64 (0 - 1) = -1 := by unfold wrap64; decide
  simp only [signalboxref01_Get.l0, w0, w1, w2, w3, c0, c1, c2, c3]
  rw [if_pos (by decide), if_pos (by omega), if_pos (by omega), if_pos (by decide), if_pos (by omega), if_pos (by omega),
    if_pos (by decide), if_pos (by omega), if_pos (by omega), if_pos (by decide), if_pos (by omega), if_pos (by omega), if_neg (by decide)]
  simp only [num4]
  congr 2
  omega
theorem get_no (k : Nat) (hk : 1 ≤ k) (s : ByteArray) (hs : s.size ≤ 140737488351232) (i : Int) (h : i < 0 ∨ i > s.size - 4) : octet_Get.f k s i = some (0, false) := by
  obtain ⟨k, rfl⟩ : ∃ m, k = m + 1 := ⟨k - 1, by omega⟩
  have e4 : wrap64 ((s.size : Int) - 4) = s.size - 4 := w64 (by omega) (by omega)
  simp only [octet_Get.f, octet_Get.j0, e4]
  by_cases h0 : i < 0
  · rw [if_pos h0]; rfl
  · rw [if_neg h0, if_pos (by simp; omega)]
theorem rget_no (k : Nat) (hk : 1 ≤ k) (s : ByteArray) (hs : s.size ≤ 140737488351232) (i : Int) (h : i < 0 ∨ i > s.size - 4) (hi : i ≤ 9223372036854775807) : signalboxref01_Get.f k s i = some (0, false) := by
  obtain ⟨k, rfl⟩ : ∃ m, k = m + 1 := ⟨k - 1, by omega⟩
  simp only [signalboxref01_Get.f, signalboxref01_Get.j0]
  by_cases h0 : i < 0
  · rw [if_pos h0]; rfl
  · rw [if_neg h0]
    by_cases h1 : i > s.size
    · rw [if_pos h1]; rfl
    · have e4 : wrap64 ((s.size : Int) - i) = s.size - i := w64 (by omega) (by omega)
      rw [if_neg h1, e4, if_pos (by simp; omega)]
theorem bt_four (a b c d : Int) (ha : 0 ≤ a ∧ a ≤ 255) (hb : 0 ≤ b ∧ b ≤ 255) (hc : 0 ≤ c ∧ c ≤ 255) (hd : 0 ≤ d ∧ d ≤ 255) :
    num4 (strOfNums [a, b, c, d]) 0 = a + b * 256 + c * 65536 + d * 16777216 := by
  have hl : ∀ x ∈ [a, b, c, d], 0 ≤ x ∧ x ≤ 255 := by
    intro x hx
    simp at hx
    rcases hx with rfl | rfl | rfl | rfl <;> assumption
  have e0 := bt_num [a, b, c, d] hl 0 (by simp)
  have e1 := bt_num [a, b, c, d] hl 1 (by simp)
  have e2 := bt_num [a, b, c, d] hl 2 (by simp)
  have e3 := bt_num [a, b, c, d] hl 3 (by simp)
  simp only [num4]
  rw [show ((0 : Int) + 1) = ((1 : Nat) : Int) by rfl, show ((0 : Int) + 2) = ((2 : Nat) : Int) by rfl, show ((0 : Int) + 3) = ((3 : Nat) : Int) by rfl, e1, e2, e3]
  rw [show (0 : Int) = ((0 : Nat) : Int) by rfl, e0]
  rfl
theorem OctetWords : signalboxlaw01_OctetWords.Pure := by
  intro n s i hn hs hi
  have hn := wf_u32 hn
  have hi := wf_i64 hi
  obtain ⟨K, hK⟩ := alive_k
  refine ⟨K + 6, ?_⟩
  have ha := hK (K + 6) (by omega)
  have hp : signalboxref01_Put.f n = octet_Put.f n := by
    unfold signalboxref01_Put.f octet_Put.f
    rw [Int.tmod_eq_emod_of_nonneg hn.1, Int.tdiv_eq_ediv_of_nonneg hn.1, Int.tdiv_eq_ediv_of_nonneg hn.1, Int.tdiv_eq_ediv_of_nonneg hn.1]
    congr 2
    simp
  have hq : octet_Get.f (K + 6) (strOfNums [n % 256, n / 256 % 256, n / 65536 % 256, n / 16777216 % 256]) 0 = some (n, true) := by
    rw [get_ok (K + 6) (by omega) _ (by rw [strOfNums_size]; simp) 0 (by decide) (by rw [strOfNums_size]; simp), bt_four _ _ _ _ (by omega) (by omega) (by omega) (by omega)]
    congr 2
    omega
  have hg : octet_Get.f (K + 6) s i = signalboxref01_Get.f (K + 6) s i := by
    by_cases h : i < 0 ∨ i > s.size - 4
    · rw [get_no _ (by omega) s hs i h, rget_no _ (by omega) s hs i h hi.2]
    · rw [get_ok _ (by omega) s hs i (by omega) (by omega), rget_ok _ (by omega) s hs i (by omega) (by omega)]
  have hsome : ∃ x, signalboxref01_Get.f (K + 6) s i = some x := by
    by_cases h : i < 0 ∨ i > s.size - 4
    · exact ⟨_, rget_no _ (by omega) s hs i h hi.2⟩
    · exact ⟨_, rget_ok _ (by omega) s hs i (by omega) (by omega)⟩
  obtain ⟨x, hx⟩ := hsome
  simp only [signalboxlaw01_OctetWords.f, hp, ha, hg, hx]
  simp only [octet_Put.f, Option.bind_some, hq, if_true, beq_self_eq_true]

end Go.Proofs.Ytooadablecjpdaa.Pure
