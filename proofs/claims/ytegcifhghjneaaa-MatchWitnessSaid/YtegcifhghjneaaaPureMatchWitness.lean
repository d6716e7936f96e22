/- MatchWitness: which is the least word that one filter hits, and another one does not, or that there is none, is as the document says. Conditions: none beyond the statement's own. -/
import Derived.Test.YtegcifhghjneaaaPMatchWitnessx5
namespace Go.Proofs.Ytegcifhghjneaaa.Pure
open Go.RowKit Go.Proofs.Ytegcifhghjneaaa.PMatchWitness Go.Proofs.YtegcifhghjneaaaW.PrintWords Go.Proofs.YtegcifhghjneaaaW.PrintLast
set_option linter.unusedVariables false
set_option linter.unusedSimpArgs false

theorem wf_i64 {n : Int} (h : (Lit.int .i64 n).wf = true) : -9223372036854775808 ≤ n ∧ n ≤ 9223372036854775807 := by
  simp only [Lit.wf, Bool.and_eq_true, decide_eq_true_eq] at h
  exact h
theorem wf_u32 {n : Int} (h : (Lit.int .u32 n).wf = true) : 0 ≤ n ∧ n ≤ 4294967295 := by
  simp only [Lit.wf, Bool.and_eq_true, decide_eq_true_eq] at h
  exact h
theorem wf_i32 {n : Int} (h : (Lit.int .i32 n).wf = true) : -2147483648 ≤ n ∧ n ≤ 2147483647 := by
  simp only [Lit.wf, Bool.and_eq_true, decide_eq_true_eq] at h
  exact h
theorem w64 {n : Int} (h0 : -9223372036854775808 ≤ n) (h1 : n ≤ 9223372036854775807) : wrap64 n = n := by unfold wrap64; omega

/-- 'Option.bind_some' as an equation that simp carries along (not by 'rfl': else the kernel unfolds what is bound). -/
theorem ob {α β : Type} (a : α) (f : α → Option β) : (some a).bind f = f a := by
  have h : (some a).bind f = f a := rfl
  exact h.symm.symm

theorem up1 (j : Nat) (h : j < 1000000000) : wrap64 ((j : Int) + 1) = ((j + 1 : Nat) : Int) := by rw [w64 (by omega) (by omega)]; omega

/-- Does a word agree with an identifier in the first n bits of a mask? -/
def hb (id mask : Nat) : Nat → Nat → Bool
  | 0, _ => true
  | n + 1, w => hb id mask n w && (!mask.testBit n || (w.testBit n == id.testBit n))
theorem hb_iff (id mask n w : Nat) : hb id mask n w = true ↔ ∀ i, i < n → mask.testBit i = true → w.testBit i = id.testBit i := by
  induction n with
  | zero => simp [hb]
  | succ n ih =>
    simp only [hb, Bool.and_eq_true, ih]
    constructor
    · rintro ⟨h1, h2⟩ i hi hm
      by_cases h : i = n
      · subst h
        rw [hm] at h2
        simpa using h2
      · exact h1 i (by omega) hm
    · intro h
      refine ⟨fun i hi hm => h i (by omega) hm, ?_⟩
      cases hm : mask.testBit n with
      | false => rfl
      | true => rw [h n (by omega) hm]; simp
/-- How many words of n bits there are of which something holds. -/
def cnt : Nat → (Nat → Bool) → Nat
  | 0, p => if p 0 = true then 1 else 0
  | n + 1, p => cnt n p + cnt n (fun w => p (w + 2 ^ n))
theorem cnt_congr (n : Nat) : ∀ p q : Nat → Bool, (∀ w, w < 2 ^ n → p w = q w) → cnt n p = cnt n q := by
  induction n with
  | zero => intro p q h; simp only [cnt]; rw [h 0 (by decide)]
  | succ n ih =>
    intro p q h
    simp only [cnt]
    rw [ih p q (fun w hw => h w (by rw [Nat.pow_succ]; omega)), ih (fun w => p (w + 2 ^ n)) (fun w => q (w + 2 ^ n)) (fun w hw => h _ (by rw [Nat.pow_succ]; omega))]
theorem cnt_pos (n : Nat) : ∀ p : Nat → Bool, 0 < cnt n p ↔ ∃ w, w < 2 ^ n ∧ p w = true := by
  induction n with
  | zero =>
    intro p
    simp only [cnt]
    constructor
    · intro h
      by_cases hp : p 0 = true
      · exact ⟨0, by decide, hp⟩
      · rw [if_neg hp] at h; exact absurd h (by decide)
    · rintro ⟨w, hw, hp⟩
      have : w = 0 := by simpa using hw
      subst this
      rw [if_pos hp]; decide
  | succ n ih =>
    intro p
    simp only [cnt]
    constructor
    · intro h
      by_cases h1 : 0 < cnt n p
      · obtain ⟨w, hw, hp⟩ := (ih p).mp h1
        exact ⟨w, by rw [Nat.pow_succ]; omega, hp⟩
      · obtain ⟨w, hw, hp⟩ := (ih (fun w => p (w + 2 ^ n))).mp (by omega)
        exact ⟨w + 2 ^ n, by rw [Nat.pow_succ]; omega, hp⟩
    · rintro ⟨w, hw, hp⟩
      rw [Nat.pow_succ] at hw
      by_cases h : w < 2 ^ n
      · have := (ih p).mpr ⟨w, h, hp⟩; omega
      · have := (ih (fun w => p (w + 2 ^ n))).mpr ⟨w - 2 ^ n, by omega, by rw [show w - 2 ^ n + 2 ^ n = w by omega]; exact hp⟩
        omega
theorem cnt_split (n : Nat) : ∀ p q : Nat → Bool, cnt n p = cnt n (fun w => p w && q w) + cnt n (fun w => p w && !q w) := by
  induction n with
  | zero =>
    intro p q
    simp only [cnt]
    by_cases h1 : p 0 = true <;> by_cases h2 : q 0 = true <;> simp [h1, h2]
  | succ n ih =>
    intro p q
    simp only [cnt]
    rw [ih p q, ih (fun w => p (w + 2 ^ n)) (fun w => q (w + 2 ^ n))]
    omega
theorem cnt_none (n : Nat) : ∀ p : Nat → Bool, (∀ w, w < 2 ^ n → p w = false) → cnt n p = 0 := by
  intro p h
  apply Nat.eq_zero_of_not_pos
  rw [cnt_pos]
  rintro ⟨w, hw, hp⟩
  rw [h w hw] at hp
  exact absurd hp (by decide)
theorem cnt_le (n : Nat) : ∀ p : Nat → Bool, cnt n p ≤ 2 ^ n := by
  induction n with
  | zero => intro p; simp only [cnt]; split <;> decide
  | succ n ih =>
    intro p
    simp only [cnt]
    have h1 := ih p
    have h2 := ih (fun w => p (w + 2 ^ n))
    rw [Nat.pow_succ]; omega
/-- How many of the first n bits of a mask are set. -/
def pcn (m : Nat) : Nat → Nat
  | 0 => 0
  | n + 1 => pcn m n + (if m.testBit n = true then 1 else 0)
theorem tb_hi (n w : Nat) (h : w < 2 ^ n) : (w + 2 ^ n).testBit n = true := by
  rw [Nat.add_comm, Nat.testBit_two_pow_add_eq, Nat.testBit_lt_two_pow h]; rfl
theorem tb_lo (n w i : Nat) (h : i < n) : (w + 2 ^ n).testBit i = w.testBit i := by
  rw [Nat.add_comm, Nat.testBit_two_pow_add_gt h]
theorem hb_add (id mask n w : Nat) : hb id mask n (w + 2 ^ n) = hb id mask n w := by
  rw [Bool.eq_iff_iff, hb_iff, hb_iff]
  constructor
  · intro h i hi hm
    have := h i hi hm
    rw [tb_lo n w i hi] at this
    exact this
  · intro h i hi hm
    rw [tb_lo n w i hi]
    exact h i hi hm
theorem cnt_hb (id mask n : Nat) : pcn mask n ≤ n ∧ cnt n (hb id mask n) = 2 ^ (n - pcn mask n) := by
  induction n with
  | zero => exact ⟨Nat.le_refl _, rfl⟩
  | succ n ih =>
    obtain ⟨h1, h2⟩ := ih
    have a1 : cnt n (hb id mask (n + 1)) = cnt n (fun w => hb id mask n w && (!mask.testBit n || (false == id.testBit n))) :=
      cnt_congr n _ _ (fun w hw => by simp only [hb]; rw [Nat.testBit_lt_two_pow hw])
    have a2 : cnt n (fun w => hb id mask (n + 1) (w + 2 ^ n)) = cnt n (fun w => hb id mask n w && (!mask.testBit n || (true == id.testBit n))) :=
      cnt_congr n _ _ (fun w hw => by simp only [hb]; rw [tb_hi n w hw, hb_add])
    simp only [cnt, pcn]
    rw [a1, a2]
    have t1 : (fun w => hb id mask n w && true) = hb id mask n := funext (fun w => Bool.and_true _)
    have t0 : cnt n (fun w => hb id mask n w && false) = 0 := cnt_none n _ (fun w _ => Bool.and_false _)
    cases hm : mask.testBit n with
    | false =>
      simp only [Bool.not_false, Bool.true_or, t1, h2, Bool.false_eq_true, if_false, Nat.add_zero]
      refine ⟨by omega, ?_⟩
      rw [show n + 1 - pcn mask n = (n - pcn mask n) + 1 by omega, Nat.pow_succ]; omega
    | true =>
      refine ⟨by simp; omega, ?_⟩
      have e : n + 1 - (pcn mask n + 1) = n - pcn mask n := by omega
      cases hi : id.testBit n with
      | false =>
        simp only [Bool.not_true, Bool.false_or, beq_self_eq_true, t1, if_true, e, h2]
        rw [show (true == false) = false from rfl, t0]
        rfl
      | true =>
        simp only [Bool.not_true, Bool.false_or, beq_self_eq_true, t1, if_true, e, h2]
        rw [show (false == true) = false from rfl, t0]
        omega

theorem and32 (a b : Nat) (ha : a < 4294967296) (hb : b < 4294967296) : Go.bits .and .u32 (a : Int) (b : Int) = ((a &&& b : Nat) : Int) := (bits_nat .u32 32 (by decide) wr32 a b ha hb).1
theorem or32 (a b : Nat) (ha : a < 4294967296) (hb : b < 4294967296) : Go.bits .or .u32 (a : Int) (b : Int) = ((a ||| b : Nat) : Int) := (bits_nat .u32 32 (by decide) wr32 a b ha hb).2
theorem xor32 (a b : Nat) (ha : a < 4294967296) (hb : b < 4294967296) : Go.bits .xor .u32 (a : Int) (b : Int) = ((a ^^^ b : Nat) : Int) := by
  have ha' : a % 2 ^ IntKind.u32.bits = a := Nat.mod_eq_of_lt ha
  have hb' : b % 2 ^ IntKind.u32.bits = b := Nat.mod_eq_of_lt hb
  simp only [Go.bits, BitVec.ofInt_natCast, BitVec.toNat_xor, BitVec.toNat_ofNat, ha', hb']
  exact wr32 _ (Int.natCast_nonneg _) (by exact_mod_cast Nat.xor_lt_two_pow (n := 32) ha hb)
abbrev okf (f : S24) : Prop := 0 ≤ f.f0 ∧ f.f0 < 4294967296 ∧ 0 ≤ f.f1 ∧ f.f1 < 4294967296
/-- Does a filter, not turned, hit a word? -/
def ht (f : S24) (w : Nat) : Bool := hb f.f0.toNat f.f1.toNat 32 w
theorem zero_bits (a : Nat) (ha : a < 4294967296) : a = 0 ↔ ∀ i, i < 32 → a.testBit i = false := by
  constructor
  · rintro rfl i _; exact Nat.zero_testBit i
  · intro h
    apply Nat.eq_of_testBit_eq
    intro i
    rw [Nat.zero_testBit]
    by_cases hi : i < 32
    · exact h i hi
    · exact Nat.testBit_lt_two_pow (Nat.lt_of_lt_of_le ha (show 2 ^ 32 ≤ 2 ^ i from Nat.pow_le_pow_right (by decide) (by omega)))

theorem tb_val (a i : Nat) : (if a.testBit i = true then 1 else 0) = a / 2 ^ i % 2 := by
  rw [Nat.testBit, Nat.shiftRight_eq_div_pow, Nat.one_and_eq_mod_two]
  have : a / 2 ^ i % 2 = 0 ∨ a / 2 ^ i % 2 = 1 := by omega
  rcases this with h | h <;> rw [h] <;> decide
def s8 (q : Nat) : Nat := q % 2 + q / 2 % 2 + q / 4 % 2 + q / 8 % 2 + q / 16 % 2 + q / 32 % 2 + q / 64 % 2 + q / 128 % 2
theorem b8_nat (q : Nat) : b8 (q : Int) = (s8 q : Int) := by
  unfold b8 s8
  simp only [Int.natCast_add, Int.natCast_emod, Int.natCast_ediv, Int.cast_ofNat_Int]
theorem s8_mod (q : Nat) : s8 (q % 256) = s8 q := by
  have h0 : q % 256 % 2 = q % 2 := by omega
  have h1 : q % 256 / 2 % 2 = q / 2 % 2 := by omega
  have h2 : q % 256 / 4 % 2 = q / 4 % 2 := by omega
  have h3 : q % 256 / 8 % 2 = q / 8 % 2 := by omega
  have h4 : q % 256 / 16 % 2 = q / 16 % 2 := by omega
  have h5 : q % 256 / 32 % 2 = q / 32 % 2 := by omega
  have h6 : q % 256 / 64 % 2 = q / 64 % 2 := by omega
  have h7 : q % 256 / 128 % 2 = q / 128 % 2 := by omega
  unfold s8
  rw [h0, h1, h2, h3, h4, h5, h6, h7]
theorem tb_at (a s i : Nat) : (if a.testBit (s + i) = true then 1 else 0) = a / 2 ^ s / 2 ^ i % 2 := by
  rw [tb_val, Nat.pow_add, Nat.div_div_eq_div_mul]
theorem pcn8 (a s : Nat) : pcn a (s + 8) = pcn a s + s8 (a / 2 ^ s) := by
  have e : pcn a (s + 8) = pcn a s + (if a.testBit s = true then 1 else 0) + (if a.testBit (s + 1) = true then 1 else 0) + (if a.testBit (s + 2) = true then 1 else 0) + (if a.testBit (s + 3) = true then 1 else 0) + (if a.testBit (s + 4) = true then 1 else 0) + (if a.testBit (s + 5) = true then 1 else 0) + (if a.testBit (s + 6) = true then 1 else 0) + (if a.testBit (s + 7) = true then 1 else 0) := rfl
  rw [e, tb_val, tb_at, tb_at, tb_at, tb_at, tb_at, tb_at, tb_at]
  unfold s8
  simp only [Nat.add_assoc, Nat.pow_one]
theorem pc_eq (a : Nat) (ha : a < 4294967296) : pc (a : Int) = ((pcn a 32 : Nat) : Int) := by
  have e3 : pcn a 32 = pcn a 24 + s8 (a / 16777216) := pcn8 a 24
  have e2 : pcn a 24 = pcn a 16 + s8 (a / 65536) := pcn8 a 16
  have e1 : pcn a 16 = pcn a 8 + s8 (a / 256) := pcn8 a 8
  have e0 : pcn a 8 = s8 a := by
    have := pcn8 a 0
    rw [Nat.pow_zero, Nat.div_one] at this
    rw [show (8 : Nat) = 0 + 8 from rfl, this]
    exact Nat.zero_add _
  have c3 : (a : Int) / 16777216 = ((a / 16777216 : Nat) : Int) := by omega
  have c2 : (a : Int) / 65536 % 256 = (((a / 65536) % 256 : Nat) : Int) := by omega
  have c1 : (a : Int) / 256 % 256 = (((a / 256) % 256 : Nat) : Int) := by omega
  have c0 : (a : Int) % 256 = ((a % 256 : Nat) : Int) := by omega
  unfold pc
  rw [c3, c2, c1, c0, b8_nat, b8_nat, b8_nat, b8_nat, s8_mod, s8_mod, s8_mod, e3, e2, e1, e0]
  generalize s8 (a / 16777216) = q3
  generalize s8 (a / 65536) = q2
  generalize s8 (a / 256) = q1
  generalize s8 a = q0
  omega
theorem ones_eq (a : Nat) (ha : a < 4294967296) : bits_OnesCount32.f (a : Int) = some ((pcn a 32 : Nat) : Int) := by
  unfold bits_OnesCount32.f
  rw [if_pos (by omega), if_pos (by omega), pc_eq a ha]
theorem shl1 (n : Nat) (h : n ≤ 32) : shl .u64 1 (n : Int) = ((2 ^ n : Nat) : Int) := by
  have hc : ∀ j : Fin 33, shl .u64 1 (j.val : Int) = ((2 ^ j.val : Nat) : Int) := by decide +kernel
  exact hc ⟨n, by omega⟩
theorem merge (I K i m w : Nat) (hc : ∀ j, j < 32 → K.testBit j = true → m.testBit j = true → I.testBit j = i.testBit j) :
    hb ((I &&& K) ||| (i &&& m)) (K ||| m) 32 w = (hb I K 32 w && hb i m 32 w) := by
  rw [Bool.eq_iff_iff, Bool.and_eq_true, hb_iff, hb_iff, hb_iff]
  simp only [Nat.testBit_or, Nat.testBit_and]
  constructor
  · intro h
    constructor
    · intro j hj hk
      have := h j hj (by rw [hk]; rfl)
      rw [this, hk, Bool.and_true]
      cases hm : m.testBit j with
      | false => rw [Bool.and_false, Bool.or_false]
      | true => rw [Bool.and_true, hc j hj hk hm, Bool.or_self]
    · intro j hj hm
      have := h j hj (by rw [hm, Bool.or_true])
      rw [this, hm, Bool.and_true]
      cases hk : K.testBit j with
      | false => rw [Bool.and_false, Bool.false_or]
      | true => rw [Bool.and_true, hc j hj hk hm, Bool.or_self]
  · rintro ⟨h1, h2⟩ j hj hkm
    cases hk : K.testBit j with
    | true =>
      rw [h1 j hj hk, Bool.and_true]
      cases hm : m.testBit j with
      | false => rw [Bool.and_false, Bool.or_false]
      | true => rw [Bool.and_true, hc j hj hk hm, Bool.or_self]
    | false =>
      rw [hk, Bool.false_or] at hkm
      rw [h2 j hj hkm, hkm, Bool.and_true, Bool.and_false, Bool.false_or]
theorem rd_at (l : List S24) (j : Nat) (hj : j < l.length) : rd_T24 l (j : Int) = l[j] := by unfold rd_T24; simp [hj]
theorem size_l0 (l : List S24) (hl : l.length ≤ 1000) (hok : ∀ f ∈ l, okf f) (b : Bool) (d : Nat) : ∀ (k j I K : Nat), j + d = l.length → d + 1 ≤ k → I < 4294967296 → K < 4294967296 →
    match_size.l0 k l l.length j I K b = some ((cnt 32 (fun w => hb I K 32 w && (l.drop j).all (fun f => ht f w)) : Nat) : Int) := by
  induction d with
  | zero =>
    intro k j I K hj hk hI hK
    obtain ⟨k, rfl⟩ : ∃ m, k = m + 1 := ⟨k - 1, by omega⟩
    obtain rfl : j = l.length := by omega
    have hlt : ¬ (l.length : Int) < (l.length : Int) := Int.lt_irrefl _
    obtain ⟨p1, p2⟩ := cnt_hb I K 32
    have e : wrap64 (32 - ((pcn K 32 : Nat) : Int)) = ((32 - pcn K 32 : Nat) : Int) := by rw [w64 (by omega) (by omega)]; omega
    simp only [match_size.l0, if_neg hlt, ones_eq K hK, ob, e, List.drop_length, List.all_nil, Bool.and_true, p2]
    rw [if_pos (by omega), shl1 _ (by omega)]
  | succ d ih =>
    intro k j I K hj hk hI hK
    obtain ⟨k, rfl⟩ : ∃ m, k = m + 1 := ⟨k - 1, by omega⟩
    have c1 : (j : Int) < (l.length : Int) := by omega
    have c2 : 0 ≤ (j : Int) := by omega
    have hj2 : j < l.length := by omega
    obtain ⟨o1, o2, o3, o4⟩ := hok l[j] (List.getElem_mem hj2)
    obtain ⟨i, hi⟩ := Int.eq_ofNat_of_zero_le o1
    obtain ⟨m, hm⟩ := Int.eq_ofNat_of_zero_le o3
    have hi2 : i < 4294967296 := by omega
    have hm2 : m < 4294967296 := by omega
    have hx : I ^^^ i < 4294967296 := Nat.xor_lt_two_pow (n := 32) hI hi2
    have hy : (I ^^^ i) &&& K < 4294967296 := Nat.and_lt_two_pow (n := 32) _ hK
    have hz : ((I ^^^ i) &&& K) &&& m < 4294967296 := Nat.and_lt_two_pow (n := 32) _ hm2
    have hIK : I &&& K < 4294967296 := Nat.and_lt_two_pow (n := 32) _ hK
    have him : i &&& m < 4294967296 := Nat.and_lt_two_pow (n := 32) _ hm2
    have b1 : Go.bits .and .u32 (Go.bits .and .u32 (Go.bits .xor .u32 (I : Int) (i : Int)) (K : Int)) (m : Int) = ((((I ^^^ i) &&& K) &&& m : Nat) : Int) := by
      rw [xor32 I i hI hi2, and32 _ K hx hK, and32 _ m hy hm2]
    have b2 : Go.bits .or .u32 (Go.bits .and .u32 (I : Int) (K : Int)) (Go.bits .and .u32 (i : Int) (m : Int)) = (((I &&& K) ||| (i &&& m) : Nat) : Int) := by
      rw [and32 I K hI hK, and32 i m hi2 hm2, or32 _ _ hIK him]
    have b3 : Go.bits .or .u32 (K : Int) (m : Int) = ((K ||| m : Nat) : Int) := or32 K m hK hm2
    have hht : ∀ w, ht l[j] w = hb i m 32 w := fun w => by unfold ht; rw [hi, hm]; rfl
    have hI' : (I &&& K) ||| (i &&& m) < 4294967296 := Nat.or_lt_two_pow (n := 32) hIK him
    have hK' : K ||| m < 4294967296 := Nat.or_lt_two_pow (n := 32) hK hm2
    have i1 := ih k (j + 1) ((I &&& K) ||| (i &&& m)) (K ||| m) (by omega) (by omega) hI' hK'
    have hd : ∀ w, (l.drop j).all (fun f => ht f w) = (hb i m 32 w && (l.drop (j + 1)).all (fun f => ht f w)) := fun w => by
      rw [List.drop_eq_getElem_cons hj2, List.all_cons, hht]
    simp only [match_size.l0, if_pos c1, if_pos c2, rd_at l j hj2, hi, hm]
    rw [b1, b2, b3, up1 j (by omega), i1]
    by_cases hzz : ((I ^^^ i) &&& K) &&& m = 0
    · rw [if_pos (by rw [hzz]; rfl)]
      have hc : ∀ q, q < 32 → K.testBit q = true → m.testBit q = true → I.testBit q = i.testBit q := fun q hq hk hmq => by
        have := (zero_bits _ hz).mp hzz q hq
        rw [Nat.testBit_and, Nat.testBit_and, Nat.testBit_xor, hk, hmq, Bool.and_true, Bool.and_true] at this
        cases h1 : I.testBit q <;> cases h2 : i.testBit q <;> rw [h1, h2] at this <;> first | rfl | exact absurd this (by decide)
      exact congrArg (fun n : Nat => some (n : Int)) (cnt_congr 32 _ _ (fun w _ => by rw [merge I K i m w hc, hd w, Bool.and_assoc]))
    · rw [if_neg (by omega)]
      have : ∃ q, q < 32 ∧ (((I ^^^ i) &&& K) &&& m).testBit q = true := by
        apply Classical.byContradiction
        intro hno
        exact hzz ((zero_bits _ hz).mpr (fun q hq => by
          cases h : (((I ^^^ i) &&& K) &&& m).testBit q with
          | false => rfl
          | true => exact absurd ⟨q, hq, h⟩ hno))
      obtain ⟨q, hq, hqb⟩ := this
      rw [Nat.testBit_and, Nat.testBit_and, Nat.testBit_xor, Bool.and_eq_true, Bool.and_eq_true] at hqb
      rw [cnt_none]
      · rfl
      · intro w _
        rw [hd w, ← Bool.and_assoc]
        cases h : (hb I K 32 w && hb i m 32 w) with
        | false => rfl
        | true =>
          exfalso
          rw [Bool.and_eq_true, hb_iff, hb_iff] at h
          have e1 := h.1 q hq hqb.1.2
          have e2 := h.2 q hq hqb.2
          have e3 := hqb.1.1
          rw [← e1, ← e2] at e3
          simp at e3
theorem size_eq (l : List S24) (hl : l.length ≤ 1000) (hok : ∀ f ∈ l, okf f) (k : Nat) (hk : l.length + 1 ≤ k) :
    match_size.f k l = some ((cnt 32 (fun w => l.all (fun f => ht f w)) : Nat) : Int) := by
  unfold match_size.f
  have := size_l0 l hl hok false l.length k 0 0 0 (by omega) hk (by decide) (by decide)
  rw [show ((0 : Nat) : Int) = 0 from rfl] at this
  rw [this]
  refine congrArg (fun n : Nat => some (n : Int)) (cnt_congr 32 _ _ (fun w _ => ?_))
  have h0 : hb 0 0 32 w = true := (hb_iff 0 0 32 w).mpr (fun i _ h => by rw [Nat.zero_testBit] at h; exact absurd h (by decide))
  rw [h0, Bool.true_and, List.drop_zero]

/-- How many words all of some filters hit. -/
def sz (l : List S24) : Nat := cnt 32 (fun w => l.all (fun f => ht f w))
theorem sz_le (l : List S24) : sz l ≤ 4294967296 := cnt_le 32 _
theorem u64w (n : Int) : IntKind.u64.wrap n = n % 18446744073709551616 := by simp [IntKind.wrap, IntKind.bits, IntKind.signed]
/-- Is there a word that all of some filters hit, and none of others? -/
def some_w (M A : List S24) : Prop := ∃ w, w < 4294967296 ∧ M.all (fun f => ht f w) = true ∧ ∀ f ∈ A, ht f w = false
theorem wr1 (a b c : Nat) (h : a = b + c) (h2 : a ≤ 4294967296) : IntKind.u64.wrap ((a : Int) - (b : Int)) = (c : Int) := by rw [u64w]; omega
theorem wr2 (a b c d e : Nat) (h : a + d = b + c + e) (h1 : a ≤ 4294967296) (h2 : b ≤ 4294967296) (h3 : c ≤ 4294967296) (h4 : d ≤ 4294967296) : IntKind.u64.wrap (IntKind.u64.wrap (IntKind.u64.wrap ((a : Int) - (b : Int)) - (c : Int)) + (d : Int)) = (e : Int) := by rw [u64w, u64w, u64w]; omega
theorem ar2 (A B C D E F G H : Nat) (x1 : A = B + C) (x2 : C = D + E) (x3 : G = H + F) (x4 : F = D) : A + H = B + G + E := by omega
theorem pos_nat (n : Nat) : ((n : Int) > 0) ↔ 0 < n := by omega
theorem clone_eq (M : List S24) (h : M.length ≤ 10) : api_Filter.f M = some M := by
  unfold api_Filter.f
  rw [if_pos (by omega)]
theorem left0 (M : List S24) (hM : M.length ≤ 10) (hok : ∀ f ∈ M, okf f) (k : Nat) (hk : 30 ≤ k) : ∃ b, match_left.f k M [] = some b ∧ (b = true ↔ some_w M []) := by
  obtain ⟨k, rfl⟩ : ∃ m, k = m + 1 := ⟨k - 1, by omega⟩
  unfold match_left.f
  rw [size_eq M (by omega) hok (k + 1) (by omega), ob]
  refine ⟨decide (((sz M : Nat) : Int) > 0), ?_, ?_⟩
  · simp only [match_left.l0]
    rw [if_neg (by decide)]
    rfl
  · rw [decide_eq_true_eq]
    unfold some_w
    have h := cnt_pos 32 (fun w => M.all (fun f => ht f w))
    constructor
    · intro hp
      obtain ⟨w, h1, h2⟩ := h.mp ((pos_nat _).mp hp)
      exact ⟨w, h1, h2, fun f hf => absurd hf (List.not_mem_nil)⟩
    · rintro ⟨w, h1, h2, _⟩
      exact (pos_nat _).mpr (h.mpr ⟨w, h1, h2⟩)
theorem all_app (M : List S24) (f : S24) (w : Nat) : (M ++ [f]).all (fun f => ht f w) = (M.all (fun f => ht f w) && ht f w) := by
  rw [List.all_append, List.all_cons, List.all_nil, Bool.and_true]
theorem all_app2 (M : List S24) (g f : S24) (w : Nat) : (M ++ [g, f]).all (fun f => ht f w) = ((M.all (fun f => ht f w) && ht g w) && ht f w) := by
  rw [List.all_append, List.all_cons, List.all_cons, List.all_nil, Bool.and_true, Bool.and_assoc]
/-- Those that all of some filters hit, but another one doesn't. -/
theorem sz_one (M : List S24) (f : S24) : sz M = sz (M ++ [f]) + cnt 32 (fun w => M.all (fun f => ht f w) && !ht f w) := by
  have h := cnt_split 32 (fun w => M.all (fun f => ht f w)) (fun w => ht f w)
  have e := cnt_congr 32 (fun w => M.all (fun f => ht f w) && ht f w) (fun w => (M ++ [f]).all (fun f => ht f w)) (fun w _ => (all_app M f w).symm)
  rw [e] at h
  exact h
theorem sz_two (M : List S24) (f g : S24) : sz M + sz (M ++ [g, f]) = sz (M ++ [f]) + sz (M ++ [g]) + cnt 32 (fun w => (M.all (fun f => ht f w) && !ht f w) && !ht g w) := by
  have h1 := sz_one M f
  have h2 := cnt_split 32 (fun w => M.all (fun f => ht f w) && !ht f w) (fun w => ht g w)
  have h3 : sz (M ++ [g]) = sz (M ++ [g, f]) + cnt 32 (fun w => (M ++ [g]).all (fun f => ht f w) && !ht f w) := by
    have := sz_one (M ++ [g]) f
    rw [List.append_assoc] at this
    exact this
  have h4 : cnt 32 (fun w => (M ++ [g]).all (fun f => ht f w) && !ht f w) = cnt 32 (fun w => (M.all (fun f => ht f w) && !ht f w) && ht g w) :=
    cnt_congr 32 _ _ (fun w _ => by
      simp only [all_app]
      cases M.all (fun f => ht f w) <;> cases ht f w <;> cases ht g w <;> rfl)
  exact ar2 _ _ _ _ _ _ _ _ h1 h2 h3 h4
theorem left1 (M : List S24) (f : S24) (hM : M.length ≤ 10) (hok : ∀ f ∈ M, okf f) (hf : okf f) (k : Nat) (hk : 30 ≤ k) : ∃ b, match_left.f k M [f] = some b ∧ (b = true ↔ some_w M [f]) := by
  obtain ⟨k, rfl⟩ : ∃ m, k = m + 2 := ⟨k - 2, by omega⟩
  have hok1 : ∀ x ∈ M ++ [f], okf x := fun x hx => by
    rcases List.mem_append.mp hx with h | h
    · exact hok x h
    · rw [List.mem_singleton] at h; subst h; exact hf
  have s0 : match_size.f (k + 2) M = some ((sz M : Nat) : Int) := size_eq M (by omega) hok (k + 2) (by omega)
  have s1 : match_size.f (k + 1) (M ++ [f]) = some ((sz (M ++ [f]) : Nat) : Int) := size_eq (M ++ [f]) (by simp; omega) hok1 (k + 1) (by simp; omega)
  have hl := sz_le M
  have hs := sz_one M f
  have hw : IntKind.u64.wrap (((sz M : Nat) : Int) - ((sz (M ++ [f]) : Nat) : Int)) = ((cnt 32 (fun w => M.all (fun f => ht f w) && !ht f w) : Nat) : Int) := by
    exact wr1 _ _ _ hs hl
  have hr : rd_T24 [f] 0 = f := rfl
  have hlen : M.length + [f].length < 11728124029610 := by simp; omega
  have u1 : wrap64 (0 + 1) = 1 := by decide +kernel
  unfold match_left.f
  rw [s0, ob]
  refine ⟨decide (((cnt 32 (fun w => M.all (fun f => ht f w) && !ht f w) : Nat) : Int) > 0), ?_, ?_⟩
  · simp only [match_left.l0, hr, clone_eq M hM, ob, if_pos hlen, s1, hw, u1]
    rw [if_pos (show (0 : Int) < (([f] : List S24).length : Int) from Int.one_pos), if_pos (by decide), if_pos (show (0 : Int) < (([f] : List S24).length : Int) from Int.one_pos), if_neg (by decide), if_neg (show ¬ (1 : Int) < (([f] : List S24).length : Int) from Int.lt_irrefl 1)]
  · rw [decide_eq_true_eq]
    unfold some_w
    have h := cnt_pos 32 (fun w => M.all (fun f => ht f w) && !ht f w)
    constructor
    · intro hp
      obtain ⟨w, h1, h2⟩ := h.mp ((pos_nat _).mp hp)
      rw [Bool.and_eq_true] at h2
      refine ⟨w, h1, h2.1, fun x hx => ?_⟩
      rw [List.mem_singleton] at hx
      subst hx
      simpa using h2.2
    · rintro ⟨w, h1, h2, h3⟩
      exact (pos_nat _).mpr (h.mpr ⟨w, h1, by rw [h2, h3 f (by simp)]; rfl⟩)
theorem left2 (M : List S24) (f g : S24) (hM : M.length ≤ 10) (hok : ∀ f ∈ M, okf f) (hf : okf f) (hg : okf g) (k : Nat) (hk : 30 ≤ k) : ∃ b, match_left.f k M [f, g] = some b ∧ (b = true ↔ some_w M [f, g]) := by
  obtain ⟨k, rfl⟩ : ∃ m, k = m + 3 := ⟨k - 3, by omega⟩
  have hok1 : ∀ x ∈ M ++ [f], okf x := fun x hx => by
    rcases List.mem_append.mp hx with h | h
    · exact hok x h
    · rw [List.mem_singleton] at h; subst h; exact hf
  have hok2 : ∀ x ∈ M ++ [g], okf x := fun x hx => by
    rcases List.mem_append.mp hx with h | h
    · exact hok x h
    · rw [List.mem_singleton] at h; subst h; exact hg
  have hok3 : ∀ x ∈ M ++ [g, f], okf x := fun x hx => by
    rcases List.mem_append.mp hx with h | h
    · exact hok x h
    · simp only [List.mem_cons, List.not_mem_nil, or_false] at h
      rcases h with rfl | rfl
      · exact hg
      · exact hf
  have s0 : match_size.f (k + 3) M = some ((sz M : Nat) : Int) := size_eq M (by omega) hok (k + 3) (by omega)
  have s1 : match_size.f (k + 2) (M ++ [f]) = some ((sz (M ++ [f]) : Nat) : Int) := size_eq (M ++ [f]) (by simp; omega) hok1 (k + 2) (by simp; omega)
  have s2 : match_size.f (k + 1) (M ++ [g]) = some ((sz (M ++ [g]) : Nat) : Int) := size_eq (M ++ [g]) (by simp; omega) hok2 (k + 1) (by simp; omega)
  have s3 : match_size.f (k + 1) (M ++ [g, f]) = some ((sz (M ++ [g, f]) : Nat) : Int) := size_eq (M ++ [g, f]) (by simp; omega) hok3 (k + 1) (by simp; omega)
  have l0 := sz_le M
  have l1 := sz_le (M ++ [f])
  have l2 := sz_le (M ++ [g])
  have l3 := sz_le (M ++ [g, f])
  have hs := sz_two M f g
  have hw : IntKind.u64.wrap (IntKind.u64.wrap (IntKind.u64.wrap (((sz M : Nat) : Int) - ((sz (M ++ [f]) : Nat) : Int)) - ((sz (M ++ [g]) : Nat) : Int)) + ((sz (M ++ [g, f]) : Nat) : Int)) = ((cnt 32 (fun w => (M.all (fun f => ht f w) && !ht f w) && !ht g w) : Nat) : Int) := by
    exact wr2 _ _ _ _ _ hs l0 l1 l2 l3
  have hr0 : rd_T24 [f, g] 0 = f := rfl
  have hr1 : rd_T24 [f, g] 1 = g := rfl
  have hlen1 : M.length + [f].length < 11728124029610 := by simp; omega
  have hlen2 : M.length + [g].length < 11728124029610 := by simp; omega
  have hlen3 : M.length + [g, f].length < 11728124029610 := by simp; omega
  have u1 : wrap64 (0 + 1) = 1 := by decide +kernel
  have u2 : wrap64 (1 + 1) = 2 := by decide +kernel
  have q0 : (0 : Int) < (([f, g] : List S24).length : Int) := by simp
  have q1 : (1 : Int) < (([f, g] : List S24).length : Int) := by simp
  have q2 : ¬ (2 : Int) < (([f, g] : List S24).length : Int) := by simp
  have q3 : ¬ (0 : Int) > 0 := by decide
  have q4 : (1 : Int) > 0 := by decide
  have q5 : (0 : Int) ≤ 0 := by decide
  have q6 : (0 : Int) ≤ 1 := by decide
  unfold match_left.f
  rw [s0, ob]
  refine ⟨decide (((cnt 32 (fun w => (M.all (fun f => ht f w) && !ht f w) && !ht g w) : Nat) : Int) > 0), ?_, ?_⟩
  · simp only [match_left.l0, hr0, hr1, clone_eq M hM, ob, if_pos hlen1, if_pos hlen2, if_pos hlen3, s1, s2, s3, hw, u1, u2, if_pos q0, if_pos q1, if_neg q2, if_neg q3, if_pos q4, if_pos q5, if_pos q6]
  · rw [decide_eq_true_eq]
    unfold some_w
    have h := cnt_pos 32 (fun w => (M.all (fun f => ht f w) && !ht f w) && !ht g w)
    constructor
    · intro hp
      obtain ⟨w, h1, h2⟩ := h.mp ((pos_nat _).mp hp)
      rw [Bool.and_eq_true, Bool.and_eq_true] at h2
      refine ⟨w, h1, h2.1.1, fun x hx => ?_⟩
      simp only [List.mem_cons, List.not_mem_nil, or_false] at hx
      rcases hx with rfl | rfl
      · simpa using h2.1.2
      · simpa using h2.2
    · rintro ⟨w, h1, h2, h3⟩
      exact (pos_nat _).mpr (h.mpr ⟨w, h1, by rw [h2, h3 f (by simp), h3 g (by simp)]; rfl⟩)
theorem left_eq (M A : List S24) (hM : M.length ≤ 10) (hA : A.length ≤ 2) (hok : ∀ f ∈ M, okf f) (hoa : ∀ f ∈ A, okf f) (k : Nat) (hk : 30 ≤ k) : ∃ b, match_left.f k M A = some b ∧ (b = true ↔ some_w M A) := by
  match A, hA, hoa with
  | [], _, _ => exact left0 M hM hok k hk
  | [f], _, h => exact left1 M f hM hok (h f (by simp)) k hk
  | [f, g], _, h => exact left2 M f g hM hok (h f (by simp)) (h g (by simp)) k hk

theorem hit_bits (id m w : Nat) (hi : id < 4294967296) (hm : m < 4294967296) (hw : w < 4294967296) : (((w ^^^ id) &&& m : Nat) = 0) ↔ hb id m 32 w = true := by
  have hz : (w ^^^ id) &&& m < 4294967296 := Nat.and_lt_two_pow (n := 32) _ hm
  rw [zero_bits _ hz, hb_iff]
  constructor
  · intro h i hi2 hmi
    have := h i hi2
    rw [Nat.testBit_and, Nat.testBit_xor, hmi, Bool.and_true] at this
    cases h1 : w.testBit i <;> cases h2 : id.testBit i <;> rw [h1, h2] at this <;> first | rfl | exact absurd this (by decide)
  · intro h i hi2
    rw [Nat.testBit_and, Nat.testBit_xor]
    cases hmi : m.testBit i with
    | false => rw [Bool.and_false]
    | true =>
      rw [h i hi2 hmi]
      cases id.testBit i <;> rfl
/-- Does a filter hit a word? -/
def hitF (f : S24) (w : Nat) : Bool := ht f w != f.f2
theorem hit_eq (f : S24) (hf : okf f) (w : Nat) (hw : w < 4294967296) : match_Hit.f f.f0 f.f1 f.f2 (w : Int) = some (hitF f w) := by
  obtain ⟨o1, o2, o3, o4⟩ := hf
  obtain ⟨i, hi⟩ := Int.eq_ofNat_of_zero_le o1
  obtain ⟨m, hm⟩ := Int.eq_ofNat_of_zero_le o3
  have hi2 : i < 4294967296 := by omega
  have hm2 : m < 4294967296 := by omega
  unfold match_Hit.f hitF ht
  rw [hi, hm, xor32 w i hw hi2, and32 _ m (Nat.xor_lt_two_pow (n := 32) hw hi2) hm2]
  have hbb := hit_bits i m w hi2 hm2 hw
  have e : (((((w ^^^ i) &&& m : Nat) : Int)) == 0) = hb i m 32 w := by
    rw [Bool.eq_iff_iff, ← hbb, beq_iff_eq]
    omega
  rw [e]
  rfl

def sat (M A : List S24) (w : Nat) : Prop := M.all (fun f => ht f w) = true ∧ ∀ f ∈ A, ht f w = false
theorem mask_tb (d i : Nat) (hd : d < 32) (hi : i < 32) : (4294967296 - 2 ^ d).testBit i = decide (d ≤ i) := by
  have h : ∀ d : Fin 32, ∀ i : Fin 32, (4294967296 - 2 ^ d.val).testBit i.val = decide (d.val ≤ i.val) := by decide +kernel
  exact h ⟨d, hd⟩ ⟨i, hi⟩
theorem mask_hit (d x w : Nat) (hd : d < 32) (hx : x < 4294967296) (hw : w < 4294967296) (hdx : 2 ^ d ∣ x) : hb x (4294967296 - 2 ^ d) 32 w = true ↔ x ≤ w ∧ w < x + 2 ^ d := by
  obtain ⟨q, hq⟩ := hdx
  have hp : 0 < 2 ^ d := Nat.two_pow_pos d
  have hxq : x / 2 ^ d = q := by rw [hq, Nat.mul_div_cancel_left _ hp]
  have key : hb x (4294967296 - 2 ^ d) 32 w = true ↔ w / 2 ^ d = q := by
    rw [hb_iff]
    constructor
    · intro h
      rw [← hxq]
      apply Nat.eq_of_testBit_eq
      intro i
      rw [Nat.testBit_div_two_pow, Nat.testBit_div_two_pow]
      by_cases hi : i + d < 32
      · exact h (i + d) hi (by rw [mask_tb d (i + d) hd hi]; exact decide_eq_true (by omega))
      · have hle : (2 : Nat) ^ 32 ≤ 2 ^ (i + d) := Nat.pow_le_pow_right (by decide) (by omega)
        rw [Nat.testBit_lt_two_pow (Nat.lt_of_lt_of_le hw hle), Nat.testBit_lt_two_pow (Nat.lt_of_lt_of_le hx hle)]
    · intro h i hi hm
      rw [mask_tb d i hd hi, decide_eq_true_eq] at hm
      have e1 : w.testBit i = (w / 2 ^ d).testBit (i - d) := by rw [Nat.testBit_div_two_pow]; congr 1; omega
      have e2 : x.testBit i = (x / 2 ^ d).testBit (i - d) := by rw [Nat.testBit_div_two_pow]; congr 1; omega
      rw [e1, e2, h, hxq]
  rw [key]
  have h1 := Nat.div_add_mod w (2 ^ d)
  have h2 := Nat.mod_lt w hp
  constructor
  · intro h
    rw [h, ← hq] at h1
    omega
  · rintro ⟨h3, h4⟩
    apply Nat.div_eq_of_lt_le
    · rw [Nat.mul_comm, ← hq]; exact h3
    · rw [Nat.add_mul, Nat.one_mul, Nat.mul_comm q, ← hq]; exact h4
theorem wit_l0 (M A : List S24) (hM : M.length ≤ 9) (hA : A.length ≤ 2) (hok : ∀ f ∈ M, okf f) (hoa : ∀ f ∈ A, okf f) (d : Nat) : ∀ (k x : Nat), d ≤ 32 → d + 40 ≤ k → 2 ^ d ∣ x → x + 2 ^ d ≤ 4294967296 →
    (∃ w, x ≤ w ∧ w < x + 2 ^ d ∧ sat M A w) → (∀ w, w < x → ¬ sat M A w) →
    ∃ v : Nat, match_Witness.l0 k M A x ((32 - d : Nat) : Int) = some ((v : Int), true) ∧ v < 4294967296 ∧ sat M A v ∧ ∀ w, w < v → ¬ sat M A w := by
  induction d with
  | zero =>
    rintro k x hd hk _ hx ⟨w, w1, w2, w3⟩ hn
    obtain ⟨k, rfl⟩ : ∃ m, k = m + 1 := ⟨k - 1, by omega⟩
    rw [Nat.pow_zero] at hx w2
    obtain rfl : w = x := by omega
    refine ⟨w, ?_, by omega, w3, hn⟩
    simp only [match_Witness.l0]
    rw [if_neg (by decide)]
  | succ d ih =>
    rintro k x hd hk hdx hx ⟨w, w1, w2, w3⟩ hn
    obtain ⟨k, rfl⟩ : ∃ m, k = m + 1 := ⟨k - 1, by omega⟩
    have hp : 0 < 2 ^ d := Nat.two_pow_pos d
    rw [Nat.pow_succ] at hx w2 hdx
    have hdx2 : 2 ^ d ∣ x := Nat.dvd_trans (Nat.dvd_mul_right _ _) hdx
    have hx32 : x < 4294967296 := by omega
    have hi : ((32 - (d + 1) : Nat) : Int) = 31 - (d : Int) := by omega
    have hbv : bitv ((32 - (d + 1) : Nat) : Int) = ((2 ^ d : Nat) : Int) := by
      unfold bitv
      rw [hi, show (31 - (31 - (d : Int))).toNat = d by omega]
      exact (Int.natCast_pow 2 d).symm
    have hmv : maskv ((32 - (d + 1) : Nat) : Int) = ((4294967296 - 2 ^ d : Nat) : Int) := by
      have hle : 2 ^ d ≤ 4294967296 := by omega
      have : maskv ((32 - (d + 1) : Nat) : Int) = 4294967296 - bitv ((32 - (d + 1) : Nat) : Int) := rfl
      rw [this, hbv]
      omega
    have hc : ((32 - (d + 1) : Nat) : Int) < 32 := by omega
    have hnext : ((32 - (d + 1) : Nat) : Int) + 1 = ((32 - d : Nat) : Int) := by omega
    have hokx : ∀ f ∈ M ++ [(⟨(x : Int), ((4294967296 - 2 ^ d : Nat) : Int), false⟩ : S24)], okf f := fun f hf => by
      rcases List.mem_append.mp hf with h | h
      · exact hok f h
      · rw [List.mem_singleton] at h
        subst h
        exact ⟨show (0 : Int) ≤ (x : Int) by omega, show (x : Int) < 4294967296 by omega, show (0 : Int) ≤ ((4294967296 - 2 ^ d : Nat) : Int) by omega, show ((4294967296 - 2 ^ d : Nat) : Int) < 4294967296 by omega⟩
    obtain ⟨b, b1, b2⟩ := left_eq (M ++ [(⟨(x : Int), ((4294967296 - 2 ^ d : Nat) : Int), false⟩ : S24)]) A (by simp; omega) hA hokx hoa k (by omega)
    have hht : ∀ w, w < 4294967296 → (ht (⟨(x : Int), ((4294967296 - 2 ^ d : Nat) : Int), false⟩ : S24) w = true ↔ x ≤ w ∧ w < x + 2 ^ d) := fun w hw => by
      unfold ht
      rw [Int.toNat_natCast, Int.toNat_natCast]
      exact mask_hit d x w (by omega) hx32 hw hdx2
    have hb3 : b = true ↔ ∃ w, x ≤ w ∧ w < x + 2 ^ d ∧ sat M A w := by
      rw [b2]
      constructor
      · rintro ⟨w, g1, g2, g3⟩
        rw [all_app, Bool.and_eq_true] at g2
        have g4 := (hht w g1).mp g2.2
        exact ⟨w, g4.1, g4.2, g2.1, g3⟩
      · rintro ⟨w, g1, g2, g3, g4⟩
        have g5 : w < 4294967296 := by omega
        refine ⟨w, g5, ?_, g4⟩
        rw [all_app, g3, (hht w g5).mpr ⟨g1, g2⟩]
        rfl
    simp only [match_Witness.l0, if_pos hc, hmv, b1, ob, hbv, hnext]
    cases b with
    | true =>
      rw [if_pos rfl]
      exact ih k x (by omega) (by omega) hdx2 (by omega) (hb3.mp rfl) hn
    | false =>
      rw [if_neg (by decide)]
      have hor : Go.bits .or .u32 (x : Int) ((2 ^ d : Nat) : Int) = ((x + 2 ^ d : Nat) : Int) := by
        have h2 : ((x : Int)) % 2 ^ (d + 1) = 0 := by
          obtain ⟨q, hq⟩ := hdx
          rw [hq]
          have : ((2 ^ d * 2 * q : Nat) : Int) = 2 ^ (d + 1) * (q : Int) := by
            rw [Int.natCast_mul, Int.natCast_mul, Int.natCast_pow, Int.pow_succ]; rfl
          rw [this, Int.mul_emod_right]
        have h3 : ((2 ^ d : Nat) : Int) < 2 ^ (d + 1) := by
          rw [show ((2 : Int) ^ (d + 1)) = ((2 ^ (d + 1) : Nat) : Int) from (Int.natCast_pow 2 (d + 1)).symm, Nat.pow_succ]; omega
        rw [bits_join .u32 32 (by decide) wr32 (d + 1) (x : Int) ((2 ^ d : Nat) : Int) (by omega) h2 (by omega) (by omega) h3 (by omega)]
        omega
      rw [hor]
      have hno : ∀ w, x ≤ w → w < x + 2 ^ d → ¬ sat M A w := fun w g1 g2 g3 => absurd (hb3.mpr ⟨w, g1, g2, g3⟩) (by decide)
      refine ih k (x + 2 ^ d) (by omega) (by omega) (Nat.dvd_add hdx2 (Nat.dvd_refl _)) (by omega) ⟨w, ?_, by omega, w3⟩ ?_
      · apply Nat.le_of_not_lt
        intro h
        exact hno w w1 h w3
      · intro w' h
        by_cases hw' : w' < x
        · exact hn w' hw'
        · exact hno w' (by omega) h
theorem sat_iff (a b : S24) (w : Nat) : sat (mustL a b) (avoidL a b) w ↔ (hitF b w = true ∧ hitF a w = false) := by
  unfold sat mustL avoidL hitF
  cases ha : a.f2 <;> cases hb : b.f2 <;> simp <;> cases ht a w <;> cases ht b w <;> decide
theorem wit_eq (a b : S24) (ha : okf a) (hb : okf b) (k : Nat) (hk : 100 ≤ k) :
    (∃ v : Nat, match_Witness.f k a.f0 a.f1 a.f2 b.f0 b.f1 b.f2 = some ((v : Int), true) ∧ v < 4294967296 ∧ (hitF b v = true ∧ hitF a v = false) ∧ ∀ w, w < v → ¬ (hitF b w = true ∧ hitF a w = false)) ∨
    (match_Witness.f k a.f0 a.f1 a.f2 b.f0 b.f1 b.f2 = some (0, false) ∧ ∀ w, w < 4294967296 → ¬ (hitF b w = true ∧ hitF a w = false)) := by
  have lM := must_len a b
  have lA := avoid_len a b
  have oM : ∀ f ∈ mustL a b, okf f := fun f hf => by
    unfold mustL at hf
    rcases List.mem_append.mp hf with h | h <;> split at h <;> simp at h <;> subst h <;> assumption
  have oA : ∀ f ∈ avoidL a b, okf f := fun f hf => by
    unfold avoidL at hf
    rcases List.mem_append.mp hf with h | h <;> split at h <;> simp at h <;> subst h <;> assumption
  obtain ⟨t, t1, t2⟩ := left_eq (mustL a b) (avoidL a b) (by omega) lA oM oA k (by omega)
  have e : match_Witness.f k a.f0 a.f1 a.f2 b.f0 b.f1 b.f2 = (match_left.f k (mustL a b) (avoidL a b)).bind fun t => if t = true then match_Witness.l0 k (mustL a b) (avoidL a b) 0 0 else some (0, false) := rfl
  rw [e, t1, ob]
  cases t with
  | true =>
    left
    rw [if_pos rfl]
    obtain ⟨w, w1, w2, w3⟩ := t2.mp rfl
    obtain ⟨v, v1, v2, v3, v4⟩ := wit_l0 (mustL a b) (avoidL a b) (by omega) lA oM oA 32 k 0 (by omega) (by omega) (Nat.dvd_zero _) (by decide) ⟨w, Nat.zero_le _, by rw [Nat.zero_add]; exact w1, w2, w3⟩ (fun w h => absurd h (Nat.not_lt_zero _))
    exact ⟨v, v1, v2, (sat_iff a b v).mp v3, fun w h hs => v4 w h ((sat_iff a b w).mpr hs)⟩
  | false =>
    right
    rw [if_neg (by decide)]
    refine ⟨rfl, fun w h hs => ?_⟩
    obtain ⟨g1, g2⟩ := (sat_iff a b w).mpr hs
    exact absurd (t2.mpr ⟨w, h, g1, g2⟩) (by decide)

theorem rbit_l0 (d : Nat) : ∀ (k j b x : Nat), x < 4294967296 → j ≤ b → b ≤ 100 → b - j = d → d < k → signalboxref05_bit.l0 k ((x / 2 ^ j : Nat) : Int) b j = some (x.testBit b) := by
  induction d with
  | zero =>
    intro k j b x hx hj hb hd hk
    obtain ⟨k, rfl⟩ : ∃ m, k = m + 1 := ⟨k - 1, by omega⟩
    obtain rfl : j = b := by omega
    simp only [signalboxref05_bit.l0]
    rw [if_neg (by omega)]
    congr 1
    rw [Int.tmod_eq_emod_of_nonneg (Int.natCast_nonneg _), Nat.testBit, Nat.shiftRight_eq_div_pow, Nat.one_and_eq_mod_two]
    generalize x / 2 ^ j = q
    have : q % 2 = 0 ∨ q % 2 = 1 := by omega
    rcases this with h | h
    · rw [h]
      have : ((q : Int) % 2) = 0 := by omega
      rw [this]; decide
    · rw [h]
      have : ((q : Int) % 2) = 1 := by omega
      rw [this]; decide
  | succ d ih =>
    intro k j b x hx hj hb hd hk
    obtain ⟨k, rfl⟩ : ∃ m, k = m + 1 := ⟨k - 1, by omega⟩
    simp only [signalboxref05_bit.l0]
    have hq : x / 2 ^ j < 4294967296 := Nat.lt_of_le_of_lt (Nat.div_le_self _ _) hx
    rw [if_pos (by omega), Int.tdiv_eq_ediv_of_nonneg (Int.natCast_nonneg _)]
    have e1 : (((x / 2 ^ j : Nat) : Int) / 2) % 4294967296 = ((x / 2 ^ (j + 1) : Nat) : Int) := by
      rw [Nat.pow_succ, ← Nat.div_div_eq_div_mul]
      generalize x / 2 ^ j = q at hq
      omega
    rw [e1, up1 j (by omega)]
    exact ih k (j + 1) b x hx (by omega) hb (by omega) (by omega)
theorem rbit_eq (k b x : Nat) (hx : x < 4294967296) (hb : b ≤ 40) (hk : 41 ≤ k) : signalboxref05_bit.f k (x : Int) b = some (x.testBit b) := by
  unfold signalboxref05_bit.f
  have := rbit_l0 b k 0 b x hx (by omega) (by omega) (by omega) (by omega)
  rw [Nat.pow_zero, Nat.div_one] at this
  exact this
theorem rhit_l0 (id m w : Nat) (inv : Bool) (hi : id < 4294967296) (hm : m < 4294967296) (hw : w < 4294967296) (d : Nat) : ∀ (k j : Nat) (s : Bool), j + d = 32 → d + 50 ≤ k →
    ∃ t, signalboxref05_Hit.l0 k w s j id m inv = some (t != inv) ∧ (t = true ↔ s = true ∧ ∀ i, j ≤ i → i < 32 → m.testBit i = true → w.testBit i = id.testBit i) := by
  induction d with
  | zero =>
    intro k j s hj hk
    obtain ⟨k, rfl⟩ : ∃ m, k = m + 1 := ⟨k - 1, by omega⟩
    obtain rfl : j = 32 := by omega
    refine ⟨s, ?_, ⟨fun h => ⟨h, fun i h1 h2 => by omega⟩, fun h => h.1⟩⟩
    simp only [signalboxref05_Hit.l0]
    rw [if_neg (by decide)]
  | succ d ih =>
    intro k j s hj hk
    obtain ⟨k, rfl⟩ : ∃ m, k = m + 1 := ⟨k - 1, by omega⟩
    have c1 : (j : Int) < 32 := by omega
    simp only [signalboxref05_Hit.l0, if_pos c1, rbit_eq k j m hm (by omega) (by omega), rbit_eq k j id hi (by omega) (by omega), rbit_eq k j w hw (by omega) (by omega), ob, up1 j (by omega)]
    cases hmj : m.testBit j with
    | false =>
      rw [if_neg (by decide)]
      obtain ⟨t, t1, t2⟩ := ih k (j + 1) s (by omega) (by omega)
      refine ⟨t, t1, t2.trans ⟨fun h => ⟨h.1, fun i h1 h2 h3 => ?_⟩, fun h => ⟨h.1, fun i h1 h2 h3 => h.2 i (by omega) h2 h3⟩⟩⟩
      by_cases e : i = j
      · subst e; rw [hmj] at h3; exact absurd h3 (by decide)
      · exact h.2 i (by omega) h2 h3
    | true =>
      rw [if_pos rfl]
      by_cases hne : (id.testBit j != w.testBit j) = true
      · rw [if_pos hne]
        obtain ⟨t, t1, t2⟩ := ih k (j + 1) false (by omega) (by omega)
        refine ⟨t, t1, t2.trans ⟨fun h => absurd h.1 (by decide), fun h => ?_⟩⟩
        have := h.2 j (Nat.le_refl _) (by omega) hmj
        rw [this, bne_self_eq_false] at hne
        exact absurd hne (by decide)
      · rw [if_neg hne]
        have he : id.testBit j = w.testBit j := by simpa using hne
        obtain ⟨t, t1, t2⟩ := ih k (j + 1) s (by omega) (by omega)
        refine ⟨t, t1, t2.trans ⟨fun h => ⟨h.1, fun i h1 h2 h3 => ?_⟩, fun h => ⟨h.1, fun i h1 h2 h3 => h.2 i (by omega) h2 h3⟩⟩⟩
        by_cases e : i = j
        · subst e; exact he.symm
        · exact h.2 i (by omega) h2 h3
theorem rhit_eq (f : S24) (hf : okf f) (w : Nat) (hw : w < 4294967296) (k : Nat) (hk : 90 ≤ k) : signalboxref05_Hit.f k f.f0 f.f1 f.f2 (w : Int) = some (hitF f w) := by
  obtain ⟨o1, o2, o3, o4⟩ := hf
  obtain ⟨i, hi⟩ := Int.eq_ofNat_of_zero_le o1
  obtain ⟨m, hm⟩ := Int.eq_ofNat_of_zero_le o3
  obtain ⟨t, t1, t2⟩ := rhit_l0 i m w f.f2 (by omega) (by omega) hw 32 k 0 true (by omega) (by omega)
  unfold signalboxref05_Hit.f hitF ht
  rw [hi, hm]
  rw [show ((0 : Nat) : Int) = 0 from rfl] at t1
  rw [t1]
  congr 2
  rw [Bool.eq_iff_iff, t2, Int.toNat_natCast, Int.toNat_natCast, hb_iff]
  exact ⟨fun h i hi => h.2 i (Nat.zero_le _) hi, fun h => ⟨rfl, fun i _ hi => h i hi⟩⟩

/-- The bits that the least word must have. -/
def bitB (ai am bi bm : Nat) (af bf : Bool) (i : Nat) : Bool := if (!bf && bm.testBit i) = true then bi.testBit i else (af && am.testBit i && ai.testBit i)
def bs (p : Nat → Bool) : Nat → Nat
  | 0 => 0
  | n + 1 => 2 * bs p n + (if p (31 - n) = true then 1 else 0)
theorem bs_lt (p : Nat → Bool) (n : Nat) : bs p n < 2 ^ n := by
  induction n with
  | zero => exact Nat.one_pos
  | succ n ih => simp only [bs]; rw [Nat.pow_succ]; split <;> omega
theorem bs_tb (p : Nat → Bool) (n : Nat) (hn : n ≤ 32) : ∀ i, i < n → (bs p n).testBit i = p (32 - n + i) := by
  induction n with
  | zero => intro i hi; omega
  | succ n ih =>
    intro i hi
    have ih := ih (by omega)
    simp only [bs]
    cases i with
    | zero =>
      rw [Nat.testBit_zero, show 32 - (n + 1) + 0 = 31 - n by omega]
      cases p (31 - n) with
      | true => rw [if_pos rfl]; exact decide_eq_true (by omega)
      | false => rw [if_neg (by decide)]; exact decide_eq_false (by omega)
    | succ i =>
      rw [Nat.testBit_succ, show 32 - (n + 1) + (i + 1) = 32 - n + i by omega, ← ih i (by omega)]
      congr 1
      split <;> omega
/-- A word with one bit turned; of 32 none. -/
def flipN (w i : Nat) : Nat := if 31 < i then w else if w.testBit i = true then (w + 4294967296 - 2 ^ i) % 4294967296 else (w + 2 ^ i) % 4294967296
theorem flipN_lt (w i : Nat) (h : w < 4294967296) : flipN w i < 4294967296 := by
  unfold flipN
  split
  · exact h
  · split <;> exact Nat.mod_lt _ (by decide)
theorem flip_l0 (w : Nat) (hw : w < 4294967296) (i : Nat) (hi : i < 32) (d : Nat) : ∀ (k j : Nat), j + d = i → d + 50 ≤ k → signalboxref05_flip.l0 k w i ((2 ^ j : Nat) : Int) j = some ((flipN w i : Nat) : Int) := by
  induction d with
  | zero =>
    intro k j hj hk
    obtain ⟨k, rfl⟩ : ∃ m, k = m + 1 := ⟨k - 1, by omega⟩
    obtain rfl : j = i := by omega
    have hlt : ¬ (j : Int) < (j : Int) := Int.lt_irrefl _
    have hp : 2 ^ j ≤ 2147483648 := Nat.pow_le_pow_right (n := 2) (by decide) (show j ≤ 31 by omega)
    have hp0 : 0 < 2 ^ j := Nat.two_pow_pos j
    simp only [signalboxref05_flip.l0, if_neg hlt, rbit_eq k j w hw (by omega) (by omega), ob]
    unfold flipN
    rw [if_neg (show ¬ 31 < j by omega)]
    generalize 2 ^ j = P at hp hp0
    cases w.testBit j with
    | true => rw [if_pos rfl, if_pos rfl]; congr 1; omega
    | false => rw [if_neg (by decide), if_neg (by decide)]; congr 1
  | succ d ih =>
    intro k j hj hk
    obtain ⟨k, rfl⟩ : ∃ m, k = m + 1 := ⟨k - 1, by omega⟩
    have c1 : (j : Int) < (i : Int) := by omega
    have hp : 2 ^ j ≤ 1073741824 := Nat.pow_le_pow_right (n := 2) (by decide) (show j ≤ 30 by omega)
    have e : (2 * ((2 ^ j : Nat) : Int)) % 4294967296 = ((2 ^ (j + 1) : Nat) : Int) := by
      rw [Nat.pow_succ]
      generalize 2 ^ j = P at hp
      omega
    simp only [signalboxref05_flip.l0, if_pos c1, e, up1 j (by omega)]
    exact ih k (j + 1) (by omega) (by omega)
theorem flip_eq (w : Nat) (hw : w < 4294967296) (i : Nat) (hi : i ≤ 32) (k : Nat) (hk : 90 ≤ k) : signalboxref05_flip.f k (w : Int) (i : Int) = some ((flipN w i : Nat) : Int) := by
  unfold signalboxref05_flip.f
  by_cases h : i = 32
  · subst h
    rw [if_pos (by decide)]
    rfl
  · rw [if_neg (by omega)]
    have := flip_l0 w hw i (by omega) i k 0 (by omega) (by omega)
    rw [Nat.pow_zero] at this
    exact this
theorem rw_l0 (ai am bi bm : Nat) (af bf : Bool) (h1 : ai < 4294967296) (h2 : am < 4294967296) (h3 : bi < 4294967296) (h4 : bm < 4294967296) (d : Nat) : ∀ (k n : Nat), n + d = 32 → 2 * d + 60 ≤ k →
    ∃ k', signalboxref05_Witness.l0 k ((bs (bitB ai am bi bm af bf) n : Nat) : Int) (31 - (n : Int)) ai am af bi bm bf = signalboxref05_Witness.l1 k' ((bs (bitB ai am bi bm af bf) 32 : Nat) : Int) 0 false 0 ai am af bi bm bf ∧ k' + 2 * d + 1 = k := by
  induction d with
  | zero =>
    intro k n hn hk
    obtain ⟨k, rfl⟩ : ∃ m, k = m + 1 := ⟨k - 1, by omega⟩
    obtain rfl : n = 32 := by omega
    refine ⟨k, ?_, by omega⟩
    simp only [signalboxref05_Witness.l0]
    rw [if_neg (by decide)]
  | succ d ih =>
    intro k n hn hk
    obtain ⟨k, rfl⟩ : ∃ m, k = m + 2 := ⟨k - 2, by omega⟩
    have hlt := bs_lt (bitB ai am bi bm af bf) n
    have hp : 2 ^ n ≤ 2147483648 := Nat.pow_le_pow_right (n := 2) (by decide) (show n ≤ 31 by omega)
    have c1 : (31 - (n : Int)) ≥ 0 := by omega
    have en : (31 - (n : Int)) = ((31 - n : Nat) : Int) := by omega
    have ew : wrap64 ((31 - (n : Int)) - 1) = 31 - ((n + 1 : Nat) : Int) := by rw [w64 (by omega) (by omega)]; omega
    obtain ⟨k', i1, i2⟩ := ih k (n + 1) (by omega) (by omega)
    clear ih
    have hb : bs (bitB ai am bi bm af bf) (n + 1) = 2 * bs (bitB ai am bi bm af bf) n + (if bitB ai am bi bm af bf (31 - n) = true then 1 else 0) := rfl
    refine ⟨k', ?_, by omega⟩
    have r1 := fun k (hk : 41 ≤ k) => rbit_eq k (31 - n) bm h4 (by omega) hk
    have r2 := fun k (hk : 41 ≤ k) => rbit_eq k (31 - n) bi h3 (by omega) hk
    have r3 := fun k (hk : 41 ≤ k) => rbit_eq k (31 - n) am h2 (by omega) hk
    have r4 := fun k (hk : 41 ≤ k) => rbit_eq k (31 - n) ai h1 (by omega) hk
    rw [← en] at r1 r2 r3 r4
    rw [← i1, hb]
    clear i1 hb
    have hbit : bitB ai am bi bm af bf (31 - n) = if (!bf && bm.testBit (31 - n)) = true then bi.testBit (31 - n) else (af && am.testBit (31 - n) && ai.testBit (31 - n)) := rfl
    rw [hbit]
    generalize bs (bitB ai am bi bm af bf) n = X at hlt ⊢
    have e0 : (2 * (X : Int)) % 4294967296 = ((2 * X : Nat) : Int) := by omega
    have e1 : (((2 * X : Nat) : Int) + 1) % 4294967296 = ((2 * X + 1 : Nat) : Int) := by omega
    simp only [signalboxref05_Witness.l0, if_pos c1, signalboxref05_Witness.j1, r1 (k + 1) (by omega), r2 k (by omega), r3 k (by omega), r4 k (by omega), ob, e0, e1, ew]
    generalize 2 * X = Y
    cases bf <;> cases af <;> cases bm.testBit (31 - n) <;> cases bi.testBit (31 - n) <;> cases am.testBit (31 - n) <;> cases ai.testBit (31 - n) <;> rfl

def cand (B i k : Nat) : Nat := flipN (flipN B i) k
/-- What the search has found in what it has gone through. -/
def fnd (P : Nat → Prop) (Q : Nat → Nat → Prop) (B best : Nat) (found : Bool) : Prop :=
  (found = true → best < 4294967296 ∧ P best) ∧ (found = false → best = 0) ∧ ∀ i k, Q i k → P (cand B i k) → found = true ∧ best ≤ cand B i k
theorem fnd_mono (P : Nat → Prop) (Q R : Nat → Nat → Prop) (B best : Nat) (found : Bool) (h : fnd P Q B best found) (hr : ∀ i k, R i k → Q i k) : fnd P R B best found := ⟨h.1, h.2.1, fun i k hq hp => h.2.2 i k (hr i k hq) hp⟩
abbrev wp_ (a b : S24) (w : Nat) : Prop := hitF b w = true ∧ hitF a w = false
theorem rw_l2 (a b : S24) (ha : okf a) (hb : okf b) (B : Nat) (hB : B < 4294967296) (i : Nat) (hi : i ≤ 32) (d : Nat) : ∀ (k j best : Nat) (found : Bool), j + d = 33 → d + 120 ≤ k →
    fnd (wp_ a b) (fun i' k' => k' ≤ 32 ∧ (i' < i ∨ (i' = i ∧ k' < j))) B best found →
    ∃ (best' : Nat) (found' : Bool) (k' : Nat), signalboxref05_Witness.l2 k (B : Int) (best : Int) found (i : Int) (j : Int) a.f0 a.f1 a.f2 b.f0 b.f1 b.f2 = signalboxref05_Witness.l1 k' (B : Int) (best' : Int) found' ((i + 1 : Nat) : Int) a.f0 a.f1 a.f2 b.f0 b.f1 b.f2 ∧ k' + d + 1 = k ∧
      fnd (wp_ a b) (fun i' k' => k' ≤ 32 ∧ i' < i + 1) B best' found' := by
  induction d with
  | zero =>
    intro k j best found hj hk hf
    obtain ⟨k, rfl⟩ : ∃ m, k = m + 1 := ⟨k - 1, by omega⟩
    obtain rfl : j = 33 := by omega
    refine ⟨best, found, k, ?_, by omega, fnd_mono _ _ _ _ _ _ hf (fun i' k' h => ⟨h.1, by omega⟩)⟩
    simp only [signalboxref05_Witness.l2, up1 i (by omega)]
    rw [if_neg (by decide)]
  | succ d ih =>
    intro k j best found hj hk hf
    obtain ⟨k, rfl⟩ : ∃ m, k = m + 1 := ⟨k - 1, by omega⟩
    have c1 : (j : Int) ≤ 32 := by omega
    have hF := flipN_lt B i hB
    have hC := flipN_lt (flipN B i) j hF
    have e1 := flip_eq B hB i hi k (by omega)
    have e2 := flip_eq (flipN B i) hF j (by omega) k (by omega)
    have e3 := rhit_eq b hb (flipN (flipN B i) j) hC k (by omega)
    have e4 := rhit_eq a ha (flipN (flipN B i) j) hC k (by omega)
    simp only [signalboxref05_Witness.l2, if_pos c1, e1, e2, e3, e4, ob, up1 j (by omega)]
    have hcd : cand B i j = flipN (flipN B i) j := rfl
    have more : ∀ i' k', (k' ≤ 32 ∧ (i' < i ∨ (i' = i ∧ k' < j + 1))) → (k' ≤ 32 ∧ (i' < i ∨ (i' = i ∧ k' < j))) ∨ (i' = i ∧ k' = j) := fun i' k' h => by omega
    have skip : ¬ wp_ a b (cand B i j) → fnd (wp_ a b) (fun i' k' => k' ≤ 32 ∧ (i' < i ∨ (i' = i ∧ k' < j + 1))) B best found := fun hno =>
      ⟨hf.1, hf.2.1, fun i' k' hq hp => by
        rcases more i' k' hq with h | ⟨rfl, rfl⟩
        · exact hf.2.2 i' k' h hp
        · exact absurd hp hno⟩
    cases h1 : hitF b (flipN (flipN B i) j) with
    | false =>
      rw [if_neg (by decide)]
      obtain ⟨b', f', k', g1, g2, g3⟩ := ih k (j + 1) best found (by omega) (by omega) (skip (fun hp => by rw [hcd] at hp; rw [hp.1] at h1; exact absurd h1 (by decide)))
      exact ⟨b', f', k', g1, by omega, g3⟩
    | true =>
      rw [if_pos rfl]
      cases h2 : hitF a (flipN (flipN B i) j) with
      | true =>
        rw [if_pos rfl]
        obtain ⟨b', f', k', g1, g2, g3⟩ := ih k (j + 1) best found (by omega) (by omega) (skip (fun hp => by rw [hcd] at hp; rw [hp.2] at h2; exact absurd h2 (by decide)))
        exact ⟨b', f', k', g1, by omega, g3⟩
      | false =>
        rw [if_neg (by decide)]
        have hP : wp_ a b (cand B i j) := ⟨h1, h2⟩
        have take : (∀ i' k', (k' ≤ 32 ∧ (i' < i ∨ (i' = i ∧ k' < j))) → wp_ a b (cand B i' k') → flipN (flipN B i) j ≤ cand B i' k') →
            fnd (wp_ a b) (fun i' k' => k' ≤ 32 ∧ (i' < i ∨ (i' = i ∧ k' < j + 1))) B (flipN (flipN B i) j) true := fun hle =>
          ⟨fun _ => ⟨hC, hP⟩, fun h => absurd h (by decide), fun i' k' hq hp => by
            rcases more i' k' hq with h | ⟨rfl, rfl⟩
            · exact ⟨rfl, hle i' k' h hp⟩
            · exact ⟨rfl, Nat.le_refl _⟩⟩
        cases found with
        | true =>
          rw [if_pos rfl]
          by_cases hlt : ((flipN (flipN B i) j : Nat) : Int) < (best : Int)
          · rw [if_pos hlt]
            obtain ⟨b', f', k', g1, g2, g3⟩ := ih k (j + 1) (flipN (flipN B i) j) true (by omega) (by omega) (take (fun i' k' hq hp => by have := (hf.2.2 i' k' hq hp).2; omega))
            exact ⟨b', f', k', g1, by omega, g3⟩
          · rw [if_neg hlt]
            obtain ⟨b', f', k', g1, g2, g3⟩ := ih k (j + 1) best true (by omega) (by omega) ⟨hf.1, hf.2.1, fun i' k' hq hp => by
              rcases more i' k' hq with h | ⟨rfl, rfl⟩
              · exact hf.2.2 i' k' h hp
              · exact ⟨rfl, by rw [hcd]; omega⟩⟩
            exact ⟨b', f', k', g1, by omega, g3⟩
        | false =>
          rw [if_neg (by decide)]
          obtain ⟨b', f', k', g1, g2, g3⟩ := ih k (j + 1) (flipN (flipN B i) j) true (by omega) (by omega) (take (fun i' k' hq hp => absurd (hf.2.2 i' k' hq hp).1 (by decide)))
          exact ⟨b', f', k', g1, by omega, g3⟩
theorem rw_l1 (a b : S24) (ha : okf a) (hb : okf b) (B : Nat) (hB : B < 4294967296) (d : Nat) : ∀ (k i best : Nat) (found : Bool), i + d = 33 → d * 40 + 200 ≤ k →
    fnd (wp_ a b) (fun i' k' => k' ≤ 32 ∧ i' < i) B best found →
    ∃ (best' : Nat) (found' : Bool), signalboxref05_Witness.l1 k (B : Int) (best : Int) found (i : Int) a.f0 a.f1 a.f2 b.f0 b.f1 b.f2 = some ((best' : Int), found') ∧ fnd (wp_ a b) (fun i' k' => k' ≤ 32 ∧ i' < 33) B best' found' := by
  induction d with
  | zero =>
    intro k i best found hi hk hf
    obtain ⟨k, rfl⟩ : ∃ m, k = m + 1 := ⟨k - 1, by omega⟩
    obtain rfl : i = 33 := by omega
    refine ⟨best, found, ?_, hf⟩
    simp only [signalboxref05_Witness.l1]
    rw [if_neg (by decide)]
  | succ d ih =>
    intro k i best found hi hk hf
    obtain ⟨k, rfl⟩ : ∃ m, k = m + 1 := ⟨k - 1, by omega⟩
    have c1 : (i : Int) ≤ 32 := by omega
    obtain ⟨b', f', k', g1, g2, g3⟩ := rw_l2 a b ha hb B hB i (by omega) 33 k 0 best found (by omega) (by omega) (fnd_mono _ _ _ _ _ _ hf (fun i' k' h => ⟨h.1, by omega⟩))
    simp only [signalboxref05_Witness.l1, if_pos c1]
    rw [show (0 : Int) = ((0 : Nat) : Int) from rfl, g1]
    exact ih k' (i + 1) b' f' (by omega) (by omega) g3
theorem tb_add (x j k : Nat) (h : x.testBit j = false) : (x + 2 ^ j).testBit k = (x.testBit k || decide (k = j)) := by
  have hp : 0 < 2 ^ (j + 1) := Nat.two_pow_pos _
  have hx := Nat.div_add_mod x (2 ^ (j + 1))
  have hr := Nat.mod_lt x hp
  generalize hq : x / 2 ^ (j + 1) = q at hx
  generalize hs : x % 2 ^ (j + 1) = r at hx hr
  subst hx
  rw [Nat.testBit_two_pow_mul_add q hr, if_pos (Nat.lt_succ_self j)] at h
  have hr2 : r < 2 ^ j := by
    apply Nat.lt_of_not_le
    intro hle
    have := tb_hi j (r - 2 ^ j) (by rw [Nat.pow_succ] at hr; omega)
    rw [show r - 2 ^ j + 2 ^ j = r by omega, h] at this
    exact absurd this (by decide)
  have hr3 : r + 2 ^ j < 2 ^ (j + 1) := by rw [Nat.pow_succ]; omega
  rw [Nat.add_assoc, Nat.testBit_two_pow_mul_add q hr3, Nat.testBit_two_pow_mul_add q hr]
  by_cases hk : k < j + 1
  · rw [if_pos hk, if_pos hk]
    by_cases hkj : k = j
    · subst hkj
      rw [tb_hi k r hr2, decide_eq_true rfl, Bool.or_true]
    · rw [tb_lo j r k (by omega), decide_eq_false hkj, Bool.or_false]
  · rw [if_neg hk, if_neg hk, decide_eq_false (by omega), Bool.or_false]
/-- One bit more of v. -/
theorem step1 (x v j : Nat) (hx : x < 4294967296) (hv : v < 4294967296) (hj : j < 32) (hs : ∀ i, x.testBit i = true → v.testBit i = true) :
    ∃ i, i ≤ 32 ∧ flipN x i < 4294967296 ∧ (∀ q, x.testBit q = true → (flipN x i).testBit q = true) ∧ (∀ q, (flipN x i).testBit q = true → v.testBit q = true) ∧ (flipN x i).testBit j = v.testBit j := by
  by_cases h : x.testBit j = v.testBit j
  · have e : flipN x 32 = x := by unfold flipN; rw [if_pos (by decide)]
    exact ⟨32, Nat.le_refl _, by rw [e]; exact hx, by rw [e]; exact fun q h => h, by rw [e]; exact hs, by rw [e]; exact h⟩
  · have h1 : x.testBit j = false := by
      cases hb : x.testBit j with
      | false => rfl
      | true => rw [hs j hb, hb] at h; exact absurd rfl h
    have h2 : v.testBit j = true := by
      cases hb : v.testBit j with
      | true => rfl
      | false => rw [h1, hb] at h; exact absurd rfl h
    have ht := fun k => tb_add x j k h1
    have hsub : ∀ q, (x + 2 ^ j).testBit q = true → v.testBit q = true := fun q hq => by
      rw [ht q, Bool.or_eq_true, decide_eq_true_eq] at hq
      rcases hq with hq | rfl
      · exact hs q hq
      · exact h2
    have hle : x + 2 ^ j ≤ v := by
      have : (x + 2 ^ j) &&& v = x + 2 ^ j := by
        apply Nat.eq_of_testBit_eq
        intro q
        rw [Nat.testBit_and]
        cases hq : (x + 2 ^ j).testBit q with
        | false => rfl
        | true => rw [hsub q hq]; rfl
      rw [← this]
      exact Nat.and_le_right
    have e : flipN x j = x + 2 ^ j := by
      unfold flipN
      rw [if_neg (by omega), if_neg (by rw [h1]; decide), Nat.mod_eq_of_lt (by omega)]
    refine ⟨j, by omega, by rw [e]; omega, ?_, by rw [e]; exact hsub, ?_⟩
    · intro q hq
      rw [e, ht q, hq, Bool.true_or]
    · rw [e, ht j, decide_eq_true rfl, Bool.or_true, h2]
theorem not_hit (i m w : Nat) (h : hb i m 32 w = false) : ∃ j, j < 32 ∧ m.testBit j = true ∧ w.testBit j ≠ i.testBit j := by
  apply Classical.byContradiction
  intro hno
  have : hb i m 32 w = true := (hb_iff i m 32 w).mpr (fun j hj hm => by
    apply Classical.byContradiction
    intro hne
    exact hno ⟨j, hj, hm, hne⟩)
  rw [h] at this
  exact absurd this (by decide)
/-- The least word is one of those that are tried. -/
theorem cand_min (ai am bi bm : Nat) (af bf : Bool) (v : Nat) (hv : v < 4294967296) (h1 : hb bi bm 32 v = !bf) (h2 : hb ai am 32 v = af)
    (hmin : ∀ w, w < v → ¬ (hb bi bm 32 w = (!bf) ∧ hb ai am 32 w = af)) : ∃ i k, i ≤ 32 ∧ k ≤ 32 ∧ cand (bs (bitB ai am bi bm af bf) 32) i k = v := by
  have hB : bs (bitB ai am bi bm af bf) 32 < 4294967296 := bs_lt _ 32
  have hbt : ∀ i, i < 32 → (bs (bitB ai am bi bm af bf) 32).testBit i = bitB ai am bi bm af bf i := fun i hi => by
    have := bs_tb (bitB ai am bi bm af bf) 32 (Nat.le_refl _) i hi
    rw [show 32 - 32 + i = i by omega] at this
    exact this
  -- a must bit of v is as the base has it
  have mustb : bf = false → ∀ i, i < 32 → bm.testBit i = true → (bs (bitB ai am bi bm af bf) 32).testBit i = v.testBit i := fun hbf i hi hm => by
    subst hbf
    rw [hbt i hi, (hb_iff bi bm 32 v).mp h1 i hi hm]
    unfold bitB
    rw [hm]; rfl
  have musta : af = true → ∀ i, i < 32 → am.testBit i = true → (bs (bitB ai am bi bm af bf) 32).testBit i = v.testBit i := fun haf i hi hm => by
    subst haf
    rw [hbt i hi]
    unfold bitB
    by_cases hc : (!bf && bm.testBit i) = true
    · rw [if_pos hc]
      rw [Bool.and_eq_true, Bool.not_eq_true'] at hc
      rw [hc.1] at h1
      exact ((hb_iff bi bm 32 v).mp h1 i hi hc.2).symm
    · rw [if_neg hc, hm, (hb_iff ai am 32 v).mp h2 i hi hm]; rfl
  have hsub : ∀ i, (bs (bitB ai am bi bm af bf) 32).testBit i = true → v.testBit i = true := fun i hb1 => by
    by_cases hi : i < 32
    · by_cases hc : (!bf && bm.testBit i) = true
      · rw [Bool.and_eq_true, Bool.not_eq_true'] at hc
        rw [← mustb hc.1 i hi hc.2]; exact hb1
      · have := hbt i hi
        rw [hb1] at this
        unfold bitB at this
        rw [if_neg hc] at this
        have h3 := this.symm
        rw [Bool.and_eq_true, Bool.and_eq_true] at h3
        rw [← musta h3.1.1 i hi h3.1.2]; exact hb1
    · rw [Nat.testBit_lt_two_pow (Nat.lt_of_lt_of_le hB (show 2 ^ 32 ≤ 2 ^ i from Nat.pow_le_pow_right (by decide) (by omega)))] at hb1
      exact absurd hb1 (by decide)
  obtain ⟨jb, jb1, jb2⟩ : ∃ j, j < 32 ∧ (bf = true → bm.testBit j = true ∧ v.testBit j ≠ bi.testBit j) := by
    cases bf with
    | true => obtain ⟨j, x1, x2, x3⟩ := not_hit bi bm v h1; exact ⟨j, x1, fun _ => ⟨x2, x3⟩⟩
    | false => exact ⟨0, by decide, fun h => absurd h (by decide)⟩
  obtain ⟨ja, ja1, ja2⟩ : ∃ j, j < 32 ∧ (af = false → am.testBit j = true ∧ v.testBit j ≠ ai.testBit j) := by
    cases af with
    | false => obtain ⟨j, x1, x2, x3⟩ := not_hit ai am v h2; exact ⟨j, x1, fun _ => ⟨x2, x3⟩⟩
    | true => exact ⟨0, by decide, fun h => absurd h (by decide)⟩
  generalize bs (bitB ai am bi bm af bf) 32 = B at *
  obtain ⟨i, i1, i2, i3, i4, i5⟩ := step1 B v jb hB hv jb1 hsub
  obtain ⟨k, k1, k2, k3, k4, k5⟩ := step1 (flipN B i) v ja i2 hv ja1 i4
  refine ⟨i, k, i1, k1, ?_⟩
  unfold cand
  have up : ∀ q, B.testBit q = true → (flipN (flipN B i) k).testBit q = true := fun q hq => k3 q (i3 q hq)
  have between : ∀ q, B.testBit q = v.testBit q → (flipN (flipN B i) k).testBit q = v.testBit q := fun q hq => by
    cases hvq : v.testBit q with
    | true => exact up q (by rw [hq, hvq])
    | false =>
      cases hc : (flipN (flipN B i) k).testBit q with
      | false => rfl
      | true => rw [k4 q hc] at hvq; exact absurd hvq (by decide)
  have atb : (flipN (flipN B i) k).testBit jb = v.testBit jb := by
    cases hvq : v.testBit jb with
    | true => exact k3 jb (by rw [i5, hvq])
    | false =>
      cases hc : (flipN (flipN B i) k).testBit jb with
      | false => rfl
      | true => rw [k4 jb hc] at hvq; exact absurd hvq (by decide)
  have hle : flipN (flipN B i) k ≤ v := by
    have : flipN (flipN B i) k &&& v = flipN (flipN B i) k := by
      apply Nat.eq_of_testBit_eq
      intro q
      rw [Nat.testBit_and]
      cases hq : (flipN (flipN B i) k).testBit q with
      | false => rfl
      | true => rw [k4 q hq]; rfl
    rw [← this]
    exact Nat.and_le_right
  apply Nat.le_antisymm hle
  apply Nat.le_of_not_lt
  intro hlt
  apply hmin _ hlt
  constructor
  · cases bf with
    | false =>
      exact (hb_iff bi bm 32 _).mpr (fun q hq hm => by rw [between q (mustb rfl q hq hm)]; exact (hb_iff bi bm 32 v).mp h1 q hq hm)
    | true =>
      cases hc : hb bi bm 32 (flipN (flipN B i) k) with
      | false => rfl
      | true =>
        have := (hb_iff bi bm 32 _).mp hc jb jb1 (jb2 rfl).1
        rw [atb] at this
        exact absurd this (jb2 rfl).2
  · cases af with
    | true =>
      exact (hb_iff ai am 32 _).mpr (fun q hq hm => by rw [between q (musta rfl q hq hm)]; exact (hb_iff ai am 32 v).mp h2 q hq hm)
    | false =>
      cases hc : hb ai am 32 (flipN (flipN B i) k) with
      | false => rfl
      | true =>
        have := (hb_iff ai am 32 _).mp hc ja ja1 (ja2 rfl).1
        rw [k5] at this
        exact absurd this (ja2 rfl).2

theorem alive_k : ∃ K, ∀ k, K ≤ k → signalboxlaw05_alive.f k = some true :=
  Ev.of signalboxlaw05_alive.mono (k := 60) (by decide +kernel)

theorem MatchWitness : signalboxlaw05_MatchWitness.Pure := by
  intro a0 a1 a2 b0 b1 b2 ha0 ha1 hb0 hb1
  have g1 := wf_u32 ha0
  have g2 := wf_u32 ha1
  have g3 := wf_u32 hb0
  have g4 := wf_u32 hb1
  obtain ⟨ai, rfl⟩ := Int.eq_ofNat_of_zero_le g1.1
  obtain ⟨am, rfl⟩ := Int.eq_ofNat_of_zero_le g2.1
  obtain ⟨bi, rfl⟩ := Int.eq_ofNat_of_zero_le g3.1
  obtain ⟨bm, rfl⟩ := Int.eq_ofNat_of_zero_le g4.1
  obtain ⟨K, hal⟩ := alive_k
  obtain ⟨M, hM⟩ : ∃ M, M = K + 3000 := ⟨_, rfl⟩
  refine ⟨M, ?_⟩
  have A := hal M (by omega)
  have oa : okf (⟨ai, am, a2⟩ : S24) := ⟨g1.1, show (ai : Int) < 4294967296 by omega, g2.1, show (am : Int) < 4294967296 by omega⟩
  have obb : okf (⟨bi, bm, b2⟩ : S24) := ⟨g3.1, show (bi : Int) < 4294967296 by omega, g4.1, show (bm : Int) < 4294967296 by omega⟩
  have hB : bs (bitB ai am bi bm a2 b2) 32 < 4294967296 := bs_lt _ 32
  have hP : ∀ w, wp_ (⟨ai, am, a2⟩ : S24) (⟨bi, bm, b2⟩ : S24) w ↔ (hb bi bm 32 w = (!b2) ∧ hb ai am 32 w = a2) := fun w => by
    unfold wp_ hitF ht
    simp only [Int.toNat_natCast]
    cases hb bi bm 32 w <;> cases hb ai am 32 w <;> cases a2 <;> cases b2 <;> decide
  obtain ⟨k1, r1, r2⟩ := rw_l0 ai am bi bm a2 b2 (by omega) (by omega) (by omega) (by omega) 32 M 0 (by omega) (by omega)
  obtain ⟨best, found, r3, r4⟩ := rw_l1 (⟨ai, am, a2⟩ : S24) (⟨bi, bm, b2⟩ : S24) oa obb (bs (bitB ai am bi bm a2 b2) 32) hB 33 k1 0 0 false (by omega) (by omega) ⟨fun h => absurd h (by decide), fun _ => rfl, fun i k h => by omega⟩
  have rr : signalboxref05_Witness.f M (ai : Int) (am : Int) a2 (bi : Int) (bm : Int) b2 = some ((best : Int), found) := by
    unfold signalboxref05_Witness.f
    exact r1.trans r3
  have cv : match_Covers.f M (ai : Int) (am : Int) a2 (bi : Int) (bm : Int) b2 = (match_Witness.f M (ai : Int) (am : Int) a2 (bi : Int) (bm : Int) b2).bind fun t => some (!t.2) := rfl
  rcases wit_eq (⟨ai, am, a2⟩ : S24) (⟨bi, bm, b2⟩ : S24) oa obb M (by omega) with ⟨v, e, v1, v2, v4⟩ | ⟨e, v4⟩
  · have e' : match_Witness.f M (ai : Int) (am : Int) a2 (bi : Int) (bm : Int) b2 = some ((v : Int), true) := e
    obtain ⟨i, k, i1, k1, ik⟩ := cand_min ai am bi bm a2 b2 v v1 ((hP v).mp v2).1 ((hP v).mp v2).2 (fun w hw h => v4 w hw ((hP w).mpr h))
    have hc := r4.2.2 i k ⟨k1, by omega⟩ (by rw [ik]; exact v2)
    have hf : found = true := hc.1
    subst hf
    have hbest : best = v := by
      have h1 := hc.2
      rw [ik] at h1
      have h2 := (r4.1 rfl).2
      apply Nat.le_antisymm h1
      apply Nat.le_of_not_lt
      intro hlt
      exact v4 best hlt h2
    subst hbest
    simp only [signalboxlaw05_MatchWitness.f, e', rr, cv, ob, if_true, beq_self_eq_true, A]
  · have e' : match_Witness.f M (ai : Int) (am : Int) a2 (bi : Int) (bm : Int) b2 = some (0, false) := e
    have hf : found = false := by
      cases found with
      | false => rfl
      | true => exact absurd (r4.1 rfl).2 (v4 best (r4.1 rfl).1)
    subst hf
    have hb0 : best = 0 := r4.2.1 rfl
    subst hb0
    have rr' : signalboxref05_Witness.f M (ai : Int) (am : Int) a2 (bi : Int) (bm : Int) b2 = some (0, false) := rr
    simp only [signalboxlaw05_MatchWitness.f, e', rr', cv, ob, if_true, beq_self_eq_true, A]

end Go.Proofs.Ytegcifhghjneaaa.Pure
