/- MatrixPlans: who may send in any cycle, cycle by cycle, and in how many nobody may, is as the document says. Conditions: none beyond the statement's own. -/
import Derived.Test.YtlikjdeaippjiaaPMatrixPlansx5
namespace Go.Proofs.Ytlikjdeaippjiaa.Pure
open Go.RowKit Go.Proofs.Ytlikjdeaippjiaa.PMatrixPlans Go.Proofs.YtlikjdeaippjiaaW.PrintWords Go.Proofs.YtlikjdeaippjiaaW.PrintLast
set_option linter.unusedVariables false
set_option linter.unusedSimpArgs false

theorem wf_i64 {n : Int} (h : (Lit.int .i64 n).wf = true) : -9223372036854775808 ≤ n ∧ n ≤ 9223372036854775807 := by
  simp only [Lit.wf, Bool.and_eq_true, decide_eq_true_eq] at h
  exact h
theorem wf_u32 {n : Int} (h : (Lit.int .u32 n).wf = true) : 0 ≤ n ∧ n ≤ 4294967295 := by
  simp only [Lit.wf, Bool.and_eq_true, decide_eq_true_eq] at h
  exact h
theorem wf_i32 {n : Int} (h : (Lit.int .i32 n).wf = true) : -2147483648 ≤ n ∧ n ≤ 2147483647 := by
  simp only [Lit.wf, Bool.and_eq_true, decide_eq_true_eq] at h
  exact h
theorem w64 {n : Int} (h0 : -9223372036854775808 ≤ n) (h1 : n ≤ 9223372036854775807) : wrap64 n = n := by unfold wrap64; omega

/-- 'Option.bind_some' as an equation that simp carries along (not by 'rfl': else the kernel unfolds what is bound). -/
theorem ob {α β : Type} (a : α) (f : α → Option β) : (some a).bind f = f a := by
  have h : (some a).bind f = f a := rfl
  exact h.symm.symm

/-! Windows: may one be, and when two of them meet. -/
abbrev on (x : S24) : Prop := 1 ≤ x.f1 ∧ x.f1 ≤ 1000 ∧ 0 ≤ x.f2 ∧ x.f2 < x.f1 ∧ 0 ≤ x.f0
theorem right_eq (x : S24) : matrix_right.f x.f0 x.f1 x.f2 = some (decide (on x)) := by
  unfold matrix_right.f
  by_cases h1 : x.f1 ≥ 1
  · by_cases h2 : x.f1 ≤ 1000
    · by_cases h3 : x.f2 ≥ 0
      · by_cases h4 : x.f2 < x.f1
        · rw [if_pos h1, if_pos h2, if_pos h3, if_pos h4, Option.some.injEq, decide_eq_decide]; unfold on; omega
        · rw [if_pos h1, if_pos h2, if_pos h3, if_neg h4, Option.some.injEq]; symm; rw [decide_eq_false_iff_not]; unfold on; omega
      · rw [if_pos h1, if_pos h2, if_neg h3, Option.some.injEq]; symm; rw [decide_eq_false_iff_not]; unfold on; omega
    · rw [if_pos h1, if_neg h2, Option.some.injEq]; symm; rw [decide_eq_false_iff_not]; unfold on; omega
  · rw [if_neg h1, Option.some.injEq]; symm; rw [decide_eq_false_iff_not]; unfold on; omega
theorem dvs_facts (n : Nat) : ∀ (a b : Int), b.natAbs < n → dvs n a b ∣ a ∧ dvs n a b ∣ b ∧ ∃ x y, dvs n a b = a * x + b * y := by
  induction n with
  | zero => intro a b h; omega
  | succ n ih =>
    intro a b h
    by_cases hb : b = 0
    · subst hb
      exact ⟨Int.dvd_refl a, Int.dvd_zero a, 1, 0, by simp [dvs]⟩
    · have hl := tmod_less a b hb
      obtain ⟨h1, h2, x, y, h3⟩ := ih b (Int.tmod a b) (by omega)
      have e : dvs (n + 1) a b = dvs n b (Int.tmod a b) := by simp only [dvs, if_neg hb]
      rw [e]
      have hq : a = b * Int.tdiv a b + Int.tmod a b := (Int.mul_tdiv_add_tmod a b).symm
      refine ⟨?_, h1, y, x - Int.tdiv a b * y, ?_⟩
      · have h4 := Int.dvd_add (Int.dvd_trans h1 (Int.dvd_mul_right b (Int.tdiv a b))) h2
        rw [Int.mul_tdiv_add_tmod] at h4
        exact h4
      · rw [h3]
        have : b * x + Int.tmod a b * y = (b * Int.tdiv a b + Int.tmod a b) * y + b * (x - Int.tdiv a b * y) := by
          rw [Int.add_mul, Int.mul_sub, Int.mul_assoc]; omega
        rw [this, ← hq]
abbrev hit (a b : S24) (k : Int) : Prop := k % a.f1 = a.f2 ∧ k % b.f1 = b.f2
/-- The first cycle at which two windows meet, or -1. -/
def Cl (a b : S24) (c : Int) : Prop := (on a ∧ on b ∧ 0 ≤ c ∧ hit a b c ∧ ∀ k, 0 ≤ k → k < c → ¬ hit a b k) ∨ (c = -1 ∧ (on a → on b → ∀ k, 0 ≤ k → ¬ hit a b k))
theorem Cl_uniq (a b : S24) (c d : Int) (h : Cl a b c) (h2 : Cl a b d) : c = d := by
  rcases h with ⟨a1, a2, a3, a4, a5⟩ | ⟨a1, a2⟩ <;> rcases h2 with ⟨b1, b2, b3, b4, b5⟩ | ⟨b1, b2⟩
  · by_cases h1 : c < d
    · exact absurd a4 (b5 c a3 h1)
    · by_cases h2 : d < c
      · exact absurd b4 (a5 d b3 h2)
      · omega
  · exact absurd a4 (b2 a1 a2 c a3)
  · exact absurd b4 (a2 b1 b2 d b3)
  · omega
theorem Cl_symm (a b : S24) (c : Int) (h : Cl a b c) : Cl b a c := by
  rcases h with ⟨a1, a2, a3, a4, a5⟩ | ⟨a1, a2⟩
  · exact Or.inl ⟨a2, a1, a3, ⟨a4.2, a4.1⟩, fun k h0 h1 h => a5 k h0 h1 ⟨h.2, h.1⟩⟩
  · exact Or.inr ⟨a1, fun h1 h2 k h0 h => a2 h2 h1 k h0 ⟨h.2, h.1⟩⟩
/-- Where the greatest common divisor divides the places' difference, the windows meet. -/
theorem meet (a b : S24) (ha : on a) (hb : on b) (g : Int) (hd : g ∣ a.f2 - b.f2) (x y : Int) (hg : g = a.f1 * x + b.f1 * y) : ∃ j : Nat, (j : Int) < b.f1 ∧ (a.f2 + j * a.f1) % b.f1 = b.f2 := by
  obtain ⟨c, hc⟩ := hd
  have hb1 : 0 < b.f1 := by unfold on at hb; omega
  have hr0 := Int.emod_nonneg (-(x * c)) (show b.f1 ≠ 0 by omega)
  have hr1 := Int.emod_lt_of_pos (-(x * c)) hb1
  refine ⟨((-(x * c)) % b.f1).toNat, by omega, ?_⟩
  rw [Int.toNat_of_nonneg hr0]
  have hq : -(x * c) % b.f1 = -(x * c) - b.f1 * (-(x * c) / b.f1) := by have := Int.emod_add_mul_ediv (-(x * c)) b.f1; omega
  rw [hq]
  have e : a.f2 + (-(x * c) - b.f1 * (-(x * c) / b.f1)) * a.f1 = b.f2 + b.f1 * (y * c - (-(x * c) / b.f1) * a.f1) := by
    have h1 : a.f2 = b.f2 + (a.f1 * x + b.f1 * y) * c := by rw [← hg]; omega
    generalize -(x * c) / b.f1 = q
    rw [h1, Int.sub_mul, Int.mul_sub, Int.add_mul, Int.neg_mul, ← Int.mul_assoc b.f1 y c, ← Int.mul_assoc b.f1 q a.f1]
    have : x * c * a.f1 = a.f1 * x * c := by rw [Int.mul_comm, ← Int.mul_assoc]
    omega
  rw [e, Int.add_mul_emod_self_left]
  exact Int.emod_eq_of_lt (by unfold on at hb; omega) (by unfold on at hb; omega)
/-- At a meeting the greatest common divisor divides the places' difference. -/
theorem meets (a b : S24) (k g : Int) (h : hit a b k) (h1 : g ∣ a.f1) (h2 : g ∣ b.f1) : g ∣ a.f2 - b.f2 := by
  have e1 : k - a.f2 = a.f1 * (k / a.f1) := by have := Int.emod_add_mul_ediv k a.f1; rw [h.1] at this; omega
  have e2 : k - b.f2 = b.f1 * (k / b.f1) := by have := Int.emod_add_mul_ediv k b.f1; rw [h.2] at this; omega
  have d1 : g ∣ k - a.f2 := by rw [e1]; exact Int.dvd_trans h1 (Int.dvd_mul_right _ _)
  have d2 : g ∣ k - b.f2 := by rw [e2]; exact Int.dvd_trans h2 (Int.dvd_mul_right _ _)
  have := Int.dvd_sub d2 d1
  rw [show (k - b.f2) - (k - a.f2) = a.f2 - b.f2 by omega] at this
  exact this
theorem clash_l0 (a b : S24) (ha : on a) (hb : on b) (J : Nat) (hJ : (J : Int) < b.f1) (hh : (a.f2 + J * a.f1) % b.f1 = b.f2) (d : Nat) : ∀ (k j : Nat), j + d = J → d + 1 ≤ k → (∀ i : Nat, i < j → (a.f2 + i * a.f1) % b.f1 ≠ b.f2) →
    ∃ i : Nat, i ≤ J ∧ matrix_Clash.l0 k (a.f2 + j * a.f1) a.f0 a.f1 a.f2 b.f0 b.f1 b.f2 = some (a.f2 + i * a.f1, true) ∧ (a.f2 + i * a.f1) % b.f1 = b.f2 ∧ ∀ m : Nat, m < i → (a.f2 + m * a.f1) % b.f1 ≠ b.f2 := by
  induction d with
  | zero =>
    intro k j hj hk hn
    obtain ⟨k, rfl⟩ : ∃ m, k = m + 1 := ⟨k - 1, by omega⟩
    obtain rfl : j = J := by omega
    have hp : 0 ≤ a.f2 + j * a.f1 := by unfold on at ha; have := Int.mul_nonneg (show (0 : Int) ≤ j by omega) (show 0 ≤ a.f1 by omega); omega
    refine ⟨j, Nat.le_refl _, ?_, hh, hn⟩
    simp only [matrix_Clash.l0]
    rw [if_neg (by unfold on at hb; omega), Int.tmod_eq_emod_of_nonneg hp, if_pos hh]
  | succ d ih =>
    intro k j hj hk hn
    obtain ⟨k, rfl⟩ : ∃ m, k = m + 1 := ⟨k - 1, by omega⟩
    have hp0 := Int.mul_nonneg (show (0 : Int) ≤ j by omega) (show 0 ≤ a.f1 by unfold on at ha; omega)
    have hp : 0 ≤ a.f2 + j * a.f1 := by unfold on at ha; omega
    have hub : (j : Int) * a.f1 ≤ 1000 * 1000 := Int.mul_le_mul (by unfold on at hb; omega) (by unfold on at ha; omega) (by unfold on at ha; omega) (by decide)
    simp only [matrix_Clash.l0]
    rw [if_neg (by unfold on at hb; omega), Int.tmod_eq_emod_of_nonneg hp]
    by_cases hc : (a.f2 + j * a.f1) % b.f1 = b.f2
    · rw [if_pos hc]
      exact ⟨j, by omega, rfl, hc, hn⟩
    · rw [if_neg hc]
      have e : wrap64 (a.f2 + j * a.f1 + a.f1) = a.f2 + ((j + 1 : Nat) : Int) * a.f1 := by
        rw [w64 (by unfold on at ha; omega) (by unfold on at ha; omega)]
        rw [Int.natCast_add, Int.add_mul]; omega
      rw [e]
      exact ih k (j + 1) (by omega) (by omega) (fun i hi => by
        by_cases h : i = j
        · subst h; exact hc
        · exact hn i (by omega))
theorem mclash (a b : S24) (k : Nat) (hk : 1010 ≤ k) : ∃ n is, matrix_Clash.f k a.f0 a.f1 a.f2 b.f0 b.f1 b.f2 = some (n, is) ∧ ((is = true ∧ 0 ≤ n ∧ Cl a b n) ∨ (is = false ∧ n = 0 ∧ Cl a b (-1))) := by
  obtain ⟨k, rfl⟩ : ∃ m, k = m + 1 := ⟨k - 1, by omega⟩
  have ht : matrix_Clash.j0 (k + 1) true a.f0 a.f1 a.f2 b.f0 b.f1 b.f2 = some (0, false) := rfl
  simp only [matrix_Clash.f, right_eq, ob]
  by_cases ha : on a
  · rw [if_pos (decide_eq_true ha)]
    by_cases hb : on b
    · rw [decide_eq_true hb]
      have m1 : mx a.f1 1 = a.f1 := by unfold on at ha; unfold mx; split <;> omega
      have m2 : mx b.f1 1 = b.f1 := by unfold on at hb; unfold mx; split <;> omega
      obtain ⟨g1, g2, x, y, g3⟩ := dvs_facts (b.f1.natAbs + 1) a.f1 b.f1 (by omega)
      have hg0 : dvs (b.f1.natAbs + 1) a.f1 b.f1 ≠ 0 := by
        intro h
        rw [h] at g1
        have := Int.zero_dvd.mp g1
        unfold on at ha; omega
      have hw : wrap64 (a.f2 - b.f2) = a.f2 - b.f2 := by unfold on at ha hb; exact w64 (by omega) (by omega)
      simp only [matrix_Clash.j0, matrix_divisor.f, m1, m2, ob, hw, Bool.not_true, Bool.false_eq_true, if_false, if_neg hg0]
      generalize dvs (b.f1.natAbs + 1) a.f1 b.f1 = g at *
      by_cases hd : Int.tmod (a.f2 - b.f2) g = 0
      · rw [if_pos hd]
        obtain ⟨J, hJ, hh⟩ := meet a b ha hb g (Int.dvd_of_tmod_eq_zero hd) x y g3
        obtain ⟨i, hi, e, hc, hm⟩ := clash_l0 a b ha hb J hJ hh J k 0 (by omega) (by unfold on at hb; omega) (fun i hi => by omega)
        have e0 : a.f2 + ((0 : Nat) : Int) * a.f1 = a.f2 := by simp
        rw [e0] at e
        have hp0 := Int.mul_nonneg (show (0 : Int) ≤ i by omega) (show 0 ≤ a.f1 by unfold on at ha; omega)
        have hA : ∀ m : Nat, (a.f2 + m * a.f1) % a.f1 = a.f2 := fun m => by
          rw [Int.add_mul_emod_self_right]; exact Int.emod_eq_of_lt (by unfold on at ha; omega) (by unfold on at ha; omega)
        refine ⟨_, _, e, Or.inl ⟨rfl, by unfold on at ha; omega, Or.inl ⟨ha, hb, by unfold on at ha; omega, ⟨hA i, hc⟩, ?_⟩⟩⟩
        intro q hq0 hq1 hqh
        have hqe : q = a.f2 + ((q / a.f1).toNat : Int) * a.f1 := by
          have h1 := Int.emod_add_mul_ediv q a.f1
          rw [hqh.1, Int.mul_comm] at h1
          rw [Int.toNat_of_nonneg (Int.ediv_nonneg hq0 (by unfold on at ha; omega))]
          omega
        have hlt : (q / a.f1).toNat < i := by
          apply Nat.lt_of_not_le
          intro hge
          have := Int.mul_le_mul_of_nonneg_right (show (i : Int) ≤ ((q / a.f1).toNat : Int) by omega) (show 0 ≤ a.f1 by unfold on at ha; omega)
          omega
        exact hm _ hlt (by rw [← hqe]; exact hqh.2)
      · rw [if_neg hd]
        refine ⟨0, false, rfl, Or.inr ⟨rfl, rfl, Or.inr ⟨rfl, fun _ _ q _ hq => hd ?_⟩⟩⟩
        exact Int.tmod_eq_zero_of_dvd (meets a b q g hq g1 g2)
    · rw [decide_eq_false hb, Bool.not_false, ht]
      exact ⟨0, false, rfl, Or.inr ⟨rfl, rfl, Or.inr ⟨rfl, fun _ h => absurd h hb⟩⟩⟩
  · rw [if_neg (by simpa using ha), ht]
    exact ⟨0, false, rfl, Or.inr ⟨rfl, rfl, Or.inr ⟨rfl, fun h => absurd h ha⟩⟩⟩
/-- The list's errno. -/
def rt (l : List S24) : Int := if (l.length : Int) > 64 then 9 else if l.all (fun x => decide (on x)) = true then 0 else 2
theorem rd_at (l : List S24) (j : Nat) (hj : j < l.length) : rd_T24 l (j : Int) = l[j] := by unfold rd_T24; simp [hj]
theorem idxO_pright (l : List S24) : ∀ i : Int, 0 ≤ i → ∃ r, idxO pright i l = some r ∧ (0 ≤ r ↔ l.all (fun x => decide (on x)) = false) := by
  induction l with
  | nil => intro i _; exact ⟨-1, rfl, by simp⟩
  | cons x l ih =>
    intro i hi
    have e : pright x = some (!decide (on x)) := by unfold pright; rw [right_eq, ob]
    simp only [idxO, e, ob]
    by_cases hx : on x
    · obtain ⟨r, h1, h2⟩ := ih (i + 1) (by omega)
      refine ⟨r, by rw [decide_eq_true hx, if_neg (by decide)]; exact h1, ?_⟩
      rw [h2, List.all_cons, decide_eq_true hx, Bool.true_and]
    · refine ⟨i, by rw [decide_eq_false hx, if_pos (by decide)], ?_⟩
      rw [List.all_cons, decide_eq_false hx, Bool.false_and]
      simp [hi]
theorem mright (l : List S24) : matrix_Right.f l = some (rt l) := by
  unfold matrix_Right.f rt
  by_cases hz : (l.length : Int) > 64
  · rw [if_pos hz, if_pos hz]
  · rw [if_neg hz, if_neg hz]
    obtain ⟨r, h1, h2⟩ := idxO_pright l 0 (by decide)
    rw [h1, ob]
    cases ha : l.all (fun x => decide (on x)) with
    | true => rw [ha] at h2; rw [if_neg (by rw [h2]; decide), if_pos rfl]
    | false => rw [ha] at h2; rw [if_pos (h2.mpr rfl), if_neg (by decide)]

/-- The first cycle of two windows, or -1. -/
def cz (a b : S24) : Int := ((matrix_Clash.f 1010 a.f0 a.f1 a.f2 b.f0 b.f1 b.f2).bind fun t => some (if t.2 = true then t.1 else -1)).getD (-1)
theorem cz_ok (a b : S24) : Cl a b (cz a b) := by
  obtain ⟨n, is, h, hc⟩ := mclash a b 1010 (Nat.le_refl _)
  unfold cz
  rw [h, ob]
  rcases hc with ⟨rfl, h0, hc⟩ | ⟨rfl, rfl, hc⟩
  · exact hc
  · exact hc
theorem mclash2 (a b : S24) (k : Nat) (hk : 1010 ≤ k) : matrix_Clash.f k a.f0 a.f1 a.f2 b.f0 b.f1 b.f2 = some (if 0 ≤ cz a b then (cz a b, true) else (0, false)) := by
  obtain ⟨n, is, h, hc⟩ := mclash a b k hk
  rw [h]
  rcases hc with ⟨rfl, h0, hc⟩ | ⟨rfl, rfl, hc⟩
  · rw [Cl_uniq a b _ _ (cz_ok a b) hc, if_pos h0]
  · rw [Cl_uniq a b _ _ (cz_ok a b) hc, if_neg (by decide)]
theorem cz_symm (a b : S24) : cz a b = cz b a := Cl_uniq a b _ _ (cz_ok a b) (Cl_symm _ _ _ (cz_ok b a))
theorem cz_hit (a b : S24) (ha : on a) (hb : on b) (c : Int) (h0 : 0 ≤ c) (h : hit a b c) : 0 ≤ cz a b := by
  rcases cz_ok a b with ⟨_, _, h1, _, _⟩ | ⟨_, h2⟩
  · exact h1
  · exact absurd h (h2 ha hb c h0)
theorem cz_pos (a b : S24) (h : 0 ≤ cz a b) : on a ∧ on b ∧ hit a b (cz a b) := by
  rcases cz_ok a b with ⟨h1, h2, _, h3, _⟩ | ⟨h2, _⟩
  · exact ⟨h1, h2, h3⟩
  · omega
/-- Whose owner it is makes no difference. -/
theorem cz_owner (x : S24) (o p e t : Int) (ho : 0 ≤ o) (hp : 0 ≤ p) : cz x ⟨o, e, t⟩ = cz x ⟨p, e, t⟩ := by
  apply Cl_uniq x ⟨o, e, t⟩ _ _ (cz_ok x ⟨o, e, t⟩)
  rcases cz_ok x ⟨p, e, t⟩ with ⟨a1, a2, a3, a4, a5⟩ | ⟨a1, a2⟩
  · exact Or.inl ⟨a1, ⟨a2.1, a2.2.1, a2.2.2.1, a2.2.2.2.1, ho⟩, a3, a4, a5⟩
  · exact Or.inr ⟨a1, fun h1 h2 => a2 h1 ⟨h2.1, h2.2.1, h2.2.2.1, h2.2.2.2.1, hp⟩⟩
theorem idxO_some {α : Type} (p : α → Option Bool) (q : α → Bool) (h : ∀ x, p x = some (q x)) (l : List α) : ∀ i : Int, 0 ≤ i → ∃ r, idxO p i l = some r ∧ decide (0 ≤ r) = l.any q := by
  induction l with
  | nil => intro i _; exact ⟨-1, rfl, rfl⟩
  | cons x l ih =>
    intro i hi
    simp only [idxO, h, ob]
    cases hq : q x with
    | true => exact ⟨i, by rw [if_pos rfl], by rw [List.any_cons, hq, Bool.true_or]; exact decide_eq_true hi⟩
    | false =>
      obtain ⟨r, h1, h2⟩ := ih (i + 1) (by omega)
      exact ⟨r, by rw [if_neg (by decide)]; exact h1, by rw [List.any_cons, hq, Bool.false_or]; exact h2⟩
theorem mclashes (l : List S24) (hl : l.length ≤ 100000) (a b c : Int) (k : Nat) (hk : 1010 ≤ k) : matrix_clashes.f k l a b c = some (l.any (fun x => decide (0 ≤ cz x ⟨a, b, c⟩))) := by
  unfold matrix_clashes.f
  rw [if_pos (by omega)]
  obtain ⟨r, h1, h2⟩ := idxO_some (pclash k a b c) (fun x => decide (0 ≤ cz x ⟨a, b, c⟩)) (fun x => by
    unfold pclash
    rw [mclash2 x ⟨a, b, c⟩ k hk, ob]
    by_cases h : 0 ≤ cz x ⟨a, b, c⟩
    · rw [if_pos h, decide_eq_true h]
    · rw [if_neg h, decide_eq_false h]) l 0 (by decide)
  rw [h1, ob, h2]
theorem any_take (l : List S24) (q : S24 → Bool) (j : Nat) (hj : j ≤ l.length) : (l.take j).any q = true ↔ ∃ i : Nat, i < j ∧ q (rd_T24 l (i : Int)) = true := by
  rw [List.any_eq_true]
  constructor
  · rintro ⟨x, hx, hq⟩
    obtain ⟨i, hi, rfl⟩ := List.mem_take_iff_getElem.mp hx
    refine ⟨i, by omega, ?_⟩
    rw [rd_at l i (by omega)]; exact hq
  · rintro ⟨i, hi, hq⟩
    rw [rd_at l i (by omega)] at hq
    exact ⟨l[i], List.mem_take_iff_getElem.mpr ⟨i, by omega, rfl⟩, hq⟩
/-- No two of the first n windows meet. -/
def Pw (l : List S24) (n : Nat) : Prop := ∀ i j : Nat, i < j → j < n → cz (rd_T24 l (i : Int)) (rd_T24 l (j : Int)) < 0
theorem up1 (j : Nat) (h : j < 1000000000) : wrap64 ((j : Int) + 1) = ((j + 1 : Nat) : Int) := by rw [w64 (by omega) (by omega)]; omega
theorem clean_l0 (l : List S24) (hl : l.length ≤ 100000) (d : Nat) : ∀ (k j : Nat), j + d = l.length → d + 1011 ≤ k → Pw l j →
    ∃ b, matrix_Clean.l0 k l l (l.length : Int) j = some b ∧ (b = true ↔ Pw l l.length ∧ rt l = 0) := by
  induction d with
  | zero =>
    intro k j hj hk hp
    obtain ⟨k, rfl⟩ : ∃ m, k = m + 1 := ⟨k - 1, by omega⟩
    obtain rfl : j = l.length := by omega
    refine ⟨rt l == 0, ?_, by rw [beq_iff_eq]; exact ⟨fun h => ⟨hp, h⟩, fun h => h.2⟩⟩
    simp only [matrix_Clean.l0]
    rw [if_neg (by omega), mright, ob]
  | succ d ih =>
    intro k j hj hk hp
    obtain ⟨k, rfl⟩ : ∃ m, k = m + 1 := ⟨k - 1, by omega⟩
    have hj2 : (j : Int) < (l.length : Int) := by omega
    have hj3 : (j : Int) ≤ (l.length : Int) := by omega
    have hj4 : 0 ≤ (j : Int) := by omega
    have hc := mclashes (l.take j) (by rw [List.length_take]; omega) (rd_T24 l (j : Int)).f0 (rd_T24 l (j : Int)).f1 (rd_T24 l (j : Int)).f2 k (by omega)
    simp only [matrix_Clean.l0, if_pos hj2, if_pos hj3, if_pos hj4, Int.toNat_natCast, up1 j (by omega)]
    rw [hc, ob]
    cases ha : (l.take j).any (fun x => decide (0 ≤ cz x ⟨(rd_T24 l (j : Int)).f0, (rd_T24 l (j : Int)).f1, (rd_T24 l (j : Int)).f2⟩)) with
    | true =>
      rw [if_pos rfl]
      obtain ⟨i, hi, hq⟩ := (any_take l _ j (by omega)).mp ha
      refine ⟨false, rfl, ⟨fun h => absurd h (by decide), fun h => ?_⟩⟩
      have h1 := h.1 i j hi (by omega)
      have h2 : 0 ≤ cz (rd_T24 l (i : Int)) (rd_T24 l (j : Int)) := of_decide_eq_true hq
      omega
    | false =>
      rw [if_neg (by decide)]
      refine ih k (j + 1) (by omega) (by omega) ?_
      intro i m him hm
      by_cases h : m = j
      · subst h
        apply Int.lt_of_not_ge
        intro hge
        have : (l.take m).any (fun x => decide (0 ≤ cz x ⟨(rd_T24 l (m : Int)).f0, (rd_T24 l (m : Int)).f1, (rd_T24 l (m : Int)).f2⟩)) = true :=
          (any_take l _ m (by omega)).mpr ⟨i, him, decide_eq_true hge⟩
        rw [ha] at this
        exact absurd this (by decide)
      · exact hp i m him (by omega)
theorem mclean (l : List S24) (hl : l.length ≤ 100000) (k : Nat) (hk : l.length + 1011 ≤ k) : ∃ b, matrix_Clean.f k l = some b ∧ (b = true ↔ Pw l l.length ∧ rt l = 0) :=
  clean_l0 l hl l.length k 0 (by omega) hk (fun i j h1 h2 => by omega)

/-- Who may send in a cycle. -/
def who (l : List S24) (c : Int) : List Int := if rt l = 0 ∧ 0 ≤ c then (l.filter (fun w => decide (c % w.f1 = w.f2))).map (fun w => w.f0) else []
theorem rt_zero (l : List S24) (h : rt l = 0) : l.length ≤ 64 ∧ ∀ x ∈ l, on x := by
  unfold rt at h
  by_cases h1 : (l.length : Int) > 64
  · rw [if_pos h1] at h; exact absurd h (by decide)
  · rw [if_neg h1] at h
    cases h2 : l.all (fun x => decide (on x)) with
    | true =>
      refine ⟨by omega, fun x hx => ?_⟩
      have := List.all_eq_true.mp h2 x hx
      exact of_decide_eq_true this
    | false => rw [h2, if_neg (by decide)] at h; exact absurd h (by decide)
theorem rt_ok (l : List S24) (h1 : l.length ≤ 64) (h2 : ∀ x ∈ l, on x) : rt l = 0 := by
  unfold rt
  rw [if_neg (by omega), if_pos]
  rw [List.all_eq_true]
  exact fun x hx => decide_eq_true (h2 x hx)
theorem who_len (l : List S24) (c : Int) : (who l c).length ≤ l.length := by
  unfold who
  split
  · rw [List.length_map]; exact List.length_filter_le _ _
  · exact Nat.zero_le _
theorem fc_pos {α : Type} (p : α → Bool) (a : α) (l : List α) (h : p a = true) : (a :: l).filter p = a :: l.filter p := List.filter_cons_of_pos h
theorem fc_neg {α : Type} (p : α → Bool) (a : α) (l : List α) (h : p a = false) : (a :: l).filter p = l.filter p := List.filter_cons_of_neg (by rw [h]; decide)
theorem who_l0 (l : List S24) (hl : l.length ≤ 64) (hon : ∀ x ∈ l, on x) (c : Int) (hc : 0 ≤ c) (d : Nat) : ∀ (k j : Nat) (acc : List Int), j + d = l.length → d + 1 ≤ k → acc.length ≤ j →
    matrix_Who.l0 k c acc l (l.length : Int) j = some (acc ++ ((l.drop j).filter (fun w => decide (c % w.f1 = w.f2))).map (fun w => w.f0)) := by
  induction d with
  | zero =>
    intro k j acc hj hk ha
    obtain ⟨k, rfl⟩ : ∃ m, k = m + 1 := ⟨k - 1, by omega⟩
    obtain rfl : j = l.length := by omega
    have hlt : ¬ (l.length : Int) < (l.length : Int) := Int.lt_irrefl _
    simp only [matrix_Who.l0, if_neg hlt, List.drop_length, List.filter_nil, List.map_nil, List.append_nil]
  | succ d ih =>
    intro k j acc hj hk ha
    obtain ⟨k, rfl⟩ : ∃ m, k = m + 1 := ⟨k - 1, by omega⟩
    have c1 : (j : Int) < (l.length : Int) := by omega
    have c2 : 0 ≤ (j : Int) := by omega
    have hj2 : j < l.length := by omega
    have hx := hon l[j] (List.getElem_mem hj2)
    have c3 : ¬ (l[j]).f1 = 0 := by unfold on at hx; omega
    have c4 : acc.length < 17592186044416 := by omega
    have i0 := ih k (j + 1) (acc ++ [(l[j]).f0]) (by omega) (by omega) (by simp; omega)
    have i1 := ih k (j + 1) acc (by omega) (by omega) (by omega)
    simp only [matrix_Who.l0, if_pos c1, if_pos c2, rd_at l j hj2, if_neg c3, if_pos c4, up1 j (by omega), i0, i1, Int.tmod_eq_emod_of_nonneg hc]
    rw [List.drop_eq_getElem_cons hj2]
    by_cases h : c % (l[j]).f1 = (l[j]).f2
    · rw [if_pos h, fc_pos (fun w : S24 => decide (c % w.f1 = w.f2)) _ _ (decide_eq_true h), List.map_cons, List.append_assoc, List.singleton_append]
    · rw [if_neg h, fc_neg (fun w : S24 => decide (c % w.f1 = w.f2)) _ _ (decide_eq_false h)]
theorem mwho (l : List S24) (c : Int) (k : Nat) (hk : 70 ≤ k) : matrix_Who.f k l c = some (who l c) := by
  obtain ⟨k, rfl⟩ : ∃ m, k = m + 1 := ⟨k - 1, by omega⟩
  unfold matrix_Who.f who
  rw [mright, ob]
  by_cases h : rt l = 0
  · rw [if_pos h]
    by_cases hc : 0 ≤ c
    · have hd : decide (c < 0) = false := decide_eq_false (by omega)
      obtain ⟨h1, h2⟩ := rt_zero l h
      rw [if_pos ⟨h, hc⟩, hd]
      simp only [matrix_Who.j0, Bool.false_eq_true, if_false]
      exact who_l0 l h1 h2 c hc l.length k 0 [] (by omega) (by omega) (by simp)
    · have hd : decide (c < 0) = true := decide_eq_true (by omega)
      rw [if_neg (fun h => hc h.2), hd]
      simp only [matrix_Who.j0, if_true]
  · rw [if_neg h, if_neg (fun h2 => h h2.1)]
    simp only [matrix_Who.j0, if_true]

theorem one_eq (x : S24) : signalboxref41_one.f x.f0 x.f1 x.f2 = some (decide (on x)) := right_eq x

theorem in_eq (x : S24) (hx : on x) (k : Int) (h0 : 0 ≤ k) : signalboxref41_In.f x.f0 x.f1 x.f2 k = some (decide (k % x.f1 = x.f2)) := by
  unfold signalboxref41_In.f
  rw [if_neg (by unfold on at hx; omega), Int.tmod_eq_emod_of_nonneg h0]
  rfl

theorem rright_l0 (l : List S24) (hl : l.length ≤ 64) (d : Nat) : ∀ (k j : Nat), j + d = l.length → d + 1 ≤ k →
    signalboxref41_Right.l0 k l j = some (if (l.drop j).all (fun x => decide (on x)) = true then 0 else 2) := by
  induction d with
  | zero =>
    intro k j hj hk
    obtain ⟨k, rfl⟩ : ∃ m, k = m + 1 := ⟨k - 1, by omega⟩
    simp only [signalboxref41_Right.l0]
    rw [if_neg (by omega), List.drop_eq_nil_of_le (by omega)]
    rfl
  | succ d ih =>
    intro k j hj hk
    obtain ⟨k, rfl⟩ : ∃ m, k = m + 1 := ⟨k - 1, by omega⟩
    have e : wrap64 ((j : Int) + 1) = ((j + 1 : Nat) : Int) := by rw [w64 (by omega) (by omega)]; omega
    have hj2 : j < l.length := by omega
    simp only [signalboxref41_Right.l0, e]
    rw [if_pos (by omega), if_pos (by omega), one_eq, ob, ih k (j + 1) (by omega) (by omega), rd_at l j hj2, List.drop_eq_getElem_cons hj2, List.all_cons]
    cases decide (on l[j]) <;> rfl
theorem rright (l : List S24) (k : Nat) (hk : 100 ≤ k) : signalboxref41_Right.f k l = some (rt l) := by
  unfold signalboxref41_Right.f rt
  by_cases hz : (l.length : Int) > 64
  · rw [if_pos hz, if_pos hz]
  · rw [if_neg hz, if_neg hz]
    exact rright_l0 l (by omega) l.length k 0 (by omega) (by omega)

theorem ints_l0 (x : List Int) (hl : x.length ≤ 100000) (d : Nat) : ∀ (k j : Nat), j + d = x.length → d + 1 ≤ k → signalboxref09_Ints.l0 k x x j = some true := by
  induction d with
  | zero =>
    intro k j hj hk
    obtain ⟨k, rfl⟩ : ∃ m, k = m + 1 := ⟨k - 1, by omega⟩
    obtain rfl : j = x.length := by omega
    have hlt : ¬ (x.length : Int) < (x.length : Int) := Int.lt_irrefl _
    simp only [signalboxref09_Ints.l0, if_neg hlt]
  | succ d ih =>
    intro k j hj hk
    obtain ⟨k, rfl⟩ : ∃ m, k = m + 1 := ⟨k - 1, by omega⟩
    have c1 : (j : Int) < (x.length : Int) := by omega
    have c2 : 0 ≤ (j : Int) := by omega
    simp only [signalboxref09_Ints.l0, if_pos c1, if_pos c2, if_true, up1 j (by omega)]
    exact ih k (j + 1) (by omega) (by omega)
theorem ints_same (x : List Int) (hl : x.length ≤ 100000) (k : Nat) (hk : x.length + 1 ≤ k) : signalboxref09_Ints.f k x x = some true := by
  unfold signalboxref09_Ints.f
  rw [if_pos rfl]
  exact ints_l0 x hl x.length k 0 (by omega) hk

theorem alive_k : ∃ K, ∀ k, K ≤ k → signalboxlaw41_alive.f k = some true :=
  Ev.of signalboxlaw41_alive.mono (k := 60) (by decide +kernel)

theorem rwho_l0 (l : List S24) (hl : l.length ≤ 64) (hon : ∀ x ∈ l, on x) (c : Int) (hc : 0 ≤ c) (d : Nat) : ∀ (k j : Nat) (acc : List Int), j + d = l.length → d + 1 ≤ k → acc.length ≤ j →
    signalboxref41_Who.l0 k l c acc j = some (acc ++ ((l.drop j).filter (fun w => decide (c % w.f1 = w.f2))).map (fun w => w.f0)) := by
  induction d with
  | zero =>
    intro k j acc hj hk ha
    obtain ⟨k, rfl⟩ : ∃ m, k = m + 1 := ⟨k - 1, by omega⟩
    obtain rfl : j = l.length := by omega
    have hlt : ¬ (l.length : Int) < (l.length : Int) := Int.lt_irrefl _
    simp only [signalboxref41_Who.l0, if_neg hlt, List.drop_length, List.filter_nil, List.map_nil, List.append_nil]
  | succ d ih =>
    intro k j acc hj hk ha
    obtain ⟨k, rfl⟩ : ∃ m, k = m + 1 := ⟨k - 1, by omega⟩
    have c1 : (j : Int) < (l.length : Int) := by omega
    have c2 : 0 ≤ (j : Int) := by omega
    have hj2 : j < l.length := by omega
    have hx := hon l[j] (List.getElem_mem hj2)
    have c4 : acc.length < 17592186044416 := by omega
    have i0 := ih k (j + 1) (acc ++ [(l[j]).f0]) (by omega) (by omega) (by simp; omega)
    have i1 := ih k (j + 1) acc (by omega) (by omega) (by omega)
    have e1 := in_eq l[j] hx c hc
    simp only [signalboxref41_Who.l0, if_pos c1, if_pos c2, rd_at l j hj2, if_pos c4, up1 j (by omega), i0, i1, e1, ob]
    rw [List.drop_eq_getElem_cons hj2]
    by_cases h : c % (l[j]).f1 = (l[j]).f2
    · rw [if_pos (decide_eq_true h), fc_pos (fun w : S24 => decide (c % w.f1 = w.f2)) _ _ (decide_eq_true h), List.map_cons, List.append_assoc, List.singleton_append]
    · rw [if_neg (by rw [decide_eq_true_eq]; exact h), fc_neg (fun w : S24 => decide (c % w.f1 = w.f2)) _ _ (decide_eq_false h)]
theorem rwho (l : List S24) (c : Int) (k : Nat) (hk : 100 ≤ k) : signalboxref41_Who.f k l c = some (who l c) := by
  obtain ⟨k, rfl⟩ : ∃ m, k = m + 1 := ⟨k - 1, by omega⟩
  unfold signalboxref41_Who.f who
  rw [rright l (k + 1) hk, ob]
  by_cases h : rt l = 0
  · rw [if_pos h]
    by_cases hc : 0 ≤ c
    · have hd : decide (c < 0) = false := decide_eq_false (by omega)
      obtain ⟨h1, h2⟩ := rt_zero l h
      rw [if_pos ⟨h, hc⟩, hd]
      simp only [signalboxref41_Who.j0, Bool.false_eq_true, if_false]
      exact rwho_l0 l h1 h2 c hc l.length k 0 [] (by omega) (by omega) (by simp)
    · have hd : decide (c < 0) = true := decide_eq_true (by omega)
      rw [if_neg (fun h => hc h.2), hd]
      simp only [signalboxref41_Who.j0, if_true]
  · rw [if_neg h, if_neg (fun h2 => h h2.1)]
    simp only [signalboxref41_Who.j0, if_true]
/-- Who may send in each of the first n cycles. -/
def plan (l : List S24) (n : Nat) : List (List Int) := (List.range n).map (fun i : Nat => who l (i : Int))
theorem plan_len (l : List S24) (n : Nat) : (plan l n).length = n := by unfold plan; rw [List.length_map, List.length_range]
theorem plan_at (l : List S24) (n i : Nat) (h : i < n) : rd_L4 (plan l n) (i : Int) = who l (i : Int) := by
  unfold rd_L4 plan
  simp [h]
theorem plan_succ (l : List S24) (n : Nat) : plan l (n + 1) = plan l n ++ [who l (n : Int)] := by
  unfold plan
  rw [List.range_succ, List.map_append]; rfl
/-- In how many of the cycles from j on, d of them, nobody may send. -/
def frees (l : List S24) : Nat → Nat → Int
  | 0, _ => 0
  | d + 1, j => (if ((who l (j : Int)).length : Int) = 0 then 1 else 0) + frees l d (j + 1)
theorem frees_zero (l : List S24) (j : Nat) : frees l 0 j = 0 := rfl
theorem frees_succ (l : List S24) (d j : Nat) : frees l (d + 1) j = (if ((who l (j : Int)).length : Int) = 0 then 1 else 0) + frees l d (j + 1) := rfl
theorem frees_le (l : List S24) (d : Nat) : ∀ j, 0 ≤ frees l d j ∧ frees l d j ≤ d := by
  induction d with
  | zero => intro j; exact ⟨Int.le_refl _, Int.le_refl _⟩
  | succ d ih =>
    intro j
    have h := ih (j + 1)
    unfold frees
    split <;> omega
theorem plan_l0 (l : List S24) (n : Nat) (hn : n ≤ 1000) (d : Nat) : ∀ (k j : Nat), j + d = n → d + 71 ≤ k → matrix_Plan.l0 k l (plan l j) n j = some (plan l n, 0) := by
  induction d with
  | zero =>
    intro k j hj hk
    obtain ⟨k, rfl⟩ : ∃ m, k = m + 1 := ⟨k - 1, by omega⟩
    obtain rfl : j = n := by omega
    have hlt : ¬ (j : Int) < (j : Int) := Int.lt_irrefl _
    simp only [matrix_Plan.l0, if_neg hlt]
  | succ d ih =>
    intro k j hj hk
    obtain ⟨k, rfl⟩ : ∃ m, k = m + 1 := ⟨k - 1, by omega⟩
    have c1 : (j : Int) < (n : Int) := by omega
    have hl := plan_len l j
    have c2 : (plan l j).length < 5864062014805 := by omega
    simp only [matrix_Plan.l0, if_pos c1, mwho l (j : Int) k (by omega), ob, if_pos c2, up1 j (by omega), ← plan_succ]
    exact ih k (j + 1) (by omega) (by omega)
theorem free_l0 (l : List S24) (n : Nat) (hn : n ≤ 1000) (d : Nat) : ∀ (k j : Nat) (a : Int), j + d = n → d + 1 ≤ k → 0 ≤ a → a ≤ j → matrix_Free.l0 k a (plan l n) n j = some (a + frees l d j, 0) := by
  induction d with
  | zero =>
    intro k j a hj hk h0 h1
    obtain ⟨k, rfl⟩ : ∃ m, k = m + 1 := ⟨k - 1, by omega⟩
    obtain rfl : j = n := by omega
    have hlt : ¬ (j : Int) < (j : Int) := Int.lt_irrefl _
    simp only [matrix_Free.l0, if_neg hlt, frees, Int.add_zero]
  | succ d ih =>
    intro k j a hj hk h0 h1
    obtain ⟨k, rfl⟩ : ∃ m, k = m + 1 := ⟨k - 1, by omega⟩
    have c1 : (j : Int) < (n : Int) := by omega
    have c2 : 0 ≤ (j : Int) := by omega
    have c3 : (j : Int) < ((plan l n).length : Int) := by rw [plan_len]; exact c1
    have hw : wrap64 (a + 1) = a + 1 := w64 (by omega) (by omega)
    have i0 := ih k (j + 1) a (by omega) (by omega) h0 (by omega)
    have i1 := ih k (j + 1) (a + 1) (by omega) (by omega) (by omega) (by omega)
    simp only [matrix_Free.l0, if_pos c1, if_pos c2, if_pos c3, plan_at l n j (by omega), up1 j (by omega), hw, i0, i1, frees]
    split
    · rw [Int.add_assoc]
    · rw [Int.zero_add]
theorem plans0 (l : List S24) (hl : l.length ≤ 64) (n : Nat) (hn : n ≤ 1000) (K : Nat) (hal : ∀ k, K ≤ k → signalboxlaw41_alive.f k = some true) (d : Nat) : ∀ (k j : Nat) (a : Int), j + d = n → d * 2 + 200 + K ≤ k → 0 ≤ a → a ≤ j → a + frees l d j = frees l n 0 →
    signalboxlaw41_MatrixPlans.l0 k l n (plan l n) (frees l n 0) a n j = some true := by
  induction d with
  | zero =>
    intro k j a hj hk h0 h1 hf
    obtain ⟨k, rfl⟩ : ∃ m, k = m + 1 := ⟨k - 1, by omega⟩
    obtain rfl : j = n := by omega
    have hlt : ¬ (j : Int) < (j : Int) := Int.lt_irrefl _
    have h2 : frees l j 0 = a := by rw [frees_zero] at hf; omega
    have h3 : ((plan l j).length : Int) = (j : Int) := by rw [plan_len]
    simp only [signalboxlaw41_MatrixPlans.l0, if_neg hlt, if_pos h3, h2, if_true]
    rw [hal k (by omega), ob]
  | succ d ih =>
    intro k j a hj hk h0 h1 hf
    obtain ⟨k, rfl⟩ : ∃ m, k = m + 2 := ⟨k - 2, by omega⟩
    have c1 : (j : Int) < (n : Int) := by omega
    have c2 : 0 ≤ (j : Int) := by omega
    have c3 : (j : Int) < ((plan l n).length : Int) := by rw [plan_len]; exact c1
    have c4 : ¬ (j : Int) ≥ ((plan l n).length : Int) := by omega
    have hw : wrap64 (a + 1) = a + 1 := w64 (by omega) (by omega)
    have hwl := who_len l (j : Int)
    have h2 := ints_same (who l (j : Int)) (by omega) (k + 1) (by omega)
    simp only [signalboxlaw41_MatrixPlans.l0, if_pos c1, rwho l (j : Int) (k + 1) (by omega), ob, if_neg c4, if_pos c2, if_pos c3, plan_at l n j (by omega), h2, Bool.not_true, signalboxlaw41_MatrixPlans.j5, Bool.false_eq_true, if_false, up1 j (by omega), hw]
    rw [frees_succ] at hf
    by_cases hz : ((who l (j : Int)).length : Int) = 0
    · rw [if_pos hz] at hf ⊢
      exact ih k (j + 1) (a + 1) (by omega) (by omega) (by omega) (by omega) (by rw [← hf]; omega)
    · rw [if_neg hz] at hf ⊢
      exact ih k (j + 1) a (by omega) (by omega) h0 (by omega) (by rw [← hf]; omega)
theorem MatrixPlans : signalboxlaw41_MatrixPlans.Pure := by
  intro l n c _ _ _ _ _
  obtain ⟨K, hal⟩ := alive_k
  obtain ⟨M, hM⟩ : ∃ M, M = K + 20000 := ⟨_, rfl⟩
  refine ⟨M + 5, ?_⟩
  have alv : signalboxlaw41_MatrixPlans.j0 (M + 5) l n c true = some true := by
    simp only [signalboxlaw41_MatrixPlans.j0, if_true]
    rw [hal (M + 4) (by omega), ob]
  have A1 := hal (M + 1) (by omega)
  have hwl := who_len l c
  have main : l.length ≤ 100 → signalboxlaw41_MatrixPlans.j0 (M + 5) l n c false = some true := by
    intro hl
    have h1 := mwho l c (M + 4) (by omega)
    have h2 := rwho l c (M + 4) (by omega)
    have h3 := ints_same (who l c) (by omega) (M + 4) (by omega)
    have h4 := rright l (M + 4) (by omega)
    simp only [signalboxlaw41_MatrixPlans.j0, Bool.false_eq_true, if_false, h1, h2, ob, h3, if_true, h4, matrix_Free.f, matrix_Plan.f, mright]
    by_cases hr : rt l = 0
    · obtain ⟨hl64, _⟩ := rt_zero l hr
      rw [if_pos hr]
      by_cases hn1 : n < 0
      · simp only [if_pos hn1, ob, hr, if_true]
        rw [if_neg (by decide)]
        simp only [ob, signalboxlaw41_MatrixPlans.j1, signalboxlaw41_MatrixPlans.j2, signalboxlaw41_MatrixPlans.j3, if_true]
        rw [show ((2 : Int) != 2) = false from rfl]
        simp only [Bool.false_eq_true, if_false]
        rw [if_neg (by decide), if_pos (show (([] : List (List Int)).length : Int) = 0 from rfl), A1, ob]
      · simp only [if_neg hn1]
        by_cases hn2 : n > 1000
        · simp only [if_pos hn2, ob, hr, if_true, decide_eq_true hn2]
          rw [if_neg (by decide)]
          simp only [ob, signalboxlaw41_MatrixPlans.j1, signalboxlaw41_MatrixPlans.j2, signalboxlaw41_MatrixPlans.j3, if_true]
          rw [show ((2 : Int) != 2) = false from rfl]
          simp only [Bool.false_eq_true, if_false]
          rw [if_neg (by decide), if_pos (show (([] : List (List Int)).length : Int) = 0 from rfl), A1, ob]
        · obtain ⟨N, rfl⟩ : ∃ m : Nat, n = m := ⟨n.toNat, by omega⟩
          have p1 := plan_l0 l N (by omega) N (M + 4) 0 (by omega) (by omega)
          have p2 := free_l0 l N (by omega) N (M + 4) 0 0 (by omega) (by omega) (by omega) (by omega)
          have e0 : plan l 0 = [] := rfl
          have e1 : ((plan l N).length : Int) = (N : Int) := by rw [plan_len]
          have p3 := plans0 l hl64 N (by omega) K hal N (M + 1) 0 0 (by omega) (by omega) (by omega) (by omega) (by rw [Int.zero_add])
          rw [e0, show ((0 : Nat) : Int) = 0 from rfl] at p1
          rw [show ((0 : Nat) : Int) = 0 from rfl] at p2 p3
          rw [Int.zero_add] at p2
          simp only [if_neg hn2, p1, ob, hr, if_true, e1, p2, decide_eq_false hn2, signalboxlaw41_MatrixPlans.j1, signalboxlaw41_MatrixPlans.j2, signalboxlaw41_MatrixPlans.j3, Bool.false_eq_true, if_false]
          rw [show ((0 : Int) != 0) = false from rfl]
          simp only [Bool.false_eq_true, if_false]
          exact p3
    · simp only [if_neg hr, ob, signalboxlaw41_MatrixPlans.j1, signalboxlaw41_MatrixPlans.j2, signalboxlaw41_MatrixPlans.j3, if_true, bne_self_eq_false, Bool.false_eq_true, if_false]
      rw [if_pos (show (([] : List (List Int)).length : Int) = 0 from rfl), A1, ob]
  unfold signalboxlaw41_MatrixPlans.f
  by_cases h1 : (l.length : Int) > 100
  · rw [if_pos h1]; exact alv
  · rw [if_neg h1]
    by_cases h2 : n > 300
    · rw [if_pos h2]
      cases decide (n ≤ 1000) with
      | true => exact alv
      | false => exact main (by omega)
    · rw [if_neg h2]; exact main (by omega)

end Go.Proofs.Ytlikjdeaippjiaa.Pure
