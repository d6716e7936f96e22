/- OctetDigits: what any rune is worth is as the document says: of one byte as that byte, of all others nothing. Conditions: none beyond the statement's own. -/
import Derived.Test.YtooadablecjpdaaPOctetDigitsx2
namespace Go.Proofs.Ytooadablecjpdaa.Pure
open Go.RowKit Go.Proofs.Ytooadablecjpdaa.POctetDigits Go.Proofs.YtooadablecjpdaaW.PrintWords Go.Proofs.YtooadablecjpdaaW.PrintLast
set_option linter.unusedVariables false
set_option linter.unusedSimpArgs false

theorem wf_i64 {n : Int} (h : (Lit.int .i64 n).wf = true) : -9223372036854775808 ≤ n ∧ n ≤ 9223372036854775807 := by
  simp only [Lit.wf, Bool.and_eq_true, decide_eq_true_eq] at h
  exact h
theorem wf_u32 {n : Int} (h : (Lit.int .u32 n).wf = true) : 0 ≤ n ∧ n ≤ 4294967295 := by
  simp only [Lit.wf, Bool.and_eq_true, decide_eq_true_eq] at h
  exact h
theorem wf_i32 {n : Int} (h : (Lit.int .i32 n).wf = true) : -2147483648 ≤ n ∧ n ≤ 2147483647 := by
  simp only [Lit.wf, Bool.and_eq_true, decide_eq_true_eq] at h
  exact h
theorem w64 {n : Int} (h0 : -9223372036854775808 ≤ n) (h1 : n ≤ 9223372036854775807) : wrap64 n = n := by unfold wrap64; omega

theorem alive_k : ∃ K, ∀ k, K ≤ k → signalboxlaw01_alive.f k = some true :=
  Ev.of signalboxlaw01_alive.mono (k := 20) (by decide +kernel)

theorem rdigit_eq (k : Nat) (hk : 2 ≤ k) (c : Int) (h0 : 0 ≤ c) (h1 : c ≤ 255) : signalboxref01_Digit.f k c = some (dgt c) := by
  obtain ⟨k, rfl⟩ : ∃ m, k = m + 1 + 1 := ⟨k - 2, by omega⟩
  have e0 : wrap64 c = c := by unfold wrap64; omega
  have e1 : wrap64 (c - 48) = c - 48 := by unfold wrap64; omega
  have e2 : wrap64 (c - 55) = c - 55 := by unfold wrap64; omega
  have e3 : wrap64 (c - 87) = c - 87 := by unfold wrap64; omega
  simp only [signalboxref01_Digit.f, signalboxref01_Digit.j0, signalboxref01_Digit.j1, e0, e1, e2, e3]
  by_cases q1 : 48 ≤ c ∧ c ≤ 57
  · have hv : dgt c = c - 48 := by unfold dgt; rw [if_pos q1]
    rw [if_pos q1.1, hv, if_pos (by simpa using q1.2)]
  by_cases q2 : 65 ≤ c ∧ c ≤ 70
  · have hv : dgt c = c - 55 := by unfold dgt; rw [if_neg q1, if_pos q2]
    rw [if_pos (by omega), if_neg (by simp; omega), if_pos q2.1, hv, if_pos (by simpa using q2.2)]
  by_cases q3 : 97 ≤ c ∧ c ≤ 102
  · have hv : dgt c = c - 87 := by unfold dgt; rw [if_neg q1, if_neg q2, if_pos q3]
    rw [if_pos (by omega), if_neg (by simp; omega), if_pos (by omega), if_neg (by simp; omega), if_pos q3.1, if_pos q3.2, hv]
  have hv : dgt c = 16 := by unfold dgt; rw [if_neg q1, if_neg q2, if_neg q3]
  rw [hv]
  by_cases a : c ≥ 48
  · rw [if_pos a, if_neg (by simp; omega)]
    by_cases b : c ≥ 65
    · rw [if_pos b, if_neg (by simp; omega)]
      by_cases d : c ≥ 97
      · rw [if_pos d, if_neg (by omega)]
      · rw [if_neg d]
    · rw [if_neg b, if_neg (by decide), if_neg (by omega)]
  · rw [if_neg a, if_neg (by decide), if_neg (by omega), if_neg (by decide), if_neg (by omega)]

theorem digit_any (k : Nat) (hk : 2 ≤ k) (c : Int) (h1 : c ≤ 2147483647) : octet_Digit.f k c = some (if dgt c = 16 then (0, false) else (dgt c, true)) := by
  by_cases h0 : 0 ≤ c
  · exact digit_f k hk c h0 h1
  · obtain ⟨k, rfl⟩ : ∃ m, k = m + 1 + 1 := ⟨k - 2, by omega⟩
    have hv : dgt c = 16 := by unfold dgt; rw [if_neg (by omega), if_neg (by omega), if_neg (by omega)]
    simp only [octet_Digit.f, octet_Digit.j0, octet_Digit.j1]
    rw [if_neg (by omega), if_neg (by decide), if_neg (by omega), if_neg (by decide), if_neg (by omega), hv, if_pos rfl]

theorem OctetDigits : signalboxlaw01_OctetDigits.Pure := by
  intro c hw
  obtain ⟨hw0, hw1⟩ := wf_i32 hw
  obtain ⟨K, hK⟩ := alive_k
  refine ⟨K + 3, ?_⟩
  have ha := hK (K + 2) (by omega)
  simp only [signalboxlaw01_OctetDigits.f]
  rw [digit_any (K + 3) (by omega) c hw1]
  simp only [Option.bind_some, signalboxlaw01_OctetDigits.j0, ha]
  by_cases hr : c < 0 ∨ c > 127
  · have hv : dgt c = 16 := by
      unfold dgt; rw [if_neg (by omega), if_neg (by omega), if_neg (by omega)]
    rw [hv, if_pos rfl]
    by_cases h : c < 0
    · rw [if_pos h]; rfl
    · rw [if_neg h, if_pos (by simp; omega)]; rfl
  · have hm : c % 256 = c := by omega
    rw [if_neg (by omega), if_neg (by simp; omega), hm, rdigit_eq (K + 2) (by omega) c (by omega) (by omega)]
    simp only [Option.bind_some]
    by_cases hv : dgt c = 16
    · rw [hv, if_pos rfl]; rfl
    · have := dgt_range c hv
      rw [if_neg hv, if_pos rfl, if_pos rfl, if_pos (by simp; omega)]

end Go.Proofs.Ytooadablecjpdaa.Pure
