-- Laid by a program of the session over the kit's print. Not trusted: Lean checks it.
import Derived.Test.YtooadablecjpdaaPOctetMasksx0
namespace Go.Proofs.Ytooadablecjpdaa.POctetMasks
open Go.RowKit Go.Proofs.YtooadablecjpdaaW.PrintWords Go.Proofs.YtooadablecjpdaaW.PrintLast Go.Proofs.YtooadablecjpdaaW.PrintMore
attribute [local go_sem] max2_int min2_int max_two min_two max_three min_three max_four min_four   -- for this text's walks alone
set_option linter.unusedVariables false
set_option linter.unusedSimpArgs false

/-! ### octet_Digit: function 10 -/
mutual
def octet_Digit.j0 : Nat → Int → Bool → Option (Int × Bool)
  | 0, _, _ => none
  | k + 1, x0, x4 => if x4 = true then (some (wrap64 (wrap32 (x0 - 48)), true)) else (if x0 ≥ 65 then (octet_Digit.j1 k x0 (decide (x0 ≤ 70))) else (octet_Digit.j1 k x0 false))
def octet_Digit.j1 : Nat → Int → Bool → Option (Int × Bool)
  | 0, _, _ => none
  | k + 1, x0, x14 => if x14 = true then (some (wrap64 ((wrap64 (wrap32 (x0 - 65))) + 10), true)) else (if x0 ≥ 97 then (if x0 ≤ 102 then (some (wrap64 ((wrap64 (wrap32 (x0 - 97))) + 10), true)) else (some (0, false))) else (some (0, false)))
end
def octet_Digit.f (k : Nat) (a0 : Int) : Option (Int × Bool) := if a0 ≥ 48 then (octet_Digit.j0 k a0 (decide (a0 ≤ 57))) else (octet_Digit.j0 k a0 false)
theorem octet_Digit.mono_l : ∀ k, (∀ y0 y1, LeO (octet_Digit.j0 k y0 y1) (octet_Digit.j0 (k + 1) y0 y1)) ∧ (∀ y0 y1, LeO (octet_Digit.j1 k y0 y1) (octet_Digit.j1 (k + 1) y0 y1))
  | 0 => ⟨fun _ _ r h => by simp [octet_Digit.j0] at h, fun _ _ r h => by simp [octet_Digit.j1] at h⟩
  | k + 1 => by
    obtain ⟨ih0, ih1⟩ := octet_Digit.mono_l k
    refine ⟨?_, ?_⟩
    · intro y0 y1
      unfold octet_Digit.j0
      repeat' first
      | (with_reducible exact ih0 _ _)
      | (with_reducible exact ih1 _ _)
      | (with_reducible exact LeO.refl _)
      | (with_reducible exact LeO.none _)
      | (with_reducible refine LeO.ite ?_ ?_)
      | (with_reducible refine LeO.bind ?_ (fun _ => ?_))
      | exact ih0 _ _
      | exact ih1 _ _
      | exact LeO.none _
      | refine LeO.ite ?_ ?_
      | refine LeO.bind ?_ (fun _ => ?_)
    · intro y0 y1
      unfold octet_Digit.j1
      repeat' first
      | (with_reducible exact ih0 _ _)
      | (with_reducible exact ih1 _ _)
      | (with_reducible exact LeO.refl _)
      | (with_reducible exact LeO.none _)
      | (with_reducible refine LeO.ite ?_ ?_)
      | (with_reducible refine LeO.bind ?_ (fun _ => ?_))
      | exact ih0 _ _
      | exact ih1 _ _
      | exact LeO.none _
      | refine LeO.ite ?_ ?_
      | refine LeO.bind ?_ (fun _ => ?_)
theorem octet_Digit.mono : ∀ a0 k, LeO (octet_Digit.f k a0) (octet_Digit.f (k + 1) a0) := by
  intro a0 k
  obtain ⟨ih0, ih1⟩ := octet_Digit.mono_l k
  unfold octet_Digit.f
  repeat' first
      | (with_reducible exact ih0 _ _)
      | (with_reducible exact ih1 _ _)
      | (with_reducible exact LeO.refl _)
      | (with_reducible exact LeO.none _)
      | (with_reducible refine LeO.ite ?_ ?_)
      | (with_reducible refine LeO.bind ?_ (fun _ => ?_))
      | exact ih0 _ _
      | exact ih1 _ _
      | exact LeO.none _
      | refine LeO.ite ?_ ?_
      | refine LeO.bind ?_ (fun _ => ?_)
set_option maxHeartbeats 8000000 in
set_option maxRecDepth 100000 in
theorem octet_Digit.calls (k : Nat) (a0 : Int) (r1 : Int) (r2 : Bool) (w : World) (h : octet_Digit.f k a0 = some (r1, r2)) :
    Calls Try.prog 10 #[.int .i32 a0] w fun e w' => e = .returned (.tuple #[.int .i64 r1, .bool r2]) ∧ Drawn0 w w' := by
  have H : (if a0 ≥ 48 then (octet_Digit.j0 k a0 (decide (a0 ≤ 57))) else (octet_Digit.j0 k a0 false)) = some (r1, r2) := h
  clear h
  have HC2 := Aside0.mk H
  clear H
  go_enter Try.func10, Try.ntmps10
  go_upto_region 1 with (fail)
  go_cut [4] (fun v4 wc => ∃ (kq : Nat) (x4_1 : Bool), v4 = .bool x4_1 ∧ Aside0 (octet_Digit.j0 kq a0 x4_1 = some (r1, r2)) ∧ Aside0 (kq ≤ k) ∧ Drawn0 w wc)
  case first =>
    have H := HC2.out
    clear HC2
    by_cases c3 : a0 ≥ 48
    · rw [if_pos c3] at H
      have c3b0 : decide (48 ≤ a0) = true := decide_eq_true c3
      clear c3
      (first | rw [c3b0] | (simp only [i64_w, i32_w]; rw [c3b0]) | skip)
      have H' := Aside0.mk H
      clear H
      go_wp2
      go_meet
      case rel => exact ⟨_, (decide (a0 ≤ 57)), (by first | rfl | (simp; done) | (simp [*]; done)), H', ⟨by first | omega | exact Nat.le_refl _⟩, by repeat (first | exact Drawn0.refl _ | apply Drawn0.step)⟩
    · rw [if_neg c3] at H
      have c3b0 : decide (48 ≤ a0) = false := decide_eq_false c3
      clear c3
      (first | rw [c3b0] | (simp only [i64_w, i32_w]; rw [c3b0]) | skip)
      have H' := Aside0.mk H
      clear H
      go_wp2
      go_meet
      case rel => exact ⟨_, (false), (by first | rfl | (simp; done) | (simp [*]; done)), H', ⟨by first | omega | exact Nat.le_refl _⟩, by repeat (first | exact Drawn0.refl _ | apply Drawn0.step)⟩
  case rest =>
    clear HC2
    try clear c1
    try clear p2
    try clear c3
    try clear c3b0
    try clear HA
    try clear HJ1
    obtain ⟨kq, x4_1, rfl, HA, HJ1, ⟨mc1, rfl⟩⟩ := hcut
    cases kq with
    | zero => exact absurd HA.out (by simp [octet_Digit.j0])
    | succ kj1 =>
      have H := HA.out
      clear HA
      simp only [octet_Digit.j0] at H
      by_cases c4 : x4_1 = true
      · subst c4
        have H1 : (some (wrap64 (wrap32 (a0 - 48)), true)) = some (r1, r2) := by rw [if_pos rfl] at H; exact H
        clear H
        have H := H1
        clear H1
        simp only [Option.some.injEq, Prod.mk.injEq] at H
        obtain ⟨rfl, rfl⟩ := H
        go_wp2
        go_ret2
        exact ⟨by first | rfl | (simp; done) | (simp [*]; done), by repeat (first | exact Drawn0.refl _ | apply Drawn0.step)⟩
      · replace c4 := Bool.eq_false_iff.mpr c4
        subst c4
        have H1 : (if a0 ≥ 65 then (octet_Digit.j1 kj1 a0 (decide (a0 ≤ 70))) else (octet_Digit.j1 kj1 a0 false)) = some (r1, r2) := by rw [if_neg (show ¬ (false = true) by decide)] at H; exact H
        clear H
        have H := H1
        clear H1
        have HC5 := Aside0.mk H
        clear H
        go_upto_region 3 with (fail)
        go_cut [14] (fun v14 wc => ∃ (kq : Nat) (x14_4 : Bool), v14 = .bool x14_4 ∧ Aside0 (octet_Digit.j1 kq a0 x14_4 = some (r1, r2)) ∧ Aside0 (kq ≤ kj1) ∧ Drawn0 w wc)
        case first =>
          have H := HC5.out
          clear HC5
          by_cases c6 : a0 ≥ 65
          · rw [if_pos c6] at H
            have c6b0 : decide (65 ≤ a0) = true := decide_eq_true c6
            clear c6
            (first | rw [c6b0] | (simp only [i64_w, i32_w]; rw [c6b0]) | skip)
            have H' := Aside0.mk H
            clear H
            go_wp2
            go_meet
            case rel => exact ⟨_, (decide (a0 ≤ 70)), (by first | rfl | (simp; done) | (simp [*]; done)), H', ⟨by have := HJ1.out; first | omega | exact Nat.le_refl _⟩, by repeat (first | exact Drawn0.refl _ | apply Drawn0.step)⟩
          · rw [if_neg c6] at H
            have c6b0 : decide (65 ≤ a0) = false := decide_eq_false c6
            clear c6
            (first | rw [c6b0] | (simp only [i64_w, i32_w]; rw [c6b0]) | skip)
            have H' := Aside0.mk H
            clear H
            go_wp2
            go_meet
            case rel => exact ⟨_, (false), (by first | rfl | (simp; done) | (simp [*]; done)), H', ⟨by have := HJ1.out; first | omega | exact Nat.le_refl _⟩, by repeat (first | exact Drawn0.refl _ | apply Drawn0.step)⟩
        case rest =>
          clear HC5
          try clear c1
          try clear p2
          try clear c3
          try clear c3b0
          try clear p3
          try clear c4
          try clear c6
          try clear c6b0
          try clear p6
          try clear p2
          try clear HA
          try clear HJ4
          obtain ⟨kq, x14_4, rfl, HA, HJ4, ⟨mc4, rfl⟩⟩ := hcut
          cases kq with
          | zero => exact absurd HA.out (by simp [octet_Digit.j1])
          | succ kj4 =>
            have H := HA.out
            clear HA
            simp only [octet_Digit.j1] at H
            by_cases c7 : x14_4 = true
            · subst c7
              have H1 : (some (wrap64 ((wrap64 (wrap32 (a0 - 65))) + 10), true)) = some (r1, r2) := by rw [if_pos rfl] at H; exact H
              clear H
              have H := H1
              clear H1
              simp only [Option.some.injEq, Prod.mk.injEq] at H
              obtain ⟨rfl, rfl⟩ := H
              go_wp2
              go_ret2
              exact ⟨by first | rfl | (simp; done) | (simp [*]; done), by repeat (first | exact Drawn0.refl _ | apply Drawn0.step)⟩
            · replace c7 := Bool.eq_false_iff.mpr c7
              subst c7
              have H1 : (if a0 ≥ 97 then (if a0 ≤ 102 then (some (wrap64 ((wrap64 (wrap32 (a0 - 97))) + 10), true)) else (some (0, false))) else (some (0, false))) = some (r1, r2) := by rw [if_neg (show ¬ (false = true) by decide)] at H; exact H
              clear H
              have H := H1
              clear H1
              by_cases c8 : a0 ≥ 97
              · rw [if_pos c8] at H
                have c8b0 : decide (97 ≤ a0) = true := decide_eq_true c8
                clear c8
                by_cases c9 : a0 ≤ 102
                · rw [if_pos c9] at H
                  have c9b0 : decide (a0 ≤ 102) = true := decide_eq_true c9
                  clear c9
                  simp only [Option.some.injEq, Prod.mk.injEq] at H
                  obtain ⟨rfl, rfl⟩ := H
                  go_wp2
                  go_ret2
                  exact ⟨by first | rfl | (simp; done) | (simp [*]; done), by repeat (first | exact Drawn0.refl _ | apply Drawn0.step)⟩
                · rw [if_neg c9] at H
                  have c9b0 : decide (a0 ≤ 102) = false := decide_eq_false c9
                  clear c9
                  simp only [Option.some.injEq, Prod.mk.injEq] at H
                  obtain ⟨rfl, rfl⟩ := H
                  go_wp2
                  go_ret2
                  exact ⟨by first | rfl | (simp; done) | (simp [*]; done), by repeat (first | exact Drawn0.refl _ | apply Drawn0.step)⟩
              · rw [if_neg c8] at H
                have c8b0 : decide (97 ≤ a0) = false := decide_eq_false c8
                clear c8
                simp only [Option.some.injEq, Prod.mk.injEq] at H
                obtain ⟨rfl, rfl⟩ := H
                go_wp2
                go_ret2
                exact ⟨by first | rfl | (simp; done) | (simp [*]; done), by repeat (first | exact Drawn0.refl _ | apply Drawn0.step)⟩

/-! ### octet_Unhex: function 13 -/
/-- What a rune is worth; 16: nothing. -/
def dgt (c : Int) : Int := if 48 ≤ c ∧ c ≤ 57 then c - 48 else if 65 ≤ c ∧ c ≤ 70 then c - 55 else if 97 ≤ c ∧ c ≤ 102 then c - 87 else 16
theorem digit_f (k : Nat) (hk : 2 ≤ k) (c : Int) (h0 : 0 ≤ c) (h1 : c ≤ 2147483647) : octet_Digit.f k c = some (if dgt c = 16 then (0, false) else (dgt c, true)) := by
  obtain ⟨k, rfl⟩ : ∃ m, k = m + 1 + 1 := ⟨k - 2, by omega⟩
  have e1 : c ≥ 48 → wrap64 (wrap32 (c - 48)) = c - 48 := by intro h; unfold wrap64 wrap32; omega
  have e2 : c ≥ 65 → wrap64 (wrap64 (wrap32 (c - 65)) + 10) = c - 55 := by intro h; unfold wrap64 wrap32; omega
  have e3 : c ≥ 97 → wrap64 (wrap64 (wrap32 (c - 97)) + 10) = c - 87 := by intro h; unfold wrap64 wrap32; omega
  simp only [octet_Digit.f, octet_Digit.j0, octet_Digit.j1]
  by_cases q1 : 48 ≤ c ∧ c ≤ 57
  · have hv : dgt c = c - 48 := by unfold dgt; rw [if_pos q1]
    rw [if_pos q1.1, e1 q1.1, hv, if_pos (by simpa using q1.2), if_neg (by omega)]
  have n1 : ¬ (c ≥ 48 ∧ c ≤ 57) := q1
  by_cases q2 : 65 ≤ c ∧ c ≤ 70
  · have hv : dgt c = c - 55 := by unfold dgt; rw [if_neg q1, if_pos q2]
    rw [if_pos (by omega), if_neg (by simp; omega), if_pos q2.1, e2 q2.1, hv, if_pos (by simpa using q2.2), if_neg (by omega)]
  by_cases q3 : 97 ≤ c ∧ c ≤ 102
  · have hv : dgt c = c - 87 := by unfold dgt; rw [if_neg q1, if_neg q2, if_pos q3]
    rw [if_pos (by omega), if_neg (by simp; omega), if_pos (by omega), if_neg (by simp; omega), if_pos q3.1, if_pos q3.2, e3 q3.1, hv, if_neg (by omega)]
  have hv : dgt c = 16 := by unfold dgt; rw [if_neg q1, if_neg q2, if_neg q3]
  rw [hv, if_pos rfl]
  by_cases a : c ≥ 48
  · rw [if_pos a, if_neg (by simp; omega)]
    by_cases b : c ≥ 65
    · rw [if_pos b, if_neg (by simp; omega)]
      by_cases d : c ≥ 97
      · rw [if_pos d, if_neg (by omega)]
      · rw [if_neg d]
    · rw [if_neg b, if_neg (by decide), if_neg (by omega)]
  · rw [if_neg a, if_neg (by decide), if_neg (by omega), if_neg (by decide), if_neg (by omega)]
theorem dgt_range (c : Int) (h : dgt c ≠ 16) : 0 ≤ dgt c ∧ dgt c ≤ 15 := by
  unfold dgt at h ⊢
  split
  · omega
  · split
    · omega
    · split
      · omega
      · rename_i a b c
        simp [a, b, c] at h
theorem dgt_big (c : Int) (h : 128 ≤ c) : dgt c = 16 := by
  unfold dgt
  rw [if_neg (by omega), if_neg (by omega), if_neg (by omega)]

/-- What is known behind so many bytes: the bytes told, the digit that is held, and whether one is. -/
def uhx (s : ByteArray) : Nat → Option (List Int × Int × Bool)
  | 0 => some ([], 0, false)
  | j + 1 => (uhx s j).bind fun x => if dgt (bt s j) = 16 then none else if x.2.2 = true then some (x.1 ++ [16 * x.2.1 + dgt (bt s j)], x.2.1, false) else some (x.1, dgt (bt s j), true)
theorem uhx_bound (s : ByteArray) : ∀ j x, uhx s j = some x → x.1.length ≤ j ∧ 0 ≤ x.2.1 ∧ x.2.1 ≤ 15
  | 0, x, h => by
    simp only [uhx, Option.some.injEq] at h
    subst h
    simp
  | j + 1, x, h => by
    simp only [uhx, Option.bind_eq_some_iff] at h
    obtain ⟨y, hy, h⟩ := h
    have ih := uhx_bound s j y hy
    split at h
    · cases h
    · rename_i hd
      have := dgt_range _ hd
      split at h
      · obtain rfl := Option.some.inj h
        simp
        omega
      · obtain rfl := Option.some.inj h
        simp
        omega
theorem uhx_none (s : ByteArray) (j : Nat) (h : uhx s j = none) : ∀ d, uhx s (j + d) = none
  | 0 => h
  | d + 1 => by
    show uhx s (j + d + 1) = none
    simp [uhx, uhx_none s j h d]
theorem decode_high (s : ByteArray) (i : Nat) (h : i < s.size) (hb : ¬ (s[i]'h).toNat < 128) : 128 ≤ (Utf8.decode s i).1 ∧ (Utf8.decode s i).1 ≤ 2147483647 := by
  have e : s.get! (i + 0) = s[i]'h := by
    show s.get! i = _
    simp [ByteArray.get!, getElem!_pos, h]
    rfl
  unfold Utf8.decode
  simp only [e]
  have hb2 : ¬ (s[i]'h).toNat < 0x80 := hb
  rw [if_neg hb2]
  have hlt : (s[i]'h).toNat < 256 := (s[i]'h).toNat_lt
  have er : Utf8.runeError = 65533 := rfl
  have v : ∀ c : Nat, Utf8.valid c = true → c ≤ 1114111 := by
    intro c hc
    simp only [Utf8.valid, Bool.or_eq_true, Bool.and_eq_true, decide_eq_true_eq] at hc
    omega
  split
  · split
    · dsimp only; omega
    · dsimp only; omega
  · split
    · split
      · rename_i hc
        simp only [Bool.and_eq_true, decide_eq_true_eq] at hc
        have := v _ hc.2
        dsimp only; omega
      · dsimp only; omega
    · split
      · split
        · rename_i hc
          simp only [Bool.and_eq_true, decide_eq_true_eq] at hc
          have := v _ hc.2
          dsimp only; omega
        · dsimp only; omega
      · dsimp only; omega
theorem or16 : ∀ a b : Fin 16, Go.bits .or .i64 ((a.val : Int) * 16) (b.val : Int) % 256 = 16 * (a.val : Int) + b.val := by decide +kernel
theorem or_hex (a b : Int) (h0 : 0 ≤ a) (h1 : a ≤ 15) (h2 : 0 ≤ b) (h3 : b ≤ 15) : Go.bits .or .i64 (a * 16) b % 256 = 16 * a + b := by
  have := or16 ⟨a.toNat, by omega⟩ ⟨b.toNat, by omega⟩
  have e1 : (a.toNat : Int) = a := by omega
  have e2 : (b.toNat : Int) = b := by omega
  simpa only [e1, e2] using this
def itSet (w : World) (g : Nat) (s : ByteArray) (p : Nat) : World := { w with heap := w.heap.setIfInBounds g (.stringIter s p) }
theorem itSet_heap (w : World) (g : Nat) (s : ByteArray) (p : Nat) (h : g < w.heap.size) : (itSet w g s p).heap[g]? = some (.stringIter s p) := by
  simp [itSet, h]
theorem itSet_keep (w : World) (g : Nat) (s : ByteArray) (p : Nat) : KeepBut w (itSet w g s p) g none := by
  refine ⟨by simp [itSet], fun i hi hg _ => ?_⟩
  simp only [itSet]
  rw [Array.getElem?_setIfInBounds_ne (by omega)]
theorem itSet_below (w : World) (g : Nat) (s : ByteArray) (p : Nat) : Below g w (itSet w g s p) := by
  refine ⟨rfl, rfl, rfl, by simp [itSet], fun i hi => ?_⟩
  simp only [itSet]
  rw [Array.getElem?_setIfInBounds_ne (by omega)]
theorem next_blk {P : Program} (w : World) (s : ByteArray) (g pos : Nat) (ty : TypeId) (hg : w.heap[g]? = some (.stringIter s pos)) (h : pos < s.size) :
    (Instr.next (.pointer (some ⟨g, 0, none⟩)) true ty).run P w = .ok (.tuple #[.bool true, .int .i64 pos, .int .i32 (Utf8.decode s pos).1]) (itSet w g s (pos + (Utf8.decode s pos).2)) := by
  simp only [Instr.next, getObj, setObj, Sem.run_bind, Sem.run, hg, Result.andThen, h, if_true]
  simp [goInt, itSet]
theorem next_over {P : Program} (w : World) (s : ByteArray) (g pos : Nat) (ty : TypeId) (hg : w.heap[g]? = some (.stringIter s pos)) (h : ¬ pos < s.size) :
    (Instr.next (.pointer (some ⟨g, 0, none⟩)) true ty).run P w = .ok (.tuple #[.bool false]) w := by
  simp [Instr.next, getObj, Sem.run, hg, h]

theorem octet_Unhex.info : (Try.prog.info? 5).map (fun i => (i.zero, i.size, i.bytes)) = some (some (.int .u8 0), 1, 1) := by kernel_rfl
def octet_Unhex.f (s : ByteArray) : Option (ByteArray × Bool) := if s.size < 140737488355328 then some (match uhx s s.size with | some (l, _, false) => (strOfNums l, true) | _ => (⟨#[]⟩, false)) else none

set_option maxHeartbeats 8000000 in
theorem octet_Unhex.calls (a0 : ByteArray) (r1 : ByteArray) (r2 : Bool) (w : World) (h : octet_Unhex.f a0 = some (r1, r2)) :
    Calls Try.prog 13 #[.string a0] w fun e w' => e = .returned (.tuple #[.string r1, .bool r2]) ∧ Below w.heap.size w w' := by
  have HB := Aside0.mk (Below.refl w.heap.size w)
  unfold octet_Unhex.f at h
  split at h
  case isFalse => exact absurd h (by simp)
  rename_i hs
  have HS := Aside0.mk hs
  have HR := Aside0.mk (Option.some.inj h)
  clear hs h
  go_enter Try.func13, Try.ntmps13
  go_wp2
  go_loopg [4, 5, 6] (a0.size + 1) (fun kq v4 v5 v6 w' => ∃ (j : Nat) (l : List Int) (hi : Int) (half : Bool), v5 = .int .i64 hi ∧ v6 = .bool half ∧ Aside0 (j ≤ a0.size ∧ kq + j = a0.size + 1) ∧ Aside0 (uhx a0 j = some (l, hi, half)) ∧ Aside0 (Kd.R (Kd.int .u8) 5 w' w.heap.size (fun k => k ≠ w.heap.size) v4 l) ∧ Aside0 (w'.heap[w.heap.size]? = some (.stringIter a0 j)) ∧ Aside0 (Below w.heap.size w w'))
  case atStart => exact ⟨0, [], 0, false, rfl, rfl, ⟨by simp⟩, ⟨rfl⟩, ⟨Kd.R_nil _ _ _ _ _⟩, ⟨blk_new w _⟩, ⟨below_alloc (Below.refl _ _) _⟩⟩
  case round =>
    obtain ⟨j, l, hi, half, rfl, rfl, HJ, HU, HO, BK, HB⟩ := hrel
    have hub := uhx_bound a0 j _ HU.out
    have HUB := Aside0.mk hub
    have hi0 : 0 ≤ hi := hub.2.1
    have hi1 : hi ≤ 15 := hub.2.2
    clear hub
    by_cases hj : j < a0.size
    · by_cases hbad : dgt (bt a0 j) = 16
      · -- a byte that is no digit
        have hc : ∃ (c : Int) (W1 : World), (∀ ty, (Instr.next (.pointer (some ⟨w.heap.size, 0, none⟩)) true ty).run Try.prog wr = .ok (.tuple #[.bool true, .int .i64 j, .int .i32 c]) W1) ∧ 0 ≤ c ∧ c ≤ 2147483647 ∧ dgt c = 16 ∧ Below w.heap.size wr W1 := by
          refine ⟨(Utf8.decode a0 j).1, itSet wr w.heap.size a0 (j + (Utf8.decode a0 j).2), fun ty => next_blk wr a0 w.heap.size j ty BK.out hj, by omega, ?_, ?_, itSet_below _ _ _ _⟩
          · by_cases hasc : (a0[j]'hj).toNat < 128
            · rw [decode_ascii a0 j hj hasc]; dsimp only; omega
            · have := decode_high a0 j hj hasc; omega
          · by_cases hasc : (a0[j]'hj).toNat < 128
            · rw [decode_ascii a0 j hj hasc]; dsimp only; rw [bt_nat]; exact hbad
            · exact dgt_big _ (by have := decode_high a0 j hj hasc; omega)
        obtain ⟨c, W1, hnx, hc0, hc1, hc16, hW⟩ := hc
        have HD := Aside0.mk (digit_f 2 (by omega) c hc0 hc1)
        rw [if_pos hc16] at HD
        have hn : uhx a0 (j + 1) = none := by simp [uhx, HU.out, hbad]
        have hn2 := uhx_none a0 (j + 1) hn (a0.size - (j + 1))
        rw [show j + 1 + (a0.size - (j + 1)) = a0.size by omega] at hn2
        have hr := HR.out
        rw [hn2] at hr
        obtain ⟨rfl, rfl⟩ := Prod.mk.inj hr
        have HB1 := Aside0.mk (HB.out.trans hW)
        clear hr hn hn2 HR hW hc16 hbad
        go_wp2_with (go_at_call 10; (with_reducible refine (octet_Digit.calls 2 c 0 false _ HD.out).mono ?_); rintro e w' ⟨rfl, ⟨nd, rfl⟩⟩)
        go_ret2
        exact ⟨rfl, pw_below_drewN HB1.out _⟩
      · have hasc : (a0[j]'hj).toNat < 128 := by
          rcases Nat.lt_or_ge (a0[j]'hj).toNat 128 with h | h
          · exact h
          · exact absurd (dgt_big (bt a0 j) (by rw [← bt_nat a0 j hj]; omega)) hbad
        have hd := dgt_range _ hbad
        have hc : ∃ (W1 : World), (∀ ty, (Instr.next (.pointer (some ⟨w.heap.size, 0, none⟩)) true ty).run Try.prog wr = .ok (.tuple #[.bool true, .int .i64 j, .int .i32 (bt a0 j)]) W1) ∧ W1.heap[w.heap.size]? = some (.stringIter a0 (j + 1)) ∧ KeepBut wr W1 w.heap.size none ∧ Below w.heap.size wr W1 := by
          have e := next_blk (P := Try.prog) wr a0 w.heap.size j
          rw [decode_ascii a0 j hj hasc] at e
          refine ⟨itSet wr w.heap.size a0 (j + 1), fun ty => ?_, itSet_heap _ _ _ _ (blk_lt BK.out), itSet_keep _ _ _ _, itSet_below _ _ _ _⟩
          rw [e ty BK.out hj, bt_nat]
        obtain ⟨W1, hnx, hW1, hWk, hWb⟩ := hc
        have hbr := bt_range a0 (j : Int)
        have HD := Aside0.mk (digit_f 2 (by omega) (bt a0 j) hbr.1 (by omega))
        rw [if_neg hbad] at HD
        have HUn := Aside0.mk (show uhx a0 (j + 1) = if half = true then some (l ++ [16 * hi + dgt (bt a0 j)], hi, false) else some (l, dgt (bt a0 j), true) by simp [uhx, HU.out, hbad])
        have HO1 := Aside0.mk (Kd.R_keep HO.out hWk (fun _ h => h))
        have HB1 := Aside0.mk (HB.out.trans hWb)
        have BK1 := Aside0.mk hW1
        obtain ⟨d, hde⟩ : ∃ d, dgt (bt a0 j) = d := ⟨_, rfl⟩
        rw [hde] at HD HUn hd
        have hd0 : 0 ≤ d := hd.1
        have hd1 : d ≤ 15 := hd.2
        clear hWk hWb hW1 HO HB BK hbad hde hd hbr
        cases half with
        | false =>
          go_wp2_with (go_at_call 10; (with_reducible refine (octet_Digit.calls 2 (bt a0 j) d true _ HD.out).mono ?_); rintro e w' ⟨rfl, ⟨nd, rfl⟩⟩)
          go_roundg (gk - 1)
          case measure => have := HJ.out; omega
          case rel => exact ⟨j + 1, l, d, true, rfl, rfl, ⟨by have := HJ.out; omega⟩, ⟨by rw [HUn.out]; rfl⟩, ⟨Kd.R_drewN HO1.out _⟩, ⟨blk_drewN BK1.out _⟩, ⟨pw_below_drewN HB1.out _⟩⟩
        | true =>
          have HM := Aside0.mk (or_hex hi d hi0 hi1 hd0 hd1)
          go_wp2_with (first | (go_at_call 10; (with_reducible refine (octet_Digit.calls 2 (bt a0 j) d true _ HD.out).mono ?_); rintro e w' ⟨rfl, ⟨nd, rfl⟩⟩) | (at_builtin; refine Kd.R_append (Kd.int .u8) (w0 := w) (W := W1.drewN nd) w.heap.size rfl (.tmp 27) (.tmp 33) 40 5 (.int .u8 0) 1 rfl Try.underlying40 octet_Unhex.info rfl (by decide) (by omega) _ l (Go.bits .or .i64 (hi * 16) d % 256) [.int .u8 (Go.bits .or .i64 (hi * 16) d % 256)] (fun k => k ≠ w.heap.size) (fun _ => False) rfl rfl ?aP (fun _ hk => hk.elim) ?aF (Kd.R_drewN HO1.out _) (pw_below_drewN HB1.out _) (below_size (pw_below_drewN HB1.out nd)) ?aL ?_; (case aP => exact rfl); (case aF => intro k hk; have := blk_lt BK1.out; have h2 : W1.heap.size ≤ k := hk; omega); (case aL => have := HUB.out; have := HS.out; omega); intro v1 w2 ho hb hg hat; rw [HM.out] at ho; have hne := HO1.out.1 w.heap.size; have BK2 := Aside0.mk (blk_grown (blk_drewN BK1.out nd) hg (fun e => hne e.symm rfl)); have n0_ := Aside0.mk ho; have n1_ := Aside0.mk hb; clear HO1 BK1 HB1 ho hb hg hat hne; have HO := n0_; have HB := n1_; have BK := BK2; clear n0_ n1_ BK2))
          go_roundg (gk - 1)
          case measure => have := HJ.out; omega
          case rel => exact ⟨j + 1, l ++ [16 * hi + d], hi, false, rfl, rfl, ⟨by have := HJ.out; omega⟩, ⟨by rw [HUn.out]; first | rfl | simp⟩, HO, BK, HB⟩
    · have hjs : j = a0.size := by have := HJ.out; omega
      subst hjs
      have hnx : ∀ ty, (Instr.next (.pointer (some ⟨w.heap.size, 0, none⟩)) true ty).run Try.prog wr = .ok (.tuple #[.bool false]) wr := fun ty => next_over wr a0 w.heap.size _ ty BK.out hj
      have hr := HR.out
      rw [HU.out] at hr
      cases half with
      | true =>
        obtain ⟨rfl, rfl⟩ := Prod.mk.inj hr
        clear hr
        go_wp2
        go_ret2
        exact ⟨rfl, HB.out⟩
      | false =>
        obtain ⟨rfl, rfl⟩ := Prod.mk.inj hr
        clear hr
        obtain ⟨A, c, rfl, hl, hC⟩ := Kd.R_reads HO.out
        have hcv := Kd.C_string (c := c) Try.underlying40 Try.underlying5 Try.underlying9 hC
        clear hC hl
        go_wp2
        go_ret2
        exact ⟨rfl, HB.out⟩

/-! ### octet_Hex: function 15 -/
def octet_Hex.l0 : Nat → ByteArray → List Int → Int → Int → Option (ByteArray)
  | 0, _, _, _, _ => none
  | k + 1, x0, x3, x6, x7 => if x7 < x6 then (if 0 ≤ x7 then (if x7 < (x0.size : Int) then (if 0 ≤ ((bt x0 x7) / 16) then (if ((bt x0 x7) / 16) < 16 then (if 0 ≤ (Go.bits .and .u8 (bt x0 x7) 15) then (if (Go.bits .and .u8 (bt x0 x7) 15) < 16 then ((some (([bt (⟨#[48, 49, 50, 51, 52, 53, 54, 55, 56, 57, 65, 66, 67, 68, 69, 70]⟩ : ByteArray) ((bt x0 x7) / 16), bt (⟨#[48, 49, 50, 51, 52, 53, 54, 55, 56, 57, 65, 66, 67, 68, 69, 70]⟩ : ByteArray) (Go.bits .and .u8 (bt x0 x7) 15)] : List Int) : List Int)).bind fun y101 => (if x3.length + y101.length < 140737488355328 then (octet_Hex.l0 k x0 (x3 ++ y101) x6 (wrap64 (x7 + 1))) else (none))) else (none)) else (none)) else (none)) else (none)) else (none)) else (none)) else (some (strOfNums x3))
def octet_Hex.f (k : Nat) (a0 : ByteArray) : Option (ByteArray) := octet_Hex.l0 k a0 ([] : List Int) (a0.size : Int) 0
theorem octet_Hex.mono_l : ∀ k, (∀ y0 y1 y2 y3, LeO (octet_Hex.l0 k y0 y1 y2 y3) (octet_Hex.l0 (k + 1) y0 y1 y2 y3))
  | 0 => fun _ _ _ _ r h => by simp [octet_Hex.l0] at h
  | k + 1 => by
    have ih0 := octet_Hex.mono_l k
    · intro y0 y1 y2 y3
      unfold octet_Hex.l0
      repeat' first
      | (with_reducible exact ih0 _ _ _ _)
      | (with_reducible exact LeO.refl _)
      | (with_reducible exact LeO.none _)
      | (with_reducible refine LeO.ite ?_ ?_)
      | (with_reducible refine LeO.bind ?_ (fun _ => ?_))
      | exact ih0 _ _ _ _
      | exact LeO.none _
      | refine LeO.ite ?_ ?_
      | refine LeO.bind ?_ (fun _ => ?_)
theorem octet_Hex.mono : ∀ a0 k, LeO (octet_Hex.f k a0) (octet_Hex.f (k + 1) a0) := by
  intro a0 k
  have ih0 := octet_Hex.mono_l k
  unfold octet_Hex.f
  repeat' first
      | (with_reducible exact ih0 _ _ _ _)
      | (with_reducible exact LeO.refl _)
      | (with_reducible exact LeO.none _)
      | (with_reducible refine LeO.ite ?_ ?_)
      | (with_reducible refine LeO.bind ?_ (fun _ => ?_))
      | exact ih0 _ _ _ _
      | exact LeO.none _
      | refine LeO.ite ?_ ?_
      | refine LeO.bind ?_ (fun _ => ?_)
def octet_Hex.T5 : Bool × List (List Nat × List Nat) := (true, [([], []), ([], []), ([], []), ([1, 2], [1, 2]), ([3], [3]), ([4], [4]), ([], []), ([], []), ([6, 7], [6, 7]), ([8], [8]), ([9], [9]), ([5, 10], [5, 10]), ([0, 11], [0, 11]), ([12, 12, 0, 1, 2, 3, 4, 5, 6, 7, 8, 9, 10, 11, 12], [0, 12])])
def octet_Hex.B5 : List Nat := [0, 0, 0, 6, 14, 30, 0, 0, 192, 448, 960, 2046, 4095, 8191]
theorem octet_Hex.tab5 : rtab .any (opsOf Try.f15 5) = octet_Hex.T5 := by kernel_rfl
theorem octet_Hex.bits5 : waitsOk octet_Hex.T5.2 octet_Hex.B5 = true := by kernel_rfl
set_option maxHeartbeats 8000000 in
set_option maxRecDepth 100000 in
theorem octet_Hex.calls (k : Nat) (a0 : ByteArray) (r : ByteArray) (w : World) (h : octet_Hex.f k a0 = some r) :
    Calls Try.prog 15 #[.string a0] w fun e w' => e = .returned (.string r) ∧ Below w.heap.size w w' := by
  have HB := Aside0.mk (Below.refl w.heap.size w)
  have H : (octet_Hex.l0 k a0 ([] : List Int) (a0.size : Int) 0) = some r := h
  clear h
  have H' := Aside0.mk H
  clear H
  go_enter Try.func15, Try.ntmps15
  go_wp2
  go_loopg [3, 7] k (fun kq v3 v7 w' => ∃ (x3_1 : List Int) (x7_1 : Int), v7 = .int .i64 x7_1 ∧ Aside0 (octet_Hex.l0 kq a0 x3_1 (a0.size : Int) x7_1 = some r) ∧ Aside0 (kq ≤ k) ∧ Aside0 (Kd.R (Kd.int .u8) 5 w' w.heap.size (fun _ => True) v3 x3_1) ∧ Aside0 (Below w.heap.size w w'))
  case atStart => exact ⟨(([] : List Int)), (0), (by first | rfl | (simp; done) | (simp [*]; done)), H', ⟨Nat.le_refl _⟩, ⟨by first | exact Kd.R_nil _ _ _ _ _ | exact Kd.N_nil _ _ _ _ _ | exact Kd.V_nil _ _ _ _ _ | exact Kd.Q_nil _ _ _ _ _ | exact Kd.S_nil _ _ _ _ _⟩, ⟨by repeat (first | (with_reducible first | exact HB.out | apply below_alloc | apply pw_below_drewN | apply below_drew1) | exact HB.out)⟩⟩
  case round =>
    clear H'
    try clear c1
    obtain ⟨x3_1, x7_1, rfl, HA, HK1, HO_3, HB⟩ := hrel
    cases gk with
    | zero => exact absurd HA.out (by simp [octet_Hex.l0])
    | succ k1 =>
      have H := HA.out
      clear HA
      simp only [octet_Hex.l0] at H
      by_cases c2 : x7_1 < (a0.size : Int)
      · rw [if_pos c2] at H
        have c2b0 : decide (x7_1 < (a0.size : Int)) = true := decide_eq_true c2
        clear c2
        by_cases c3 : 0 ≤ x7_1
        · rw [if_pos c3] at H
          have c3b0 : decide (0 ≤ x7_1) = true := decide_eq_true c3
          clear c3
          by_cases c4 : x7_1 < (a0.size : Int)
          · rw [if_pos c4] at H
            have c4b0 : decide (x7_1 < (a0.size : Int)) = true := decide_eq_true c4
            clear c4
            obtain ⟨ji6, hji6⟩ : ∃ j_ : Int, ((bt a0 x7_1) / 16) = j_ := ⟨_, rfl⟩
            replace H : (if 0 ≤ (ji6) then (if (ji6) < 16 then (if 0 ≤ (Go.bits .and .u8 (bt a0 x7_1) 15) then (if (Go.bits .and .u8 (bt a0 x7_1) 15) < 16 then ((some (([bt (⟨#[48, 49, 50, 51, 52, 53, 54, 55, 56, 57, 65, 66, 67, 68, 69, 70]⟩ : ByteArray) (ji6), bt (⟨#[48, 49, 50, 51, 52, 53, 54, 55, 56, 57, 65, 66, 67, 68, 69, 70]⟩ : ByteArray) (Go.bits .and .u8 (bt a0 x7_1) 15)] : List Int) : List Int)).bind fun y101 => (if x3_1.length + y101.length < 140737488355328 then (octet_Hex.l0 k1 a0 (x3_1 ++ y101) (a0.size : Int) (wrap64 (x7_1 + 1))) else (none))) else (none)) else (none)) else (none)) else (none)) = some r := by first | (rw [hji6] at H; exact H) | (simp only [hji6] at H ⊢; exact H)
            by_cases c7 : 0 ≤ (ji6)
            · rw [if_pos c7] at H
              have c7b0 : decide (0 ≤ (ji6)) = true := decide_eq_true c7
              clear c7
              by_cases c8 : (ji6) < 16
              · rw [if_pos c8] at H
                have c8b0 : decide ((ji6) < 16) = true := decide_eq_true c8
                clear c8
                by_cases c11 : 0 ≤ (Go.bits .and .u8 (bt a0 x7_1) 15)
                · rw [if_pos c11] at H
                  have c11b0 : decide (0 ≤ (Go.bits .and .u8 (bt a0 x7_1) 15)) = true := decide_eq_true c11
                  clear c11
                  by_cases c12 : (Go.bits .and .u8 (bt a0 x7_1) 15) < 16
                  · rw [if_pos c12] at H
                    have c12b0 : decide ((Go.bits .and .u8 (bt a0 x7_1) 15) < 16) = true := decide_eq_true c12
                    clear c12
                    obtain ⟨y101, hy101⟩ : ∃ y_ : List Int, y_ = (([bt (⟨#[48, 49, 50, 51, 52, 53, 54, 55, 56, 57, 65, 66, 67, 68, 69, 70]⟩ : ByteArray) (ji6), bt (⟨#[48, 49, 50, 51, 52, 53, 54, 55, 56, 57, 65, 66, 67, 68, 69, 70]⟩ : ByteArray) (Go.bits .and .u8 (bt a0 x7_1) 15)] : List Int)) := ⟨_, rfl⟩
                    replace H : (if x3_1.length + y101.length < 140737488355328 then (octet_Hex.l0 k1 a0 (x3_1 ++ y101) (a0.size : Int) (wrap64 (x7_1 + 1))) else (none)) = some r := by first | (rw [hy101]; with_reducible exact H) | (have H2_ := (Option.bind_some _ _).symm.trans H; rw [hy101]; with_reducible exact H2_) | (have H2_ := (Option.bind_some _ _).symm.trans H; with_reducible exact H2_) | with_reducible exact H | (rw [hy101]; exact H) | exact H
                    have Ny101 := Aside0.mk hy101
                    clear hy101
                    by_cases c14 : x3_1.length + y101.length < 140737488355328
                    · rw [if_pos c14] at H
                      have LMc14 := Aside0.mk c14
                      clear c14
                      obtain ⟨y104, hy104⟩ : ∃ y_ : List Int, y_ = (x3_1 ++ y101) := ⟨_, rfl⟩
                      replace H : (octet_Hex.l0 k1 a0 y104 (a0.size : Int) (wrap64 (x7_1 + 1))) = some r := by first | (rw [hy104]; with_reducible exact H) | (have H2_ := (Option.bind_some _ _).symm.trans H; rw [hy104]; with_reducible exact H2_) | (have H2_ := (Option.bind_some _ _).symm.trans H; with_reducible exact H2_) | with_reducible exact H | (rw [hy104]; exact H) | exact H
                      have Ny104 := Aside0.mk hy104
                      clear hy104
                      have H' := Aside0.mk H
                      clear H
                      try go_wp2
                      have n0_ := Aside0.mk (Kd.R_drew HO_3.out)
                      have n1_ := Aside0.mk (below_drew1 HB.out)
                      clear HO_3
                      clear HB
                      have HO_3 := n0_
                      have HB := n1_
                      clear n0_ n1_
                      have p5 : 0 ≤ (x7_1 : Int) := of_decide_eq_true (by first | (with_reducible assumption) | assumption)
                      have q5 : x7_1 < (a0.size : Int) := of_decide_eq_true (by first | (with_reducible assumption) | assumption)
                      have hx5 := bt_at a0 x7_1
                      replace p5 := eq_true p5
                      replace q5 := eq_true q5
                      have p9 : 0 ≤ ((ji6) : Int) := of_decide_eq_true (by first | (with_reducible assumption) | assumption)
                      have q9 : (ji6) < (16 : Int) := of_decide_eq_true (by first | (with_reducible assumption) | assumption)
                      have hx9 := bt_at (⟨#[48, 49, 50, 51, 52, 53, 54, 55, 56, 57, 65, 66, 67, 68, 69, 70]⟩ : ByteArray) (ji6)
                      replace p9 := eq_true p9
                      replace q9 := eq_true q9
                      have p10 : 0 ≤ (x7_1 : Int) := of_decide_eq_true (by first | (with_reducible assumption) | assumption)
                      have q10 : x7_1 < (a0.size : Int) := of_decide_eq_true (by first | (with_reducible assumption) | assumption)
                      have hx10 := bt_at a0 x7_1
                      replace p10 := eq_true p10
                      replace q10 := eq_true q10
                      have p13 : 0 ≤ ((Go.bits .and .u8 (bt a0 x7_1) 15) : Int) := of_decide_eq_true (by first | (with_reducible assumption) | assumption)
                      have q13 : (Go.bits .and .u8 (bt a0 x7_1) 15) < (16 : Int) := of_decide_eq_true (by first | (with_reducible assumption) | assumption)
                      have hx13 := bt_at (⟨#[48, 49, 50, 51, 52, 53, 54, 55, 56, 57, 65, 66, 67, 68, 69, 70]⟩ : ByteArray) (Go.bits .and .u8 (bt a0 x7_1) 15)
                      replace p13 := eq_true p13
                      replace q13 := eq_true q13
                      refine start_ (n := 14) (S := fun w' => True) (ds := []) #[false, false, false, false, false, false, false, false, false, false, false, false, false, false] (by kernel_rfl) rfl rfl trivial (fun hHeld => ?_); refine with_tabW octet_Hex.tab5 octet_Hex.bits5 (fun HT_ HW_ => ?_)
                      generalize wr.drew = w15 at HO_3 HB hHeld ⊢
                      refine pure_ (i := 0) (N := some 10) (v := ?_) (a' := ?_) #[true, false, false, false, false, false, false, false, false, false, false, false, false, false] rfl rfl (any_of HT_.out (by kernel_rfl)) (fun _ _ _ h => h) (Or.inl ⟨by rfl, ?_⟩) ?_ ?_
                      rotate_left
                      · intro w'
                        go_simp
                        with_reducible rfl
                      rotate_left
                      · simp only [Act.put, List.setIfInBounds_toArray, List.set_cons_zero, List.set_cons_succ, i64_w, i32_w]
                        rfl
                      refine pure_ (i := 1) (N := some 11) (v := ?_) (a' := ?_) #[true, true, false, false, false, false, false, false, false, false, false, false, false, false] rfl rfl (any_of HT_.out (by kernel_rfl)) (fun _ _ _ h => h) (Or.inl ⟨by rfl, ?_⟩) ?_ ?_
                      rotate_left
                      · intro w'
                        go_simp
                        with_reducible rfl
                      rotate_left
                      · simp only [Act.put, List.setIfInBounds_toArray, List.set_cons_zero, List.set_cons_succ, i64_w, i32_w]
                        rfl
                      refine pure_ (i := 2) (N := some 12) (v := ?_) (a' := ?_) #[true, true, true, false, false, false, false, false, false, false, false, false, false, false] rfl rfl (any_of HT_.out (by kernel_rfl)) (fun _ _ _ h => h) (Or.inl ⟨by rfl, ?_⟩) ?_ ?_
                      rotate_left
                      · intro w'
                        go_simp
                        with_reducible rfl
                      rotate_left
                      · simp only [Act.put, List.setIfInBounds_toArray, List.set_cons_zero, List.set_cons_succ, i64_w, i32_w]
                        rfl
                      refine pure_ (i := 6) (N := some 16) (v := ?_) (a' := ?_) #[true, true, true, false, false, false, true, false, false, false, false, false, false, false] rfl rfl (any_of HT_.out (by kernel_rfl)) (fun _ _ _ h => h) (Or.inl ⟨by rfl, ?_⟩) ?_ ?_
                      rotate_left
                      · intro w'
                        go_simp
                        with_reducible rfl
                      rotate_left
                      · simp only [Act.put, List.setIfInBounds_toArray, List.set_cons_zero, List.set_cons_succ, i64_w, i32_w]
                        rfl
                      refine pure_ (i := 7) (N := some 17) (v := ?_) (a' := ?_) #[true, true, true, false, false, false, true, true, false, false, false, false, false, false] rfl rfl (any_of HT_.out (by kernel_rfl)) (fun _ _ _ h => h) (Or.inl ⟨by rfl, ?_⟩) ?_ ?_
                      rotate_left
                      · intro w'
                        go_simp
                        with_reducible rfl
                      rotate_left
                      · simp only [Act.put, List.setIfInBounds_toArray, List.set_cons_zero, List.set_cons_succ, i64_w, i32_w]
                        rfl
                      refine take_ (i := 3) (N := some 13) (v := ?_) (a' := ?_) #[true, true, true, true, false, false, true, true, false, false, false, false, false, false] rfl rfl (take_ofW HT_.out HW_.out (by kernel_rfl)) (fun _ _ _ h => h) (Or.inl ⟨by rfl, ?_⟩) hHeld ?_ ?_
                      rotate_left
                      · intro w' _
                        go_simp
                        with_reducible rfl
                      rotate_left
                      · simp only [Act.put, List.setIfInBounds_toArray, List.set_cons_zero, List.set_cons_succ, i64_w, i32_w]
                        rfl
                      refine pure_ (i := 4) (N := some 14) (v := ?_) (a' := ?_) #[true, true, true, true, true, false, true, true, false, false, false, false, false, false] rfl rfl (any_of HT_.out (by kernel_rfl)) (fun _ _ _ h => h) (Or.inl ⟨by rfl, ?_⟩) ?_ ?_
                      rotate_left
                      · intro w'
                        go_simp
                        with_reducible rfl
                      rotate_left
                      · simp only [Act.put, List.setIfInBounds_toArray, List.set_cons_zero, List.set_cons_succ, i64_w, i32_w]
                        rfl
                      refine take_ (i := 5) (N := some 15) (v := ?_) (a' := ?_) #[true, true, true, true, true, true, true, true, false, false, false, false, false, false] rfl rfl (take_ofW HT_.out HW_.out (by kernel_rfl)) (fun _ _ _ h => h) (Or.inl ⟨by rfl, ?_⟩) hHeld ?_ ?_
                      rotate_left
                      · intro w' _
                        go_simp
                        with_reducible rfl
                      rotate_left
                      · simp only [Act.put, List.setIfInBounds_toArray, List.set_cons_zero, List.set_cons_succ, i64_w, i32_w]
                        rfl
                      refine take_ (i := 8) (N := some 18) (v := ?_) (a' := ?_) #[true, true, true, true, true, true, true, true, true, false, false, false, false, false] rfl rfl (take_ofW HT_.out HW_.out (by kernel_rfl)) (fun _ _ _ h => h) (Or.inl ⟨by rfl, ?_⟩) hHeld ?_ ?_
                      rotate_left
                      · intro w' _
                        go_simp
                        with_reducible rfl
                      rotate_left
                      · simp only [Act.put, List.setIfInBounds_toArray, List.set_cons_zero, List.set_cons_succ, i64_w, i32_w]
                        rfl
                      refine pure_ (i := 9) (N := some 19) (v := ?_) (a' := ?_) #[true, true, true, true, true, true, true, true, true, true, false, false, false, false] rfl rfl (any_of HT_.out (by kernel_rfl)) (fun _ _ _ h => h) (Or.inl ⟨by rfl, ?_⟩) ?_ ?_
                      rotate_left
                      · intro w'
                        go_simp
                        with_reducible rfl
                      rotate_left
                      · simp only [Act.put, List.setIfInBounds_toArray, List.set_cons_zero, List.set_cons_succ, i64_w, i32_w]
                        rfl
                      refine take_ (i := 10) (N := some 20) (v := ?_) (a' := ?_) #[true, true, true, true, true, true, true, true, true, true, true, false, false, false] rfl rfl (take_ofW HT_.out HW_.out (by kernel_rfl)) (fun _ _ _ h => h) (Or.inl ⟨by rfl, ?_⟩) hHeld ?_ ?_
                      rotate_left
                      · intro w' _
                        go_simp
                        with_reducible rfl
                      rotate_left
                      · simp only [Act.put, List.setIfInBounds_toArray, List.set_cons_zero, List.set_cons_succ, i64_w, i32_w]
                        rfl
                      refine one_ (i := 11) (N := some 21) #[true, true, true, true, true, true, true, true, true, true, true, true, false, false] rfl rfl (one_of HT_.out (by kernel_rfl)) (by decide) (fun K hK => ?_)
                      refine Kd.R_lit_step (Kd.int .u8) _ 5 ?hg (N := 21) ?hd (xs := ([bt (⟨#[48, 49, 50, 51, 52, 53, 54, 55, 56, 57, 65, 66, 67, 68, 69, 70]⟩ : ByteArray) (ji6), bt (⟨#[48, 49, 50, 51, 52, 53, 54, 55, 56, 57, 65, 66, 67, 68, 69, 70]⟩ : ByteArray) (Go.bits .and .u8 (bt a0 x7_1) 15)] : List Int)) (inner := [.int .u8 (bt (⟨#[48, 49, 50, 51, 52, 53, 54, 55, 56, 57, 65, 66, 67, 68, 69, 70]⟩ : ByteArray) (ji6)), .int .u8 (bt (⟨#[48, 49, 50, 51, 52, 53, 54, 55, 56, 57, 65, 66, 67, 68, 69, 70]⟩ : ByteArray) (Go.bits .and .u8 (bt a0 x7_1) 15))]) (ok := fun _ => True) (okp := fun _ => True) ?hr ?hp (fun _ hk => hk) trivial (Below.refl _ _) (Nat.le_refl _) (by simp) ?_; (case hd => rfl); (case hg => rfl); (case hr => first | (go_simp; done) | (go_simp; rfl)); (case hp => exact (Reps.one (show Kd.M (Kd.int .u8) _ _ _ (bt (⟨#[48, 49, 50, 51, 52, 53, 54, 55, 56, 57, 65, 66, 67, 68, 69, 70]⟩ : ByteArray) (ji6)) [.int .u8 (bt (⟨#[48, 49, 50, 51, 52, 53, 54, 55, 56, 57, 65, 66, 67, 68, 69, 70]⟩ : ByteArray) (ji6))] from rfl) (Reps.one (show Kd.M (Kd.int .u8) _ _ _ (bt (⟨#[48, 49, 50, 51, 52, 53, 54, 55, 56, 57, 65, 66, 67, 68, 69, 70]⟩ : ByteArray) (Go.bits .and .u8 (bt a0 x7_1) 15)) [.int .u8 (bt (⟨#[48, 49, 50, 51, 52, 53, 54, 55, 56, 57, 65, 66, 67, 68, 69, 70]⟩ : ByteArray) (Go.bits .and .u8 (bt a0 x7_1) 15))] from rfl) (Reps.none _ _))))
                      intro v102 w16 ho17 hb hg_ hnew_
                      clear hg_ hnew_
                      (first | rw [← Ny101.out] at ho17 | (simp only [Int.reduceToNat] at ho17; rw [← Ny101.out] at ho17))
                      have n0_ := Aside0.mk (Kd.R_elder' (by (with_reducible repeat (first | apply Kd.R_alloc | apply Kd.R_drewN | apply Kd.R_drew)); exact HO_3.out) (Kd.R_base ho17) hb)
                      have n1_ := Aside0.mk (Kd.R_lower (Kd.R_new' ho17 (Kd.R_lt (by (with_reducible repeat (first | apply Kd.R_alloc | apply Kd.R_drewN | apply Kd.R_drew)); exact HO_3.out))) (below_size (by repeat (first | (with_reducible first | exact HB.out | apply below_alloc | apply pw_below_drewN | apply below_drew1) | exact HB.out))))
                      have n2_ := Aside0.mk (below_step (by repeat (first | (with_reducible first | exact HB.out | apply below_alloc | apply pw_below_drewN | apply below_drew1) | exact HB.out)) hb)
                      clear HO_3
                      clear HB
                      have HO_3 := n0_
                      have HO103 := n1_
                      have HB := n2_
                      clear n0_ n1_ n2_
                      clear hb ho17
                      obtain ⟨Ao19, co19, eo19⟩ := Kd.R_slice HO103.out
                      (first | subst eo19 | (injection eo19 with f1_ f2_ f3_; have f4_ := f1_.symm; have f5_ := f3_.symm; clear f1_ f2_ f3_; subst f4_; subst f5_))
                      refine hK.out _ _ trivial (fun hHeld => ?_)
                      clear hK K
                      refine norm_ (a' := ?_) ?_ ?_
                      rotate_left
                      · show Act.put _ (some 21) _ = _
                        simp only [Act.put, List.setIfInBounds_toArray, List.set_cons_zero, List.set_cons_succ, i64_w, i32_w]
                        rfl
                      refine one_ (i := 12) (N := some 22) #[true, true, true, true, true, true, true, true, true, true, true, true, true, false] rfl rfl (one_of HT_.out (by kernel_rfl)) (by decide) (fun K hK => ?_)
                      refine Kd.R_append_rows_step (Kd.int .u8) (w0 := w) w.heap.size (by rfl) (.tmp 10) (.tmp 21) 40 5 (.int .u8 0) 1 rfl Try.underlying40 info5 rfl (by decide) (by omega) u3 x3_1 y101 _ _ _ (fun k_ => some k_ ≠ (.slice Ao19 y101.length co19 : Value).ownBlock) (fun _ => False) rfl rfl ?aO ?aR (fun _ _ h => h) (fun _ h => h.elim) ?aF ?aB ?aS ?aL ?_
                      (case aR => repeat (first | exact (Kd.R_reads' HO103.out).2.2 | (with_reducible refine Kd.C_alloc ?_ _) | (with_reducible refine Kd.C_drewN ?_ _) | (with_reducible refine Kd.C_drew ?_)))
                      (case aB => exact (by repeat (first | (with_reducible first | exact HB.out | apply below_alloc | apply pw_below_drewN | apply below_drew1) | exact HB.out)))
                      (case aF => exact (fun k_ hk => Kd.fresh' (Kd.R_lt (by (with_reducible repeat (first | apply Kd.R_alloc | apply Kd.R_drewN | apply Kd.R_drew)); exact HO103.out)) k_ hk))
                      (case aO => exact (by (with_reducible repeat (first | apply Kd.R_alloc | apply Kd.R_drewN | apply Kd.R_drew)); exact Kd.R_mono HO_3.out (fun _ hk => hk.2)))
                      (case aS => exact (below_size (by repeat (first | (with_reducible first | exact HB.out | apply below_alloc | apply pw_below_drewN | apply below_drew1) | exact HB.out))))
                      (case aL => have := LMc14.out; omega)
                      intro v105 w18 ho hb hg hat
                      rw [← Ny104.out] at ho
                      have n0_ := Aside0.mk (Kd.R_after (ok := (fun _ => True)) (by (with_reducible repeat (first | apply Kd.R_alloc | apply Kd.R_drewN | apply Kd.R_drew)); exact HO103.out) hg hat)
                      have n1_ := Aside0.mk (hb)
                      have n2_ := Aside0.mk (ho)
                      clear HO103
                      clear HB
                      clear HO_3
                      have HO103 := n0_
                      have HB := n1_
                      have HO106 := n2_
                      clear n0_ n1_ n2_
                      clear ho hb hg hat
                      refine hK.out _ _ trivial (fun hHeld => ?_)
                      clear hK K
                      refine norm_ (a' := ?_) ?_ ?_
                      rotate_left
                      · show Act.put _ (some 22) _ = _
                        simp only [Act.put, List.setIfInBounds_toArray, List.set_cons_zero, List.set_cons_succ, i64_w, i32_w]
                        rfl
                      refine pure_ (i := 13) (N := some 3) (v := ?_) (a' := ?_) #[true, true, true, true, true, true, true, true, true, true, true, true, true, true] rfl rfl (any_of HT_.out (by kernel_rfl)) (fun _ _ _ h => h) (Or.inl ⟨by rfl, ?_⟩) ?_ ?_
                      rotate_left
                      · intro w'
                        go_simp
                        with_reducible rfl
                      rotate_left
                      · simp only [Act.put, List.setIfInBounds_toArray, List.set_cons_zero, List.set_cons_succ, i64_w, i32_w]
                        rfl
                      refine done_ (done_of HT_.out (by kernel_rfl)) ?_
                      try go_wp2
                      go_roundg k1
                      case measure => have := HK1.out; omega
                      case rel => exact ⟨(y104), (wrap64 (x7_1 + 1)), (by first | rfl | (simp; done) | (simp [*]; done)), H', ⟨by have := HK1.out; omega⟩, ⟨by (with_reducible repeat (first | apply Kd.R_alloc | apply Kd.R_drewN | apply Kd.R_drew)); exact Kd.R_mono HO106.out (fun _ hk => trivial)⟩, ⟨by repeat (first | (with_reducible first | exact HB.out | apply below_alloc | apply pw_below_drewN | apply below_drew1) | exact HB.out)⟩⟩
                    · rw [if_neg c14] at H
                      exact absurd H (by simp)
                  · rw [if_neg c12] at H
                    exact absurd H (by simp)
                · rw [if_neg c11] at H
                  exact absurd H (by simp)
              · rw [if_neg c8] at H
                exact absurd H (by simp)
            · rw [if_neg c7] at H
              exact absurd H (by simp)
          · rw [if_neg c4] at H
            exact absurd H (by simp)
        · rw [if_neg c3] at H
          exact absurd H (by simp)
      · rw [if_neg c2] at H
        have c2b0 : decide (x7_1 < (a0.size : Int)) = false := decide_eq_false c2
        clear c2
        obtain rfl := Option.some.inj H
        have hcv20 := own_string (P := Try.prog) Try.underlying40 Try.underlying5 Try.underlying9 (Kd.own_of_R HO_3.out)
        go_wp2
        go_ret
        exact ⟨by first | rfl | (simp [errW_none, errW_some] <;> rfl) | (simp [*, errW_none, errW_some] <;> rfl), by repeat (first | (with_reducible first | exact HB.out | apply below_alloc | apply pw_below_drewN | apply below_drew1) | exact HB.out)⟩

-- NOT PRINTED: function 28 (octet_each)

/-! ### octet_Ones: function 18 -/
theorem octet_Ones.info : (Try.prog.info? 5).map (fun i => (i.zero, i.size, i.bytes)) = some (some (.int .u8 0), 1, 1) := by kernel_rfl
/-- How many rounds 'b &= b - 1' takes till nothing is left. -/
def popc : Nat → Int → Int
  | 0, _ => 0
  | k + 1, x => if x > 0 then popc k (Go.bits .and .u8 x (x - 1)) + 1 else 0
def pop (x : Int) : Int := popc 9 x
def onesL (s : ByteArray) : Nat → Int
  | 0 => 0
  | n + 1 => onesL s n + pop (bt s n)
theorem popc_all : ∀ x : Fin 256, (0 ≤ Go.bits .and .u8 (x.val : Int) (x.val - 1) ∧ ((x.val : Int) > 0 → Go.bits .and .u8 (x.val : Int) (x.val - 1) < x.val ∧ pop (x.val : Int) = pop (Go.bits .and .u8 (x.val : Int) (x.val - 1)) + 1)) ∧ 0 ≤ pop x.val ∧ pop x.val ≤ 8 := by decide +kernel
theorem pop_step (x : Int) (h0 : 0 < x) (h1 : x ≤ 255) : 0 ≤ Go.bits .and .u8 x (x - 1) ∧ Go.bits .and .u8 x (x - 1) < x ∧ pop x = pop (Go.bits .and .u8 x (x - 1)) + 1 := by
  have := popc_all ⟨x.toNat, by omega⟩
  have e : (x.toNat : Int) = x := by omega
  simp only [e] at this
  exact ⟨this.1.1, this.1.2 h0⟩
theorem pop_bound (x : Int) (h0 : 0 ≤ x) (h1 : x ≤ 255) : 0 ≤ pop x ∧ pop x ≤ 8 := by
  have := popc_all ⟨x.toNat, by omega⟩
  have e : (x.toNat : Int) = x := by omega
  simp only [e] at this
  exact this.2
theorem onesL_bound (s : ByteArray) : ∀ n, n ≤ s.size → 0 ≤ onesL s n ∧ onesL s n ≤ 8 * n
  | 0, _ => by simp [onesL]
  | n + 1, h => by
    have a := onesL_bound s n (by omega)
    have b := pop_bound _ (bt_range s (n : Int)).1 (bt_range s (n : Int)).2
    simp only [onesL]
    omega

def octet_Ones.f (s : ByteArray) : Option Int := if s.size < 140737488355328 then some (onesL s s.size) else none

set_option maxHeartbeats 8000000 in
theorem octet_Ones.one (x m n : Int) (w : World) (b : Nat) (h0 : 0 ≤ x) (h1 : x ≤ 255) (hn : 0 ≤ n) (hn2 : n ≤ 9000000000000000000) (hb : w.heap[b]? = some (.cells #[.int .i64 n] 3 (0, 0))) :
    Calls Try.prog 30 #[.int .u8 x, .int .u8 m, .pointer (some ⟨b, 0, none⟩)] w fun e w' => e = .returned (.int .u8 0) ∧ w'.heap[b]? = some (.cells #[.int .i64 (n + pop x)] 3 (0, 0)) ∧ KeepBut w w' b none ∧ Below b w w' := by
  have BK := Aside0.mk hb
  clear hb
  go_enter Try.func30, Try.ntmps30
  go_wp2
  go_loopg [0] (x.toNat + 1) (fun kq v0 w' => ∃ y c : Int, v0 = .int .u8 y ∧ Aside0 (0 ≤ y ∧ y ≤ 255 ∧ y.toNat < kq) ∧ Aside0 (n + pop x = c + pop y ∧ 0 ≤ c) ∧ Aside0 (w'.heap[b]? = some (.cells #[.int .i64 c] 3 (0, 0))) ∧ Aside0 (KeepBut w w' b none) ∧ Aside0 (Below b w w'))
  case atStart => exact ⟨x, n, rfl, ⟨h0, h1, by omega⟩, ⟨rfl, hn⟩, BK, ⟨KeepBut.refl _ _ _⟩, ⟨Below.refl _ _⟩⟩
  case round =>
    obtain ⟨y, c, rfl, HY, HC, BK, HK, HB⟩ := hrel
    have hb0 := (HY.out).1
    have hb1 := (HY.out).2.1
    by_cases hy : 0 < y
    · have hc0 : wr.cell? ⟨b, 0, none⟩ = some (.int .i64 c) := (blk_cell BK.out 0).trans rfl
      have hf0 := blk_frozen BK.out 0
      have hp := pop_step y hy hb1
      have hpb := pop_bound y hb0 hb1
      have hpx := pop_bound x h0 h1
      have hcs : c + 1 ≤ 9000000000000000010 := by have := HC.out; omega
      have hcn : 0 ≤ c := HC.out.2
      have HP := Aside0.mk hp
      clear hp hpb hpx
      go_wp2
      go_roundg (gk - 1)
      case measure => have := HY.out; omega
      case rel =>
        have hp := HP.out
        have hg := HY.out.2.2
        refine ⟨Go.bits .and .u8 y (y - 1), c + 1, rfl, ⟨by omega⟩, ⟨by have := HC.out; omega⟩, ⟨blk_put BK.out 0 _ rfl⟩, ⟨KeepBut.set_ HK.out 0 _⟩, ⟨HB.out.setCell (Nat.le_refl _) _⟩⟩
    · have hy0 : y = 0 := by omega
      subst hy0
      have hc := HC.out
      have hp0 : pop 0 = 0 := by decide
      rw [hp0] at hc
      have hcc : c = n + pop x := by omega
      subst hcc
      clear hc
      go_wp2
      go_ret
      exact ⟨rfl, BK.out, HK.out, HB.out⟩

set_option maxHeartbeats 8000000 in
theorem octet_Ones.each (s : ByteArray) (w0 w : World) (b : Nat) (hb0 : w0.heap.size ≤ b) (hs : s.size < 140737488355328) (hb : w.heap[b]? = some (.cells #[.int .i64 0] 3 (0, 0))) (hbw : Below w0.heap.size w0 w) :
    Calls Try.prog 28 #[.string s, .string s, .func (.func 30) #[] #[.pointer (some ⟨b, 0, none⟩)]] w fun e w' => ∃ r, e = .returned (.string r) ∧ w'.heap[b]? = some (.cells #[.int .i64 (onesL s s.size)] 3 (0, 0)) ∧ Below w0.heap.size w0 w' := by
  have BK := Aside0.mk hb
  have HB := Aside0.mk hbw
  clear hb hbw
  go_enter Try.func28, Try.ntmps28
  go_wp2
  go_loopg [7, 12] (s.size + 1) (fun kq v7 v12 w' => ∃ (j : Nat) (l : List Int), v12 = .int .i64 j ∧ Aside0 (j ≤ s.size ∧ kq + j = s.size + 1 ∧ l.length = j) ∧ Aside0 (Kd.R (Kd.int .u8) 5 w' w0.heap.size (fun k => k ≠ b) v7 l) ∧ Aside0 (w'.heap[b]? = some (.cells #[.int .i64 (onesL s j)] 3 (0, 0))) ∧ Aside0 (Below w0.heap.size w0 w'))
  case atStart => exact ⟨0, [], rfl, ⟨by simp⟩, ⟨Kd.R_nil _ _ _ _ _⟩, BK, HB⟩
  case round =>
    obtain ⟨j, l, rfl, HJ, HO, BK, HB⟩ := hrel
    by_cases hj : j < s.size
    · have HR := Aside0.mk (bt_range s (j : Int))
      have HN := Aside0.mk (onesL_bound s j (by omega))
      have HBT := Aside0.mk (bt_nat s j hj)
      go_wp2_with (first | (go_at_call 30; (with_reducible refine (octet_Ones.one (s[j].toNat : Int) (s[j].toNat : Int) (onesL s j) _ b ?a1 ?a2 ?a3 ?a4 BK.out).mono ?_); (case a1 => have := HR.out; rw [HBT.out]; omega); (case a2 => have := HR.out; rw [HBT.out]; omega); (case a3 => exact HN.out.1); (case a4 => have := HN.out; omega); rintro e w1 ⟨rfl, hb1, hk1, hw1⟩; rw [HBT.out] at hb1; have n0_ := Aside0.mk (Kd.R_keep HO.out hk1 (fun _ h => h)); have n1_ := Aside0.mk hb1; have n2_ := Aside0.mk (HB.out.trans (hw1.mono hb0)); clear HO BK HB hb1 hk1 hw1; have HO := n0_; have BK := n1_; have HB := n2_; clear n0_ n1_ n2_) | (at_builtin; refine Kd.R_append (Kd.int .u8) (w0 := w0) w0.heap.size rfl (.tmp 22) (.tmp 29) 40 5 (.int .u8 0) 1 rfl Try.underlying40 octet_Ones.info rfl (by decide) (by omega) _ l 0 [.int .u8 0] (fun k => k ≠ b) (fun _ => False) rfl rfl ?aP (fun _ hk => hk.elim) ?aF HO.out HB.out (below_size HB.out) ?aL ?_; (case aP => exact rfl); (case aF => intro k hk; have := blk_lt BK.out; omega); (case aL => have := HJ.out; omega); intro v1 w2 ho hb hg hat; have hne := HO.out.1 b; have BK2 := Aside0.mk (blk_grown BK.out hg (fun e => hne e.symm rfl)); have n0_ := Aside0.mk ho; have n1_ := Aside0.mk hb; clear HO BK HB ho hb hg hat hne; have HO := n0_; have HB := n1_; have BK := BK2; clear n0_ n1_ BK2))
      go_roundg (gk - 1)
      case measure => have := HJ.out; omega
      case rel => exact ⟨j + 1, l ++ [0], by go_num, ⟨by have := HJ.out; simp; omega⟩, HO, BK, HB⟩
    · have hjs : j = s.size := by have := HJ.out; omega
      subst hjs
      obtain ⟨A, c, rfl, hl, hC⟩ := Kd.R_reads HO.out
      have hcv := Kd.C_string (c := c) Try.underlying40 Try.underlying5 Try.underlying9 hC
      clear hC hl
      go_wp2
      go_ret
      exact ⟨_, rfl, BK.out, HB.out⟩

set_option maxHeartbeats 8000000 in
theorem octet_Ones.calls (a0 : ByteArray) (r : Int) (w : World) (h : octet_Ones.f a0 = some r) :
    Calls Try.prog 18 #[.string a0] w fun e w' => e = .returned (.int .i64 r) ∧ Below w.heap.size w w' := by
  unfold octet_Ones.f at h
  split at h
  · rename_i hs
    obtain rfl := Option.some.inj h
    clear h
    have HS := Aside0.mk hs
    clear hs
    go_enter Try.func18, Try.ntmps18
    go_wp2_with (go_at_call 28; (with_reducible refine (octet_Ones.each a0 w _ w.heap.size (Nat.le_refl _) HS.out (blk_new w _) (below_alloc (Below.refl _ _) _)).mono ?_); rintro e w1 ⟨rr, rfl, hb1, hw1⟩; have hc0 : w1.cell? ⟨w.heap.size, 0, none⟩ = some (.int .i64 (onesL a0 a0.size)) := (blk_cell hb1 0).trans rfl; have HB := Aside0.mk hw1; clear hb1 hw1)
    go_ret
    exact ⟨rfl, HB.out⟩
  · exact absurd h (by simp)

end Go.Proofs.Ytooadablecjpdaa.POctetMasks
