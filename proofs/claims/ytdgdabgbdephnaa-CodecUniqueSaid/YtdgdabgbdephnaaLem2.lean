/- Plain lemmas for chapter 03: the encoding of a number (E), the reading of one (D), that both programs write the one and read the other. No conditions beyond those written at each. -/
import Derived.Test.YtdgdabgbdephnaaQ7
import Derived.Test.YtdgdabgbdephnaaQ11
import Derived.Test.YtdgdabgbdephnaaQ1
import Derived.Test.YtdgdabgbdephnaaQ3
import Derived.Test.YtdgdabgbdephnaaGTake
import Derived.Test.YtdgdabgbdephnaaLem
set_option linter.unusedVariables false
set_option linter.unusedSimpArgs false
namespace Go.Proofs.Ytdgdabgbdephnaa.Pure
open Go.RowKit Go.Proofs.Ytdgdabgbdephnaa.Q Go.Proofs.YtdgdabgbdephnaaW.PrintWords Go.Proofs.YtdgdabgbdephnaaW.PrintLast Go.Proofs.YtdgdabgbdephnaaW.PrintMore

/-- The digits of a number, seven bits each, the lowest first. -/
def E (z : Nat) : List Nat := if h : 128 ≤ z then (z % 128 + 128) :: E (z / 128) else [z]
termination_by z
decreasing_by omega
theorem E_big {z : Nat} (h : 128 ≤ z) : E z = (z % 128 + 128) :: E (z / 128) := by rw [E, dif_pos h]
theorem E_small {z : Nat} (h : z < 128) : E z = [z] := by rw [E, dif_neg (by omega)]
theorem E_byte : ∀ (n z : Nat), z ≤ n → ∀ b ∈ E z, b < 256
  | n, z, hz, b, hb => by
    by_cases h : 128 ≤ z
    · rw [E_big h] at hb
      rcases List.mem_cons.1 hb with rfl | hb
      · omega
      · match n with
        | 0 => omega
        | n + 1 => exact E_byte n (z / 128) (by omega) b hb
    · rw [E_small (by omega)] at hb
      rcases List.mem_cons.1 hb with rfl | hb
      · omega
      · cases hb
theorem E_bytes {z : Nat} : ∀ b ∈ E z, b < 256 := E_byte z z (Nat.le_refl _)
theorem E_len : ∀ (m z : Nat), z < 128 ^ (m + 1) → (E z).length ≤ m + 1
  | m, z, h => by
    by_cases c : 128 ≤ z
    · rw [E_big c, List.length_cons]
      match m with
      | 0 => omega
      | m + 1 =>
        have := E_len m (z / 128) (by rw [Nat.div_lt_iff_lt_mul (by omega)]; rw [Nat.pow_succ] at h; exact h)
        omega
    · rw [E_small (by omega), List.length_singleton]
      omega
theorem E_len10 {z : Nat} (h : z < 18446744073709551616) : (E z).length ≤ 10 := E_len 9 z (Nat.lt_of_lt_of_le h (by decide))
theorem E_pos (z : Nat) : 0 < (E z).length := by
  by_cases c : 128 ≤ z
  · rw [E_big c, List.length_cons]; omega
  · rw [E_small (by omega), List.length_singleton]; omega

/-- The reading of a number's digits: l what is left, i digits were read, z what they told. -/
def D : List Nat → Nat → Nat → Except Int (Nat × Nat)
  | [], _, _ => .error 28
  | c :: t, i, z => if i = 9 ∧ c ≠ 1 then .error 6 else if 0 < i ∧ c = 0 then .error 6 else if c < 128 then .ok (z + c * 128 ^ i, i + 1) else D t (i + 1) (z + (c - 128) * 128 ^ i)

theorem D_E (r : List Nat) : ∀ (n z i acc : Nat), z ≤ n → (0 < i → 0 < z) → i ≤ 9 → z * 128 ^ i < 18446744073709551616 → D (E z ++ r) i acc = .ok (acc + z * 128 ^ i, i + (E z).length)
  | n, z, i, acc, hz, h0, h9, hb => by
    by_cases c : 128 ≤ z
    · rw [E_big c, List.cons_append, D]
      have hi : i ≠ 9 := by
        intro e
        subst e
        have : 128 * 128 ^ 9 ≤ z * 128 ^ 9 := Nat.mul_le_mul_right _ c
        omega
      rw [if_neg (by omega), if_neg (by omega), if_neg (by omega)]
      match n with
      | 0 => omega
      | n + 1 =>
        have hm : z / 128 * 128 ^ (i + 1) ≤ z * 128 ^ i := by
          rw [Nat.pow_succ', ← Nat.mul_assoc]
          exact Nat.mul_le_mul_right _ (Nat.div_mul_le_self z 128)
        rw [D_E r n (z / 128) (i + 1) _ (by omega) (by omega) (by omega) (by omega)]
        have e : z % 128 * 128 ^ i + z / 128 * 128 ^ (i + 1) = z * 128 ^ i := by
          rw [Nat.pow_succ', ← Nat.mul_assoc, ← Nat.add_mul]
          congr 1
          omega
        rw [Nat.add_sub_cancel, Nat.add_assoc acc, e, List.length_cons]
        congr 2
        omega
    · rw [E_small (by omega), List.cons_append, D]
      have hi : ¬ (i = 9 ∧ z ≠ 1) := by
        rintro ⟨e, h1⟩
        subst e
        have h2 : 0 < z := h0 (by omega)
        have : 2 * 128 ^ 9 ≤ z * 128 ^ 9 := Nat.mul_le_mul_right _ (by omega)
        omega
      rw [if_neg hi, if_neg (by omega), if_pos (by omega)]
      rfl
theorem D_E0 (r : List Nat) {z : Nat} (h : z < 18446744073709551616) : D (E z ++ r) 0 0 = .ok (z, (E z).length) := by
  rw [D_E r z z 0 0 (Nat.le_refl _) (fun h => absurd h (by omega)) (by omega) (by omega)]
  congr 2 <;> omega
theorem D_E_pre : ∀ (n z i acc j : Nat), z ≤ n → (0 < i → 0 < z) → i ≤ 9 → z * 128 ^ i < 18446744073709551616 → j < (E z).length → D ((E z).take j) i acc = .error 28
  | n, z, i, acc, 0, hz, h0, h9, hb, hj => rfl
  | n, z, i, acc, j + 1, hz, h0, h9, hb, hj => by
    by_cases c : 128 ≤ z
    · rw [E_big c, List.length_cons] at hj
      rw [E_big c, List.take_succ_cons, D]
      have hi : i ≠ 9 := by
        intro e
        subst e
        have : 128 * 128 ^ 9 ≤ z * 128 ^ 9 := Nat.mul_le_mul_right _ c
        omega
      rw [if_neg (by omega), if_neg (by omega), if_neg (by omega)]
      match n with
      | 0 => omega
      | n + 1 =>
        have hm : z / 128 * 128 ^ (i + 1) ≤ z * 128 ^ i := by
          rw [Nat.pow_succ', ← Nat.mul_assoc]
          exact Nat.mul_le_mul_right _ (Nat.div_mul_le_self z 128)
        exact D_E_pre n (z / 128) (i + 1) _ j (by omega) (by omega) (by omega) (by omega) (by omega)
    · rw [E_small (by omega), List.length_singleton] at hj
      omega
theorem D_E0_pre {z j : Nat} (h : z < 18446744073709551616) (hj : j < (E z).length) : D ((E z).take j) 0 0 = .error 28 := D_E_pre z z 0 0 j (Nat.le_refl _) (fun h => absurd h (by omega)) (by omega) (by omega) hj
/-- What is read is written so alone. -/
theorem D_unique : ∀ (l : List Nat) (i acc z j : Nat), i ≤ 9 → (∀ b ∈ l, b < 256) → D l i acc = .ok (z, j) →
    ∃ y, z = acc + y * 128 ^ i ∧ (0 < i → 0 < y) ∧ y * 128 ^ i < 18446744073709551616 ∧ i < j ∧ j ≤ i + l.length ∧ j ≤ 10 ∧ l.take (j - i) = E y
  | [], i, acc, z, j, _, _, h => by simp [D] at h
  | c :: t, i, acc, z, j, h9, hb, h => by
    have h8 := hb c List.mem_cons_self
    rw [D] at h
    by_cases c1 : i = 9 ∧ c ≠ 1
    · rw [if_pos c1] at h; cases h
    rw [if_neg c1] at h
    by_cases c2 : 0 < i ∧ c = 0
    · rw [if_pos c2] at h; cases h
    rw [if_neg c2] at h
    by_cases c3 : c < 128
    · rw [if_pos c3] at h
      obtain ⟨rfl, rfl⟩ : acc + c * 128 ^ i = z ∧ i + 1 = j := by simpa using h
      refine ⟨c, rfl, by omega, ?_, by omega, by rw [List.length_cons]; omega, by omega, ?_⟩
      · by_cases e : i = 9
        · subst e
          have : c = 1 := by omega
          subst this
          decide
        · have h1 : 128 ^ i ≤ 128 ^ 8 := Nat.pow_le_pow_right (by omega) (by omega)
          have h2 : c * 128 ^ i ≤ 127 * 128 ^ 8 := Nat.mul_le_mul (by omega) h1
          omega
      · rw [Nat.add_sub_cancel_left, List.take_succ_cons, List.take_zero, E_small c3]
    · rw [if_neg c3] at h
      have hi : i ≠ 9 := by omega
      obtain ⟨y, e1, e2, e3, e4, e5, e6, e7⟩ := D_unique t (i + 1) _ z j (by omega) (fun b hb' => hb b (List.mem_cons_of_mem _ hb')) h
      have hy : 0 < y := e2 (by omega)
      have hd : (c - 128 + y * 128) / 128 = y := by omega
      have hmod : (c - 128 + y * 128) % 128 = c - 128 := by omega
      have hs : (c - 128 + y * 128) * 128 ^ i = (c - 128) * 128 ^ i + y * 128 ^ (i + 1) := by
        rw [Nat.add_mul, Nat.mul_assoc y, Nat.pow_succ']
      refine ⟨c - 128 + y * 128, by rw [hs, e1, Nat.add_assoc], fun _ => by omega, ?_, by omega, by rw [List.length_cons]; omega, e6, ?_⟩
      · -- y * 128^(i+1) is a multiple of 128^(i+1) below 2^64; the rest is below 128^(i+1)
        rw [hs]
        have hlt : (c - 128) * 128 ^ i < 128 ^ (i + 1) := by
          rw [Nat.pow_succ']
          exact Nat.mul_lt_mul_of_pos_right (by omega) (Nat.pow_pos (by omega))
        have key : 18446744073709551616 = 2 ^ (64 - 7 * (i + 1)) * 128 ^ (i + 1) := by
          rw [show (128 : Nat) = 2 ^ 7 by decide, ← Nat.pow_mul, ← Nat.pow_add, Nat.sub_add_cancel (by omega)]
        rw [key] at e3 ⊢
        have h3 : y < 2 ^ (64 - 7 * (i + 1)) := Nat.lt_of_mul_lt_mul_right e3
        have h4 : (y + 1) * 128 ^ (i + 1) ≤ 2 ^ (64 - 7 * (i + 1)) * 128 ^ (i + 1) := Nat.mul_le_mul_right _ h3
        rw [Nat.succ_mul] at h4
        omega
      · rw [E_big (by omega), hd, hmod, ← e7]
        obtain ⟨m, hm⟩ : ∃ m, j - i = m + 1 := ⟨j - i - 1, by omega⟩
        have hm2 : j - (i + 1) = m := by omega
        rw [hm, hm2, List.take_succ_cons]
        congr 1
        omega
theorem D_unique0 {l : List Nat} {z j : Nat} (hb : ∀ b ∈ l, b < 256) (h : D l 0 0 = .ok (z, j)) : z < 18446744073709551616 ∧ j ≤ l.length ∧ 0 < j ∧ l.take j = E z := by
  obtain ⟨y, e1, e2, e3, e4, e5, e6, e7⟩ := D_unique l 0 0 z j (by omega) hb h
  have : z = y := by omega
  subst this
  exact ⟨by omega, by omega, e4, e7⟩
end Go.Proofs.Ytdgdabgbdephnaa.Pure
