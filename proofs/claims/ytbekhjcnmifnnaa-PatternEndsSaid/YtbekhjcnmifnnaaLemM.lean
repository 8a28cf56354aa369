/- Plain lemmas for chapter 04: what a pattern put behind another matches. No conditions beyond those written at each. -/
import Derived.Test.YtbekhjcnmifnnaaLem
set_option linter.unusedVariables false
set_option linter.unusedSimpArgs false
namespace Go.Proofs.Ytbekhjcnmifnnaa.Pure
open Go.RowKit Go.Proofs.Ytbekhjcnmifnnaa.Q Go.Proofs.YtbekhjcnmifnnaaW.PrintWords Go.Proofs.YtbekhjcnmifnnaaW.PrintLast

theorem stars_iff (f : List Int → Bool) (t : List Int) : stars f t = true ↔ ∃ g, g ≤ t.length ∧ f (t.drop g) = true := by
  induction t with
  | nil =>
    constructor
    · exact fun h => ⟨0, Nat.le_refl _, h⟩
    · rintro ⟨g, _, h⟩
      rwa [List.drop_nil] at h
  | cons c t ih =>
    simp only [stars, Bool.or_eq_true, ih]
    constructor
    · rintro (h | ⟨g, hg, h⟩)
      · exact ⟨0, Nat.zero_le _, h⟩
      · exact ⟨g + 1, Nat.succ_le_succ hg, h⟩
    · rintro ⟨g, hg, h⟩
      cases g with
      | zero => exact .inl h
      | succ g => exact .inr ⟨g, Nat.le_of_succ_le_succ hg, h⟩
theorem M_app (p q : List S35) : ∀ t, M (p ++ q) t = true ↔ ∃ i, i ≤ t.length ∧ M p (t.take i) = true ∧ M q (t.drop i) = true := by
  induction p with
  | nil =>
    intro t
    constructor
    · exact fun h => ⟨0, Nat.zero_le _, rfl, h⟩
    · rintro ⟨i, hi, h1, h2⟩
      have h3 : t.take i = [] := List.isEmpty_iff.mp h1
      rcases List.take_eq_nil_iff.mp h3 with h4 | h4
      · subst h4; exact h2
      · subst h4; rwa [List.drop_nil] at h2
  | cons x p ih =>
    intro t
    by_cases h3 : x.f0 = 3
    · have e : ∀ r u, M (x :: r) u = stars (M r) u := fun r u => if_pos h3
      rw [List.cons_append, e, stars_iff]
      constructor
      · rintro ⟨g, hg, h⟩
        obtain ⟨i, hi, h1, h2⟩ := (ih _).mp h
        rw [List.length_drop] at hi
        refine ⟨g + i, by omega, ?_, by rwa [List.drop_drop] at h2⟩
        rw [e, stars_iff]
        refine ⟨g, by rw [List.length_take]; omega, ?_⟩
        rw [List.drop_take]
        have : g + i - g = i := by omega
        rwa [this]
      · rintro ⟨j, hj, h1, h2⟩
        rw [e, stars_iff] at h1
        obtain ⟨g, hg, h1⟩ := h1
        rw [List.length_take] at hg
        refine ⟨g, by omega, (ih _).mpr ⟨j - g, by rw [List.length_drop]; omega, ?_, ?_⟩⟩
        · rwa [List.drop_take] at h1
        · rw [List.drop_drop]
          have : g + (j - g) = j := by omega
          rwa [this]
    · cases t with
      | nil =>
        rw [List.cons_append, M_none _ _ h3]
        constructor
        · exact fun h => absurd h (by simp)
        · rintro ⟨i, hi, h1, h2⟩
          rw [List.take_nil, M_none _ _ h3] at h1
          exact absurd h1 (by simp)
      | cons c t =>
        rw [List.cons_append, M_one _ _ _ _ h3, Bool.and_eq_true, ih]
        constructor
        · rintro ⟨h1, i, hi, h2, h4⟩
          refine ⟨i + 1, Nat.succ_le_succ hi, ?_, h4⟩
          rw [List.take_succ_cons, M_one _ _ _ _ h3, h1, h2]
          rfl
        · rintro ⟨i, hi, h1, h2⟩
          cases i with
          | zero =>
            rw [List.take_zero, M_none _ _ h3] at h1
            exact absurd h1 (by simp)
          | succ i =>
            rw [List.take_succ_cons, M_one _ _ _ _ h3, Bool.and_eq_true] at h1
            exact ⟨h1.1, i, Nat.le_of_succ_le_succ hi, h1.2, h2⟩
end Go.Proofs.Ytbekhjcnmifnnaa.Pure
