/- Plain lemmas for chapter 16: All, the comparison of lists, the bounds, and awake. No conditions beyond those written at each. -/
import Derived.Test.YtgplhdgimckfjaaLem6
import Derived.Test.YtgplhdgimckfjaaQ11
set_option linter.unusedVariables false
set_option linter.unusedSimpArgs false
namespace Go.Proofs.Ytgplhdgimckfjaa.Pure
open Go.RowKit Go.Proofs.Ytgplhdgimckfjaa.Q Go.Proofs.YtgplhdgimckfjaaW.PrintWords Go.Proofs.YtgplhdgimckfjaaW.PrintLast

def allS (a : ByteArray) (l : List ByteArray) : List S32 × Int × Int :=
  if vS a = 0 then ((runS a l (rest l 0 + 1) 1 0).1, (runS a l (rest l 0 + 1) 1 0).2, 0) else ([], 0, vS a)

theorem inv0 (l : List ByteArray) : Inv l 1 0 := ⟨by decide, by omega, by decide, fun h => absurd h (by decide)⟩
theorem pot0 (l : List ByteArray) : pot l 1 0 = (rest l 0 : Int) := by
  unfold pot
  have : ((1 : Int) - 1).toNat = 0 := by decide
  rw [this]
  omega
theorem rest_bound (l : List ByteArray) (he : ∀ s ∈ l, s.size ≤ 40) : rest l 0 ≤ 41 * l.length := by
  unfold rest
  rw [List.drop_zero]
  induction l with
  | nil => exact Nat.le_refl _
  | cons s r ih =>
    have h1 := he s (List.mem_cons_self ..)
    have h2 := ih fun x hx => he x (List.mem_cons_of_mem _ hx)
    rw [List.map_cons, List.sum_cons, List.length_cons]
    omega
theorem next_bad (a : ByteArray) (l : List ByteArray) (hv : vS a ≠ 0) : nextS a l 1 0 = (em, em, 0, em, 0, 0, vS a) := by
  unfold nextS
  rw [if_pos hv]

theorem all_ev (a : ByteArray) (l : List ByteArray) (hs : Small a l) : Ev (fun k => getopts_All.f k a l) (allS a l) := by
  unfold getopts_All.f allS
  have hb := rest_bound l hs.each
  have hl := hs.len
  by_cases hv : vS a = 0
  · rw [if_pos hv]
    exact all_l0 a l hs hv (rest l 0 + 1) 1 0 [] (inv0 l) (by rw [pot0]; omega) (by rw [List.length_nil]; omega)
  · rw [if_neg hv]
    have N := next_ev a l 1 0 hs.a' hs.l' hs.e' (by decide) (by decide)
    rw [next_bad a l hv] at N
    refine Ev.step (fun k => by simp only [getopts_All.l0]; rfl) (Ev.bind N ?_)
    simp only [if_neg hv]
    exact ev_const
theorem same_l0 (xs : List S32) (hn : xs.length ≤ 100000) (d : Nat) : ∀ j : Nat, xs.length - j ≤ d → Ev (fun k => jobshellref16_Same.l0 k xs xs j) true := by
  induction d with
  | zero =>
    intro j hd
    refine ev_at1 fun k => ?_
    simp only [jobshellref16_Same.l0]
    rw [if_neg (by omega)]
  | succ d ih =>
    intro j hd
    by_cases hlt : j < xs.length
    · have z1 : wrap64 ((j : Int) + 1) = ((j + 1 : Nat) : Int) := by rw [w64 (by omega) (by omega)]; omega
      have q0 : (j : Int) < (xs.length : Int) := by omega
      have q1 : (0 : Int) ≤ (j : Int) := by omega
      refine Ev.step (fun k => ?_) (ih (j + 1) (sub1 hd))
      simp only [jobshellref16_Same.l0, z1]
      rw [if_pos q0, if_pos q1, if_pos q0]
      simp
    · refine ev_at1 fun k => ?_
      simp only [jobshellref16_Same.l0]
      rw [if_neg (by omega)]
theorem same_ev (xs : List S32) (hn : xs.length ≤ 100000) : Ev (fun k => jobshellref16_Same.f k xs xs) true := by
  unfold jobshellref16_Same.f
  simp only [if_true]
  exact same_l0 xs hn xs.length 0 (Nat.sub_le _ _)
theorem all_len (a : ByteArray) (l : List ByteArray) (hs : Small a l) : (allS a l).1.length ≤ 41 * l.length := by
  unfold allS
  by_cases hv : vS a = 0
  · rw [if_pos hv]
    have h1 := run_len a l hv (rest l 0 + 1) 1 0 (inv0 l)
    rw [pot0] at h1
    have h2 := rest_bound l hs.each
    simp only
    omega
  · rw [if_neg hv]
    exact Nat.zero_le _

/-! the bounds -/
theorem short_l0 (l : List ByteArray) (d : Nat) : ∀ j : Nat, j ≤ 13 → 13 - j ≤ d → (∀ i, ∀ h : i < l.length, i < j → (l[i]'h).size ≤ 40) →
    ∃ b, Ev (fun k => jobshellref03_Short.l0 k l 12 40 j) b ∧ (b = true → l.length ≤ 12 ∧ ∀ s ∈ l, s.size ≤ 40) := by
  have stop : ∀ j : Nat, (l.length ≤ j ∨ 12 < j) → (∀ i, ∀ h : i < l.length, i < j → (l[i]'h).size ≤ 40) → ∃ b, Ev (fun k => jobshellref03_Short.l0 k l 12 40 j) b ∧ (b = true → l.length ≤ 12 ∧ ∀ s ∈ l, s.size ≤ 40) := by
    intro j hj ha
    refine ⟨decide ((l.length : Int) ≤ 12), ?_, fun h => ?_⟩
    · have h1 : Ev (fun k => jobshellref03_Short.j1 k l 12 40 j false) (decide ((l.length : Int) ≤ 12)) := ev_at1 fun k => by
        simp only [jobshellref03_Short.j1, Bool.false_eq_true, if_false]
      refine Ev.step (fun k => ?_) h1
      simp only [jobshellref03_Short.l0]
      by_cases h2 : (j : Int) < (l.length : Int)
      · have h3 : decide ((j : Int) ≤ 12) = false := decide_eq_false (by omega)
        rw [if_pos h2, h3]
      · rw [if_neg h2]
    · have h1 : (l.length : Int) ≤ 12 := of_decide_eq_true h
      refine ⟨by omega, fun s hs => ?_⟩
      obtain ⟨i, hi, rfl⟩ := List.mem_iff_getElem.mp hs
      exact ha i hi (by omega)
  induction d with
  | zero => exact fun j hj hd ha => stop j (.inr (by omega)) ha
  | succ d ih =>
    intro j hj hd ha
    by_cases h : l.length ≤ j ∨ 12 < j
    · exact stop j h ha
    · have hlt : j < l.length := by omega
      have h12 : decide ((j : Int) ≤ 12) = true := decide_eq_true (by omega)
      have q0 : (j : Int) < (l.length : Int) := by omega
      have q1 : (0 : Int) ≤ (j : Int) := by omega
      have z1 : wrap64 ((j : Int) + 1) = ((j + 1 : Nat) : Int) := by rw [w64 (by omega) (by omega)]; omega
      have hrd : rdOf ByteArray.empty l (j : Int) = l[j]'hlt := by
        unfold rdOf
        rw [List.getD_eq_getElem?_getD]
        simp [hlt]
      by_cases hb : ((l[j]'hlt).size : Int) > 40
      · refine ⟨false, ?_, fun h => by simp at h⟩
        have h1 : Ev (fun k => jobshellref03_Short.j1 k l 12 40 j true) false := ev_at1 fun k => by
          simp only [jobshellref03_Short.j1, if_true]
          rw [if_pos q1, if_pos q0, hrd, if_pos hb]
        refine Ev.step (fun k => ?_) h1
        simp only [jobshellref03_Short.l0]
        rw [if_pos q0, h12]
      · obtain ⟨b, h1, h2⟩ := ih (j + 1) (by omega) (by omega) (by
          intro i hi hij
          by_cases e : i = j
          · subst e; omega
          · exact ha i hi (by omega))
        refine ⟨b, ?_, h2⟩
        have h3 : Ev (fun k => jobshellref03_Short.j1 k l 12 40 j true) b := by
          refine Ev.step (fun k => ?_) h1
          simp only [jobshellref03_Short.j1, if_true]
          rw [if_pos q1, if_pos q0, hrd, if_neg hb, z1]
        refine Ev.step (fun k => ?_) h3
        simp only [jobshellref03_Short.l0]
        rw [if_pos q0, h12]
theorem short_ev (l : List ByteArray) : ∃ b, Ev (fun k => jobshellref03_Short.f k l 12 40) b ∧ (b = true → l.length ≤ 12 ∧ ∀ s ∈ l, s.size ≤ 40) := by
  unfold jobshellref03_Short.f
  exact short_l0 l 13 0 (by decide) (by decide) fun i _ h => absurd h (Nat.not_lt_zero i)
theorem small_ev (a : ByteArray) (l : List ByteArray) : ∃ b, Ev (fun k => jobshelllaw16_small.f k a l) b ∧ (b = true → a.size ≤ 40 ∧ l.length ≤ 12 ∧ ∀ s ∈ l, s.size ≤ 40) := by
  unfold jobshelllaw16_small.f
  obtain ⟨b, h1, h2⟩ := short_ev l
  by_cases h : (a.size : Int) ≤ 40
  · refine ⟨b, ?_, fun hb => ⟨by omega, h2 hb⟩⟩
    simp only [if_pos h]
    exact Ev.bind h1 ev_const
  · refine ⟨false, ?_, fun hb => by simp at hb⟩
    simp only [if_neg h]
    exact ev_const

/-! awake -/
theorem awake_ev : Ev (fun k => jobshelllaw16_awake.f k) true := by
  have h := all_ev (⟨#[97, 98, 58, 99]⟩ : ByteArray) ([(⟨#[45, 97, 98]⟩ : ByteArray), (⟨#[120]⟩ : ByteArray), (⟨#[121]⟩ : ByteArray)] : List ByteArray) ⟨by decide, by decide, by decide⟩
  unfold jobshelllaw16_awake.f
  refine Ev.bind h ?_
  refine ⟨0, fun _ _ => ?_⟩
  kernel_rfl
theorem awake_some : Ev (fun k => (jobshelllaw16_awake.f k).bind fun t => some t) true := Ev.bind awake_ev ev_const
end Go.Proofs.Ytgplhdgimckfjaa.Pure
