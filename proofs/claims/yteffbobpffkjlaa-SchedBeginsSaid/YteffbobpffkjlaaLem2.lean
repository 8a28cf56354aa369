/- Plain lemmas for chapter 32, second part: what a pick of a valid schedule over ascending processes is like. -/
import Derived.Test.YteffbobpffkjlaaLem
set_option linter.unusedVariables false
set_option linter.unusedSimpArgs false
namespace Go.Proofs.Yteffbobpffkjlaa.Pure
open Go.RowKit Go.Proofs.Yteffbobpffkjlaa.Q Go.Proofs.YteffbobpffkjlaaW.PrintWords Go.Proofs.YteffbobpffkjlaaW.PrintLast

theorem ev_succ {α : Type} {g : Nat → Option α} {r : α} (h : Ev (fun k => g (k + 1)) r) : Ev g r := Ev.step (fun _ => rfl) h
theorem awake_true : Ev (fun k => (jobshelllaw32_awake.f k).bind fun t => some t) true := Ev.bind ⟨0, fun _ _ => rfl⟩ (Ev.now true)

theorem has_ev (l : List Int) (x : Int) (hn : l.length ≤ 140737488351232) : Ev (fun k => jobshelllaw32_has.f k l x) (decide (x ∈ l)) := by
  have key : ∀ d i : Nat, i ≤ l.length → l.length - i = d → Ev (fun k => jobshelllaw32_has.l0 k l x i) (decide (x ∈ l.drop i)) := by
    intro d
    induction d with
    | zero =>
      intro i hi hd
      refine ev_at1 fun k => ?_
      simp only [jobshelllaw32_has.l0]
      rw [if_neg (by omega), List.drop_eq_nil_of_le (by omega)]
      simp
    | succ d ih =>
      intro i hi hd
      have hw : wrap64 ((i : Int) + 1) = ((i + 1 : Nat) : Int) := by rw [w64 (by omega) (by omega)]; rfl
      rw [rd_drop l i (by omega)]
      by_cases he : rd l i = x
      · refine ev_at1 fun k => ?_
        simp only [jobshelllaw32_has.l0]
        rw [if_pos (by omega), if_pos (by omega), if_pos he]
        simp [he]
      · have e : decide (x ∈ rd l i :: l.drop (i + 1)) = decide (x ∈ l.drop (i + 1)) := by
          have he' : ¬ x = rd l i := fun h => he h.symm
          simp [he']
        rw [e]
        refine Ev.step (fun k => ?_) (ih (i + 1) (by omega) (by omega))
        simp only [jobshelllaw32_has.l0]
        rw [if_pos (by omega), if_pos (by omega), if_neg he, hw]
  have h := key l.length 0 (by omega) (by omega)
  unfold jobshelllaw32_has.f
  simpa using h

theorem rd_mem (l : List Int) (i : Int) (h0 : 0 ≤ i) (h1 : i < l.length) : rd l i ∈ l := by
  unfold rd
  rw [List.getD_eq_getElem?_getD, List.getElem?_eq_getElem (show i.toNat < l.length by omega)]
  exact List.getElem_mem _
theorem fair_mem (turn : Int) (l : List Int) (h : 0 < l.length) : fairS turn l ∈ l := by
  unfold fairS
  cases hf : l.find? (fun p => decide (turn < p)) with
  | none => exact rd_mem l 0 (by omega) (by omega)
  | some a => exact List.mem_of_find?_eq_some hf
theorem mem_ge (l : List Int) (h : ascS l = true) (x : Int) (hx : x ∈ l) : 1 ≤ x := by
  obtain ⟨i, hi, rfl⟩ := List.mem_iff_getElem.1 hx
  have := ((ascS_iff l).1 h).2 i hi
  have h2 := this.1
  simpa [rd, List.getD_eq_getElem?_getD, List.getElem?_eq_getElem hi] using h2

/-- A pick of a valid schedule over ascending processes. -/
theorem pick_ok (kind turn seed : Int) (l ready : List Int) (hv : vS kind turn l.length = 0) (ha : ascS ready = true) :
    (pickS kind turn seed l ready).1 ∈ ready ∧ (pickS kind turn seed l ready).2.1 = kind ∧ (pickS kind turn seed l ready).2.2.1 = (pickS kind turn seed l ready).1 ∧
      (pickS kind turn seed l ready).2.2.2.2.1.length ≤ l.length ∧ (∀ y ∈ (pickS kind turn seed l ready).2.2.2.2.1, y ∈ l) ∧ (pickS kind turn seed l ready).2.2.2.2.2 = 0 := by
  have hp := ((ascS_iff ready).1 ha).1
  have hf := fair_mem turn ready hp
  have hm : ∀ x : Int, rd ready (x % ready.length) ∈ ready := fun x => rd_mem _ _ (Int.emod_nonneg _ (by omega)) (Int.emod_lt_of_pos _ (by omega))
  unfold pickS
  rw [if_neg (by simp [hv]), if_neg (by simp [ha])]
  by_cases h3 : kind = 3
  · rw [if_pos h3]
    exact ⟨hm _, rfl, rfl, Nat.le_refl _, fun y hy => hy, rfl⟩
  · rw [if_neg h3]
    by_cases h2 : kind = 2 ∧ 0 < l.length
    · rw [if_pos h2]
      refine ⟨?_, rfl, rfl, by simp, fun y hy => List.mem_of_mem_drop hy, rfl⟩
      dsimp only
      split
      · exact hm _
      · exact hf
    · rw [if_neg h2]
      exact ⟨hf, rfl, rfl, Nat.le_refl _, fun y hy => hy, rfl⟩
theorem vS_zero (kind turn : Int) (n : Nat) : vS kind turn n = 0 ↔ 1 ≤ kind ∧ kind ≤ 3 ∧ 0 ≤ turn ∧ n ≤ 100000 := by
  unfold vS
  split
  · rename_i h
    constructor
    · intro h2; cases h2
    · intro h2; omega
  · rename_i h
    split
    · constructor
      · intro h2; cases h2
      · intro h2; omega
    · constructor
      · intro _; omega
      · intro _; rfl
end Go.Proofs.Yteffbobpffkjlaa.Pure
