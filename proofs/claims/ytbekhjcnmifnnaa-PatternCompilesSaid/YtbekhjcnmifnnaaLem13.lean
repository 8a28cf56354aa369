/- Plain lemmas for chapter 04: the reference's Same of a pattern with itself. No conditions beyond those written at each. -/
import Derived.Test.YtbekhjcnmifnnaaLem2
import Derived.Test.YtbekhjcnmifnnaaQ29
set_option linter.unusedVariables false
set_option linter.unusedSimpArgs false
namespace Go.Proofs.Ytbekhjcnmifnnaa.Pure
open Go.RowKit Go.Proofs.Ytbekhjcnmifnnaa.Q Go.Proofs.YtbekhjcnmifnnaaW.PrintWords Go.Proofs.YtbekhjcnmifnnaaW.PrintLast
theorem same_l1 (p : List S35) (hp : Good p) (i : Nat) (hi : i < p.length) (R : Bool) (I : Ev (fun k => jobshellref04_Same.l0 k p p ((i + 1 : Nat) : Int)) R) (d : Nat) : ∀ j : Nat, j + d = p[i].f3.length →
    Ev (fun k => jobshellref04_Same.l1 k p p i j) R := by
  have hp12 : p.length ≤ 1000000000000 := Nat.le_trans hp.len (by decide)
  have hl := (hp.each _ (List.getElem_mem hi)).1
  have hl12 : p[i].f3.length ≤ 1000000000000 := by omega
  have hi' : i ≤ p.length := by omega
  induction d with
  | zero =>
    intro j hj
    have h : ¬ j < p[i].f3.length := by omega
    refine Ev.step (fun k => ?_) I
    simp only [jobshellref04_Same.l1]
    rw [if_pos (nn i), if_pos (lift_lt hi), rd35 p i hi, if_neg (lift_not_lt h), w64n hi' hp12]
  | succ d ih =>
    intro j hj
    have h : j < p[i].f3.length := by omega
    have h' : j ≤ p[i].f3.length := by omega
    have J := ih (j + 1) (by omega)
    have q : (!(((rd_T58 p[i].f3 (j : Int)).f0) == ((rd_T58 p[i].f3 (j : Int)).f0)) || (!(((rd_T58 p[i].f3 (j : Int)).f1) == ((rd_T58 p[i].f3 (j : Int)).f1)))) = false := by simp
    refine Ev.step (fun k => ?_) J
    simp only [jobshellref04_Same.l1]
    rw [if_pos (nn i), if_pos (lift_lt hi), rd35 p i hi, if_pos (lift_lt h), if_pos (nn j), if_pos (lift_lt hi), if_pos (lift_lt h), q, if_neg (by decide), w64n h' hl12]
theorem same_l0 (p : List S35) (hp : Good p) (d : Nat) : ∀ i : Nat, i + d = p.length → Ev (fun k => jobshellref04_Same.l0 k p p i) true := by
  induction d with
  | zero =>
    intro i hi
    have h : ¬ i < p.length := by omega
    refine ev_at1 fun k => ?_
    simp only [jobshellref04_Same.l0]
    rw [if_neg (lift_not_lt h)]
  | succ d ih =>
    intro i hi
    have h : i < p.length := by omega
    have J := same_l1 p hp i h true (ih (i + 1) (by omega)) p[i].f3.length 0 (by omega)
    have q1 : (p[i].f2 != p[i].f2) = false := by simp
    have q2 : ((p[i].f3.length : Int) != (p[i].f3.length : Int)) = false := by simp
    refine Ev.step (fun k => ?_) (Ev.step (g := fun k => jobshellref04_Same.j1 k p p i false) (fun k => ?_) J)
    · simp only [jobshellref04_Same.l0, if_true]
      rw [if_pos (lift_lt h), if_pos (nn i), if_pos (lift_lt h), rd35 p i h]
      simp only [q1, q2, Bool.false_eq_true, if_false]
    · simp only [jobshellref04_Same.j1, Bool.false_eq_true, if_false]
      rfl
theorem same_ev (p : List S35) (hp : Good p) : Ev (fun k => jobshellref04_Same.f k p p) true := by
  unfold jobshellref04_Same.f
  simp only [if_true]
  exact same_l0 p hp p.length 0 (by omega)
end Go.Proofs.Ytbekhjcnmifnnaa.Pure
