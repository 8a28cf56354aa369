/- Plain lemmas for chapter 04: the reference's in. No conditions beyond those written at each. -/
import Derived.Test.YtbekhjcnmifnnaaLem2
import Derived.Test.YtbekhjcnmifnnaaQ35
namespace Go.Proofs.Ytbekhjcnmifnnaa.Pure
open Go.RowKit Go.Proofs.Ytbekhjcnmifnnaa.Q Go.Proofs.YtbekhjcnmifnnaaW.PrintWords Go.Proofs.YtbekhjcnmifnnaaW.PrintLast
theorem in_l0 (c : Int) (l : List S58) (hl : l.length ≤ 100000) (d : Nat) : ∀ i : Nat, i ≤ l.length → l.length - i = d → Ev (fun k => jobshellref04_in.l0 k l c i) (inS (l.drop i) c) := by
  have hn12 : l.length ≤ 1000000000000 := by omega
  induction d with
  | zero =>
    intro i hi hd
    have h : ¬ i < l.length := by omega
    refine ev_at1 fun k => ?_
    simp only [jobshellref04_in.l0]
    rw [if_neg (lift_not_lt h), List.drop_eq_nil_of_le (by omega)]
    rfl
  | succ d ih =>
    intro i hi hd
    have hlt : i < l.length := by omega
    have I := ih (i + 1) hlt (by omega)
    rw [List.drop_eq_getElem_cons hlt]
    have hin : inS (l[i] :: l.drop (i + 1)) c = ((decide (l[i].f0 ≤ c) && decide (c ≤ l[i].f1)) || inS (l.drop (i + 1)) c) := rfl
    rw [hin]
    by_cases h1 : l[i].f0 ≤ c
    · by_cases h2 : c ≤ l[i].f1
      · rw [decide_eq_true h1, decide_eq_true h2]
        refine ev_at1 fun k => ?_
        simp only [jobshellref04_in.l0]
        rw [if_pos (lift_lt hlt), if_pos (nn i), rd58 l i hlt, if_pos h1, if_pos h2]
        rfl
      · rw [decide_eq_false h2, Bool.and_false, Bool.false_or]
        refine Ev.step (fun k => ?_) I
        simp only [jobshellref04_in.l0]
        rw [if_pos (lift_lt hlt), if_pos (nn i), rd58 l i hlt, if_pos h1, if_neg h2, w64n hi hn12]
    · rw [decide_eq_false h1, Bool.false_and, Bool.false_or]
      refine Ev.step (fun k => ?_) I
      simp only [jobshellref04_in.l0]
      rw [if_pos (lift_lt hlt), if_pos (nn i), rd58 l i hlt, if_neg h1, w64n hi hn12]
theorem in_ev (c : Int) (l : List S58) (hl : l.length ≤ 100000) : Ev (fun k => jobshellref04_in.f k l c) (inS l c) := by
  have := in_l0 c l hl _ 0 (Nat.zero_le _) rfl
  rwa [List.drop_zero] at this
end Go.Proofs.Ytbekhjcnmifnnaa.Pure
