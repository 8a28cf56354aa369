/- The pure statement of SchedBegins: a schedule whose list begins another's makes the same choices till its list is empty. Conditions: none beyond the statement's. -/
import Derived.Test.YteffbobpffkjlaaSaySchedBegins
import Derived.Test.YteffbobpffkjlaaLem2
set_option linter.unusedVariables false
set_option linter.unusedSimpArgs false
namespace Go.Proofs.Yteffbobpffkjlaa.Pure
open Go.RowKit Go.Proofs.Yteffbobpffkjlaa.Q Go.Proofs.YteffbobpffkjlaaW.PrintWords Go.Proofs.YteffbobpffkjlaaW.PrintLast

theorem pick_list (turn : Int) (a : Int) (l ready : List Int) (hl : l.length ≤ 99999) :
    pickS 2 turn 0 (a :: l) ready = if turn < 0 then (0, 0, 0, 0, [], 1) else if ascS ready = false then (0, 0, 0, 0, [], 1) else ((if 0 ≤ a then rd ready (a % ready.length) else fairS turn ready), 2, (if 0 ≤ a then rd ready (a % ready.length) else fairS turn ready), 0, l, 0) := by
  have hlen : (a :: l).length = l.length + 1 := rfl
  have ha : rd (a :: l) 0 = a := rfl
  have hd : (a :: l).drop 1 = l := rfl
  unfold pickS vS
  rw [hlen, ha, hd]
  have h1 : ¬ (2 : Int) < 1 := by decide
  have h2 : ¬ (3 : Int) < 2 := by decide
  have h3 : ¬ 100000 < l.length + 1 := by omega
  have h4 : (2 : Int) = 2 ∧ 0 < l.length + 1 := ⟨rfl, by omega⟩
  have h5 : ¬ (2 : Int) = 3 := by decide
  by_cases ht : turn < 0
  · simp [h1, h2, ht]
  · simp only [h1, h2, ht, h3, h5, if_false, or_self, ne_eq, not_true_eq_false]
    have h6 : 0 < l.length + 1 := by omega
    simp only [h6, and_self, if_true]

theorem begins_loop (l0 more ready : List Int) (hl : l0.length ≤ 40) (hm : more.length ≤ 40) (hr : ready.length ≤ 30) (hw0 : ∀ y ∈ l0, (Lit.int .i64 y).wf = true) (hw1 : ∀ y ∈ more, (Lit.int .i64 y).wf = true) : ∀ d i : Nat, ∀ turn : Int, l0.length - i = d → i ≤ l0.length →
    Ev (fun k => jobshelllaw32_SchedBegins.l0 k l0 ready i 2 turn 0 (l0.drop i) 2 turn 0 (l0.drop i ++ more)) true := by
  intro d
  induction d with
  | zero =>
    intro i turn hd hi
    refine ev_succ ?_
    simp only [jobshelllaw32_SchedBegins.l0]
    have h : ¬ (i : Int) < (l0.length : Int) := by omega
    simp only [h, if_false]
    exact awake_true
  | succ d ih =>
    intro i turn hd hi
    have h : (i : Int) < (l0.length : Int) := by omega
    have e := rd_drop l0 i (by omega)
    have hlen : (l0.drop (i + 1)).length ≤ 40 := by simp; omega
    have hwi : wrap64 ((i : Int) + 1) = ((i + 1 : Nat) : Int) := by rw [w64 (by omega) (by omega)]; rfl
    have hp1 := pick_ev 2 turn 0 (l0.drop i) ready (by simp; omega) (fun y hy => hw0 y (List.mem_of_mem_drop hy)) (by omega)
    have hp2 := pick_ev 2 turn 0 (l0.drop i ++ more) ready (by simp; omega) (fun y hy => by
      rcases List.mem_append.1 hy with hy | hy
      · exact hw0 y (List.mem_of_mem_drop hy)
      · exact hw1 y hy) (by omega)
    have ih' := fun turn => ih (i + 1) turn (by omega) (by omega)
    refine ev_succ ?_
    simp only [jobshelllaw32_SchedBegins.l0, h, if_true]
    rw [e] at hp1 hp2 ⊢
    rw [List.cons_append] at hp2 ⊢
    rw [pick_list _ _ _ _ (by omega)] at hp1
    rw [pick_list _ _ _ _ (by simp; omega)] at hp2
    refine Ev.bind hp1 (Ev.bind hp2 ?_)
    by_cases ht : turn < 0
    · simp only [ht, if_true, bne_self_eq_false]
      refine ev_succ ?_
      simp only [jobshelllaw32_SchedBegins.j2, Bool.false_eq_true, if_false, show ¬ ((1 : Int) = 0) by decide]
      exact awake_true
    · simp only [ht, if_false]
      cases ha : ascS ready with
      | false =>
        simp only [if_true, bne_self_eq_false]
        refine ev_succ ?_
        simp only [jobshelllaw32_SchedBegins.j2, Bool.false_eq_true, if_false, show ¬ ((1 : Int) = 0) by decide]
        exact awake_true
      | true =>
        simp only [Bool.true_eq_false, if_false, if_true, bne_self_eq_false]
        refine ev_succ ?_
        simp only [jobshelllaw32_SchedBegins.j2, Bool.false_eq_true, if_false, if_true, hwi]
        exact ih' _

theorem SchedBegins : SchedBeginsPure := by
  intro l more ready turn hl hm hr ht
  have hjt : Ev (fun k => jobshelllaw32_SchedBegins.j0 k l more ready turn true) true := by
    refine ev_succ ?_
    simp only [jobshelllaw32_SchedBegins.j0, if_true]
    exact awake_true
  refine Ev.rounds ?_
  unfold jobshelllaw32_SchedBegins.f
  by_cases h1 : (l.length : Int) > 40
  · simp only [h1, if_true]
    exact hjt
  · by_cases h2 : (more.length : Int) > 40
    · simp only [h1, h2, if_true, if_false]
      exact hjt
    · by_cases h3 : (ready.length : Int) > 30
      · simp only [h1, h2, h3, if_false, decide_true]
        exact hjt
      · simp only [h1, h2, h3, if_false, decide_false]
        have hloop := begins_loop l more ready (by omega) (by omega) (by omega) hl.1 hm.1 l.length 0 turn rfl (by omega)
        refine ev_succ ?_
        have a1 : ([] : List Int).length + l.length < 17592186044416 := by simp; omega
        have a2 : ([] ++ l).length + more.length < 17592186044416 := by simp; omega
        simp only [jobshelllaw32_SchedBegins.j0, Bool.false_eq_true, if_false, a1, if_true, Option.bind_some, a2]
        exact hloop
end Go.Proofs.Yteffbobpffkjlaa.Pure
