/- The pure statement of PatternMatches: Match and the reference's Match come to the same. Conditions: none beyond the statement's. -/
import Derived.Test.YtbekhjcnmifnnaaSayPatternMatches
import Derived.Test.YtbekhjcnmifnnaaLem5
import Derived.Test.YtbekhjcnmifnnaaLem6
set_option linter.unusedVariables false
namespace Go.Proofs.Ytbekhjcnmifnnaa.Pure
open Go.RowKit Go.Proofs.Ytbekhjcnmifnnaa.Q Go.Proofs.YtbekhjcnmifnnaaW.PrintWords Go.Proofs.YtbekhjcnmifnnaaW.PrintLast

theorem PatternMatches : PatternMatchesPure := by
  intro p s hp hs
  refine Ev.rounds ?_
  unfold jobshelllaw04_PatternMatches.f
  have J0 : Ev (fun k => jobshelllaw04_PatternMatches.j0 k p s true) true := Ev.step (fun k => by simp only [jobshelllaw04_PatternMatches.j0, if_true]) awake_some
  obtain ⟨b, hb1, hb2⟩ := few_ev p 12 (by decide)
  refine Ev.bind hb1 ?_
  cases b with
  | false =>
    simp only [Bool.false_eq_true, if_false]
    exact J0
  | true =>
    simp only [if_true]
    obtain ⟨hl, he⟩ := hb2 rfl
    by_cases h1 : (s.size : Int) > 40
    · simp only [decide_eq_true h1]
      exact J0
    · simp only [decide_eq_false h1]
      have hg := good_few p 12 (by decide) hl he hp.1
      have hn : s.size ≤ 1000000 := by omega
      refine Ev.step (fun k => by simp only [jobshelllaw04_PatternMatches.j0, Bool.false_eq_true, if_false]; rfl) (Ev.bind (match_ev p s hg hn) (Ev.bind (rmatch_ev p s hg hn) ?_))
      simp only [beq_self_eq_true, if_true]
      exact awake_some
end Go.Proofs.Ytbekhjcnmifnnaa.Pure
