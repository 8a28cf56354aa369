/- The pure statement of SchedPicks: Pick and the reference's Pick come to the same process, schedule and error. Conditions: none beyond the statement's. -/
import Derived.Test.YteffbobpffkjlaaSaySchedPicks
import Derived.Test.YteffbobpffkjlaaLem
namespace Go.Proofs.Yteffbobpffkjlaa.Pure
open Go.RowKit Go.Proofs.Yteffbobpffkjlaa.Q Go.Proofs.YteffbobpffkjlaaW.PrintWords Go.Proofs.YteffbobpffkjlaaW.PrintLast

theorem pick_len (kind turn seed : Int) (l ready : List Int) : (pickS kind turn seed l ready).2.2.2.2.1.length ≤ l.length := by
  unfold pickS
  repeat' split
  all_goals simp

theorem SchedPicks : SchedPicksPure := by
  intro kind turn seed l ready _ _ _ hl hr
  have aw : Ev (fun k => (jobshelllaw32_awake.f k).bind fun t => some t) true := Ev.bind ⟨0, fun _ _ => rfl⟩ (Ev.now true)
  refine Ev.rounds ?_
  unfold jobshelllaw32_SchedPicks.f
  have hs : jobshelllaw32_short.f kind turn seed l ready = some (decide ((l.length : Int) ≤ 300) && decide ((ready.length : Int) ≤ 100)) := by
    unfold jobshelllaw32_short.f
    split <;> simp_all <;> omega
  simp only [hs, Option.bind_some]
  by_cases hc : (decide ((l.length : Int) ≤ 300) && decide ((ready.length : Int) ≤ 100)) = true
  · simp only [hc, if_true]
    refine Ev.bind (pick_ev kind turn seed l ready hl.2.2 hl.1 hr.2.2) (Ev.bind (rpick_ev kind turn seed l ready hl.2.2 hl.1 hr.2.2) ?_)
    simp only [if_true]
    have hpl := pick_len kind turn seed l ready
    refine Ev.bind (same_ev _ _ _ _ (by omega)) ?_
    simp only [if_true]
    exact aw
  · simp only [hc]
    exact aw
end Go.Proofs.Yteffbobpffkjlaa.Pure
