/- The pure statement of SchedValid: Valid and the reference's Valid come to the same error, at the list itself and at a list of n zeros. Conditions: none beyond the statement's. -/
import Derived.Test.YteffbobpffkjlaaSaySchedValid
import Derived.Test.YteffbobpffkjlaaLem
namespace Go.Proofs.Yteffbobpffkjlaa.Pure
open Go.RowKit Go.Proofs.Yteffbobpffkjlaa.Q Go.Proofs.YteffbobpffkjlaaW.PrintWords Go.Proofs.YteffbobpffkjlaaW.PrintLast

theorem awake_ev : Ev (fun k => jobshelllaw32_awake.f k) true := ⟨0, fun _ _ => rfl⟩
theorem awake_some : Ev (fun k => (jobshelllaw32_awake.f k).bind fun t => some t) true := Ev.bind awake_ev (Ev.now true)

theorem SchedValid : SchedValidPure := by
  intro kind turn seed l n _ _ _ hl hn
  have hn' := wf_i64 hn
  have ht : Ev (fun k => jobshelllaw32_SchedValid.j0 k n true kind turn seed l) true := Ev.step (fun k => by simp only [jobshelllaw32_SchedValid.j0, if_true]) awake_some
  refine Ev.rounds ?_
  unfold jobshelllaw32_SchedValid.f
  by_cases h1 : (l.length : Int) > 100
  · simp only [h1, if_true]
    exact ht
  · by_cases h2 : n < 0
    · simp only [h1, h2, if_true, if_false]
      exact ht
    · by_cases h3 : n > 100100
      · simp only [h1, h2, h3, if_false, decide_true]
        exact ht
      · simp only [h1, h2, h3, if_false, decide_false]
        refine Ev.step (f := fun k => (sched_Valid.f k kind turn seed l).bind fun t199 => ((jobshellref32_Valid.f k kind turn seed l).bind fun t200 => (if t199 = t200 then ((sched_Valid.f k kind turn seed (List.replicate n.toNat 0)).bind fun t201 => ((jobshellref32_Valid.f k kind turn seed (List.replicate n.toNat 0)).bind fun t202 => (if t201 = t202 then ((jobshelllaw32_awake.f k).bind fun t203 => (some t203)) else (some false)))) else (some false)))) (fun k => ?_) ?_
        · simp only [jobshelllaw32_SchedValid.j0, Bool.false_eq_true, if_false]
          rw [if_pos (by omega), if_pos (by omega)]
          rfl
        · refine Ev.bind (valid_ev kind turn seed l) (Ev.bind (rvalid_ev kind turn seed l) ?_)
          simp only [if_true]
          refine Ev.bind (valid_ev kind turn seed _) (Ev.bind (rvalid_ev kind turn seed _) ?_)
          simp only [if_true]
          exact awake_some
end Go.Proofs.Yteffbobpffkjlaa.Pure
