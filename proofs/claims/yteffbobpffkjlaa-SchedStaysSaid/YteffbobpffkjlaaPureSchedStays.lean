/- The pure statement of SchedStays: repeated picks of a valid schedule choose ready processes and keep the schedule valid and of its kind. Conditions: none beyond the statement's. -/
import Derived.Test.YteffbobpffkjlaaSaySchedStays
import Derived.Test.YteffbobpffkjlaaLem2
set_option linter.unusedVariables false
set_option linter.unusedSimpArgs false
namespace Go.Proofs.Yteffbobpffkjlaa.Pure
open Go.RowKit Go.Proofs.Yteffbobpffkjlaa.Q Go.Proofs.YteffbobpffkjlaaW.PrintWords Go.Proofs.YteffbobpffkjlaaW.PrintLast

theorem stays_loop (ready : List Int) (hr : ready.length ≤ 100) (n : Int) (hn0 : 0 ≤ n) (hn : n ≤ 255) (d : Nat) : ∀ (i : Nat) (kind turn seed : Int) (l : List Int), 256 - i = d → i ≤ 256 → vS kind turn l.length = 0 → l.length ≤ 300 → (∀ y ∈ l, (Lit.int .i64 y).wf = true) →
    Ev (fun k => jobshelllaw32_SchedStays.l0 k ready n i kind turn seed l) true := by
  have hw : wrap64 n = n := w64 (by omega) (by omega)
  induction d with
  | zero =>
    intro i kind turn seed l hd hi hv hl hy
    refine Ev.step (f := fun k => jobshelllaw32_SchedStays.j2 k ready n i false kind turn seed l) (fun k => ?_) ?_
    · simp only [jobshelllaw32_SchedStays.l0, hw]
      rw [if_neg (by omega)]
    · exact Ev.step (fun k => by simp only [jobshelllaw32_SchedStays.j2, Bool.false_eq_true, if_false]) awake_true
  | succ d ih =>
    intro i kind turn seed l hd hi hv hl hy
    have hfalse : Ev (fun k => jobshelllaw32_SchedStays.j2 k ready n i false kind turn seed l) true :=
      Ev.step (fun k => by simp only [jobshelllaw32_SchedStays.j2, Bool.false_eq_true, if_false]) awake_true
    by_cases h1 : (i : Int) < n
    · by_cases h2 : (i : Int) < 50
      · refine Ev.step (f := fun k => jobshelllaw32_SchedStays.j2 k ready n i true kind turn seed l) (fun k => ?_) ?_
        · simp only [jobshelllaw32_SchedStays.l0, hw]
          rw [if_pos h1, decide_eq_true h2]
        · refine ev_succ ?_
          simp only [jobshelllaw32_SchedStays.j2, if_true]
          refine (Ev.bind (pick_ev kind turn seed l ready (by omega) hy (by omega)) ?_)
          cases ha : ascS ready with
          | true =>
            obtain ⟨q1, q2, q3, q4, q5, q6⟩ := pick_ok kind turn seed l ready hv ha
            generalize pickS kind turn seed l ready = P at q1 q2 q3 q4 q5 q6 ⊢
            obtain ⟨p, kd, tn, sd, ls, er⟩ := P
            dsimp only at q1 q2 q3 q4 q5 q6 ⊢
            subst kd tn er
            have hge := mem_ge ready ha _ q1
            have hv2 : vS kind p ls.length = 0 := by
              rw [vS_zero] at hv ⊢
              omega
            simp only [if_true]
            refine Ev.bind (has_ev ready _ (by omega)) ?_
            simp only [q1, decide_true, if_true]
            have hve := valid_ev kind p sd ls
            rw [hv2] at hve
            refine Ev.bind hve ?_
            simp only [if_true]
            have e1 : 256 - (i + 1) = d := by clear hw hve hv2 hfalse ih; omega
            have e2 : i + 1 ≤ 256 := by clear hw hve hv2 hfalse ih; omega
            have e3 : ls.length ≤ 300 := Nat.le_trans q4 hl
            have hwi : wrap64 ((i : Int) + 1) = ((i + 1 : Nat) : Int) := by rw [w64 (by omega) (by omega)]; rfl
            have hle : ¬ ((ls.length : Int) > (l.length : Int)) := by omega
            simp only [hle, if_false, hwi]
            exact ih (i + 1) kind p sd ls e1 e2 hv2 e3 (fun y h => hy y (q5 y h))
          | false =>
            have hp : pickS kind turn seed l ready = (0, 0, 0, 0, [], 1) := by
              unfold pickS
              rw [if_neg (by simp [hv]), if_pos ha]
            simp only [hp]
            simp only [show ¬ ((1 : Int) = 0) by decide, if_false, if_true]
            refine Ev.bind (same_ev 0 0 0 [] (by simp)) ?_
            simp only [if_true]
            exact awake_true
      · refine Ev.step (f := fun k => jobshelllaw32_SchedStays.j2 k ready n i false kind turn seed l) (fun k => ?_) hfalse
        simp only [jobshelllaw32_SchedStays.l0, hw]
        rw [if_pos h1, decide_eq_false h2]
    · refine Ev.step (f := fun k => jobshelllaw32_SchedStays.j2 k ready n i false kind turn seed l) (fun k => ?_) hfalse
      simp only [jobshelllaw32_SchedStays.l0, hw]
      rw [if_neg h1]

theorem SchedStays : SchedStaysPure := by
  intro kind turn seed l ready n _ _ _ hl hr hn
  have hnb : 0 ≤ n ∧ n ≤ 255 := by
    have h2 : IntKind.u8.min = 0 := rfl
    have h3 : IntKind.u8.max = 255 := rfl
    simp only [Lit.wf, Bool.and_eq_true, decide_eq_true_eq, h2, h3] at hn
    exact hn
  have ht : Ev (fun k => jobshelllaw32_SchedStays.j0 k ready n true kind turn seed l) true := Ev.step (fun k => by simp only [jobshelllaw32_SchedStays.j0, if_true]) awake_true
  refine Ev.rounds ?_
  unfold jobshelllaw32_SchedStays.f
  have hs : jobshelllaw32_short.f kind turn seed l ready = some (decide ((l.length : Int) ≤ 300) && decide ((ready.length : Int) ≤ 100)) := by
    unfold jobshelllaw32_short.f
    split <;> simp_all <;> omega
  simp only [hs, Option.bind_some]
  by_cases hc : (decide ((l.length : Int) ≤ 300) && decide ((ready.length : Int) ≤ 100)) = true
  · simp only [hc, if_true]
    refine Ev.bind (rvalid_ev kind turn seed l) ?_
    simp only [Bool.and_eq_true, decide_eq_true_eq] at hc
    by_cases hv : vS kind turn l.length = 0
    · simp only [hv, bne_self_eq_false]
      refine ev_succ ?_
      simp only [jobshelllaw32_SchedStays.j0, Bool.false_eq_true, if_false]
      exact stays_loop ready (by omega) n hnb.1 hnb.2 256 0 kind turn seed l rfl (by omega) hv (by omega) hl.1
    · have : (vS kind turn l.length != 0) = true := by simpa using hv
      simp only [this]
      exact ht
  · simp only [hc]
    exact ht
end Go.Proofs.Yteffbobpffkjlaa.Pure
