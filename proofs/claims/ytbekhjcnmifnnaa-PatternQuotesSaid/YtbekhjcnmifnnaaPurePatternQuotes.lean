/- The pure statement of PatternQuotes: the pattern of a quoted string matches that string alone. Conditions: none beyond the statement's. -/
import Derived.Test.YtbekhjcnmifnnaaSayPatternQuotes
import Derived.Test.YtbekhjcnmifnnaaLem7
import Derived.Test.YtbekhjcnmifnnaaLemA
set_option linter.unusedVariables false
set_option linter.unusedSimpArgs false
namespace Go.Proofs.Ytbekhjcnmifnnaa.Pure
open Go.RowKit Go.Proofs.Ytbekhjcnmifnnaa.Q Go.Proofs.YtbekhjcnmifnnaaW.PrintWords Go.Proofs.YtbekhjcnmifnnaaW.PrintLast

theorem els_quoted (s : ByteArray) : elsS [(⟨s, 1⟩ : S47)] = (bl s).map (elOf false) := by
  show els ⟨s, 1⟩ ++ [] = _
  rw [List.append_nil]
  exact if_pos (.inr (.inl rfl))
theorem comp_quoted (s : ByteArray) (hs : s.size ≤ 1000) : Ev (fun k => pattern_Compile.f k [(⟨s, 1⟩ : S47)]) ((bl s).map PB) := by
  have hb := bl_len s
  have E := elements_ev [(⟨s, 1⟩ : S47)] (by rw [List.length_singleton]; decide) (fun r hr => by rw [List.mem_singleton.mp hr]; show s.size ≤ _; omega) (by rw [els_quoted, List.length_map]; omega)
  rw [els_quoted] at E
  unfold pattern_Compile.f
  refine Ev.bind E ?_
  have hlen : ((bl s).map (elOf false)).length = s.size := by rw [List.length_map, hb]
  refine comp_pre ((bl s).map (elOf false)) s.size (by omega) (by omega) (fun i h _ => by rw [List.getElem_map]; rfl) _ s.size 0 [] (by omega) (by rw [List.length_nil]; omega) ?_
  have e : ([] : List S35) ++ ((((bl s).map (elOf false)).take s.size).drop 0).map PBx = (bl s).map PB := by
    rw [List.nil_append, List.drop_zero, List.take_of_length_le (by omega), List.map_map]
    rfl
  rw [e]
  refine ev_at1 fun k => ?_
  simp only [pattern_Compile.l0]
  rw [if_neg (lift_not_lt (by omega))]
theorem toList_beq (a b : ByteArray) : (a.toList == b.toList) = decide (bl a = bl b) := by
  by_cases h : bl a = bl b
  · have e := bl_inj h
    subst e
    simp
  · rw [decide_eq_false h]
    refine beq_eq_false_iff_ne.mpr fun e => h ?_
    rw [Go.ByteArray.toList_eq, Go.ByteArray.toList_eq] at e
    unfold bl
    rw [e]
theorem PatternQuotes : PatternQuotesPure := by
  intro s t hs ht
  refine Ev.rounds ?_
  unfold jobshelllaw04_PatternQuotes.f
  have J0 : Ev (fun k => jobshelllaw04_PatternQuotes.j0 k s t true) true := Ev.step (fun k => by simp only [jobshelllaw04_PatternQuotes.j0, if_true]) awake_some
  by_cases h1 : (s.size : Int) > 40
  · simp only [if_pos h1]
    exact J0
  · simp only [if_neg h1]
    by_cases h2 : (t.size : Int) > 40
    · simp only [decide_eq_true h2]
      exact J0
    · simp only [decide_eq_false h2]
      have hs' : s.size ≤ 40 := by omega
      have ht' : t.size ≤ 40 := by omega
      have C := comp_quoted s (by omega)
      have hg := good_PB (bl s) (by rw [bl_len]; omega)
      have L := literal_ev _ hg
      rw [lit_PB] at L
      have Ms := match_ev _ s hg (by omega)
      have Mt := match_ev _ t hg (by omega)
      have e1 : matchS ((bl s).map PB) (bl s) = true := by
        unfold matchS
        rw [all_PB, M_lit _ (bl_range s), decide_eq_true rfl]
        rfl
      have e2 : matchS ((bl s).map PB) (bl t) = decide (bl s = bl t) := by
        unfold matchS
        rw [all_PB, M_lit _ (bl_range s), Bool.true_and]
      rw [e1] at Ms
      rw [e2] at Mt
      refine Ev.step (fun k => by simp only [jobshelllaw04_PatternQuotes.j0, jobshelllaw04_quoted.f, Bool.false_eq_true, if_false, Option.bind_some]; rfl) (Ev.bind C (Ev.bind L (Ev.bind Ms ?_)))
      simp only [if_true]
      refine Ev.bind Mt ?_
      simp only [toList_beq, beq_self_eq_true, if_true]
      have Sp : Ev (fun k => pattern_Special.f k [(⟨s, 1⟩ : S47)]) false := by
        unfold pattern_Special.f
        exact Ev.bind C (Ev.bind L ev_const)
      refine Ev.bind Sp ?_
      simp only [Bool.false_eq_true, if_false]
      exact awake_some
end Go.Proofs.Ytbekhjcnmifnnaa.Pure
