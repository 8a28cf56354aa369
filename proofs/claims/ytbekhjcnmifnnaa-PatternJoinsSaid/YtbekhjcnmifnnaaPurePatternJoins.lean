/- The pure statement of PatternJoins: a quoted string put ahead of runs joins that string to what their pattern matches. Conditions: none beyond the statement's. -/
import Derived.Test.YtbekhjcnmifnnaaSayPatternJoins
import Derived.Test.YtbekhjcnmifnnaaLem9
import Derived.Test.YtbekhjcnmifnnaaLemA
set_option linter.unusedVariables false
set_option linter.unusedSimpArgs false
namespace Go.Proofs.Ytbekhjcnmifnnaa.Pure
open Go.RowKit Go.Proofs.Ytbekhjcnmifnnaa.Q Go.Proofs.YtbekhjcnmifnnaaW.PrintWords Go.Proofs.YtbekhjcnmifnnaaW.PrintLast

theorem els_join (s : ByteArray) (l : List S47) : elsS ([(⟨s, 1⟩ : S47)] ++ l) = (bl s).map (elOf false) ++ elsS l := by
  show els ⟨s, 1⟩ ++ elsS l = _
  rw [show els ⟨s, 1⟩ = (bl s).map (elOf false) from if_pos (.inr (.inl rfl))]
theorem comp_join (s : ByteArray) (l : List S47) (hs : s.size ≤ 1000) (hl : l.length ≤ 1000) (hr : ∀ r ∈ l, r.f0.size ≤ 1000) (ht : (elsS l).length ≤ 1000) :
    Ev (fun k => pattern_Compile.f k ([(⟨s, 1⟩ : S47)] ++ l)) ((bl s).map PB ++ patS l) := by
  have hb := bl_len s
  have hA : ((bl s).map (elOf false)).length = s.size := by rw [List.length_map, hb]
  have E := elements_ev ([(⟨s, 1⟩ : S47)] ++ l) (by rw [List.length_append, List.length_singleton]; omega) (fun r h => by
    rcases List.mem_append.mp h with h | h
    · rw [List.mem_singleton.mp h]; show s.size ≤ _; omega
    · have := hr r h; omega) (by rw [els_join, List.length_append, hA]; omega)
  have hin := els_in ([(⟨s, 1⟩ : S47)] ++ l)
  rw [els_join] at E hin
  unfold pattern_Compile.f
  refine Ev.bind E ?_
  have hlen : ((bl s).map (elOf false) ++ elsS l).length = s.size + (elsS l).length := by rw [List.length_append, hA]
  have hdrop : ((bl s).map (elOf false) ++ elsS l).drop s.size = elsS l := by rw [← hA, List.drop_left]
  have htake : ((bl s).map (elOf false) ++ elsS l).take s.size = (bl s).map (elOf false) := by rw [← hA, List.take_left]
  refine comp_pre ((bl s).map (elOf false) ++ elsS l) s.size (by omega) (by omega) (fun i h h2 => ?_) _ s.size 0 [] (by omega) (by rw [List.length_nil]; omega) ?_
  · rw [List.getElem_append_left (by rw [hA]; exact h2), List.getElem_map]
    rfl
  · have e : ([] : List S35) ++ ((((bl s).map (elOf false) ++ elsS l).take s.size).drop 0).map PBx = (bl s).map PB := by
      rw [List.nil_append, List.drop_zero, htake, List.map_map]
      rfl
    rw [e]
    have J := comp_l0 ((bl s).map (elOf false) ++ elsS l) (by omega) hin ((elsS l).length + 1) s.size ((bl s).map PB) (by omega) (by omega) (by rw [List.length_map, hb]; omega)
    rw [hdrop] at J
    exact J
theorem pat_good (l : List S47) (ht : (elsS l).length ≤ 1000) : Good (patS l) := by
  obtain ⟨h1, h2⟩ := comp_good ((elsS l).length + 1) (elsS l)
  exact ⟨by show (patS l).length ≤ _; unfold patS; omega, fun x hx => ⟨(h2 x hx).len, (h2 x hx).each⟩⟩
theorem tot_mem (l : List S47) : ∀ r ∈ l, r.f0.size ≤ totS l := by
  induction l with
  | nil => exact fun r h => by cases h
  | cons x l ih =>
    intro r h
    have e : totS (x :: l) = x.f0.size + totS l := rfl
    rcases List.mem_cons.mp h with rfl | h
    · omega
    · have := ih r h
      omega
theorem PatternJoins : PatternJoinsPure := by
  intro s l t hs hl ht
  refine Ev.rounds ?_
  unfold jobshelllaw04_PatternJoins.f
  have J0 : Ev (fun k => jobshelllaw04_PatternJoins.j0 k s l t true) true := Ev.step (fun k => by simp only [jobshelllaw04_PatternJoins.j0, if_true]) awake_some
  by_cases h1 : (s.size : Int) > 30
  · simp only [if_pos h1]
    exact J0
  · simp only [if_neg h1]
    by_cases h2 : (t.size : Int) > 30
    · simp only [if_pos h2]
      exact J0
    · simp only [if_neg h2]
      obtain ⟨b, hb1, hb2⟩ := small_ev l (fun r hr => (hl.1 r hr).1)
      refine Ev.bind hb1 ?_
      cases b with
      | false =>
        simp only [Bool.not_false]
        exact J0
      | true =>
        simp only [Bool.not_true]
        obtain ⟨k1, k2⟩ := hb2 rfl
        have hs' : s.size ≤ 30 := by omega
        have ht' : t.size ≤ 30 := by omega
        have hel := els_len l
        have hr : ∀ r ∈ l, r.f0.size ≤ 1000 := by
          intro r hr
          have := tot_mem l r hr
          omega
        have C1 := comp_join s l (by omega) (by omega) hr (by omega)
        have C2 := compile_ev l (by omega) (fun r h => by have := hr r h; omega) (by omega)
        have hg := pat_good l (by omega)
        have hg1 : Good ((bl s).map PB ++ patS l) := by
          have h3 := good_PB (bl s) (by rw [bl_len]; omega)
          refine ⟨?_, fun x hx => ?_⟩
          · obtain ⟨h4, _⟩ := comp_good ((elsS l).length + 1) (elsS l)
            rw [List.length_append, List.length_map, bl_len]
            unfold patS
            omega
          · rcases List.mem_append.mp hx with h | h
            · exact h3.each x h
            · exact hg.each x h
        have hst : (s ++ t).size ≤ 1000000 := by rw [ByteArray.size_append]; omega
        have M1 := match_ev _ (s ++ t) hg1 hst
        have M2 := match_ev _ t hg (by omega)
        have e : matchS ((bl s).map PB ++ patS l) (bl (s ++ t)) = matchS (patS l) (bl t) := by
          unfold matchS
          rw [List.all_append, all_PB, Bool.true_and, bl_append, M_lits _ (bl_range s)]
        rw [e] at M1
        have q1 : [(⟨s, 1⟩ : S47)].length + l.length < 5864062014805 := by rw [List.length_singleton]; omega
        have q2 : s.size + t.size ≤ 9223372036854775807 := by omega
        refine Ev.step (fun k => by simp only [jobshelllaw04_PatternJoins.j0, jobshelllaw04_quoted.f, Bool.false_eq_true, if_false, Option.bind_some]; rw [if_pos q1]) (Ev.bind C1 (Ev.bind C2 ?_))
        simp only [if_pos q2]
        refine Ev.bind M1 (Ev.bind M2 ?_)
        simp only [beq_self_eq_true, if_true]
        exact awake_some
end Go.Proofs.Ytbekhjcnmifnnaa.Pure
