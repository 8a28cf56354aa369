/- The pure statement of PatternRuns: Runs returns runs that compile to the pattern, in both Compiles, or none where the pattern is not valid. Conditions: none beyond the statement's. -/
import Derived.Test.YtbekhjcnmifnnaaSayPatternRuns
import Derived.Test.YtbekhjcnmifnnaaLem12
import Derived.Test.YtbekhjcnmifnnaaLemV
import Derived.Test.YtbekhjcnmifnnaaLemR
import Derived.Test.YtbekhjcnmifnnaaLem9
import Derived.Test.YtbekhjcnmifnnaaLemA
set_option linter.unusedVariables false
set_option linter.unusedSimpArgs false
namespace Go.Proofs.Ytbekhjcnmifnnaa.Pure
open Go.RowKit Go.Proofs.Ytbekhjcnmifnnaa.Q Go.Proofs.YtbekhjcnmifnnaaW.PrintWords Go.Proofs.YtbekhjcnmifnnaaW.PrintLast

theorem str1 (c : Int) : (strOfNums [c]).size ≤ 2 := by
 rw [strOfNums_size]
 show 1 ≤ 2
 decide
theorem span_size (s : S58) : ∀ r ∈ spanRuns s, r.f0.size ≤ 2 := by
 intro r hr
 unfold spanRuns at hr
 rcases List.mem_cons.mp hr with rfl | hr
 ·
  exact str1 _
 ·
  split at hr
  ·
   rcases List.mem_cons.mp hr with rfl | hr
   ·
    show 1 ≤ 2
    decide
   ·
    rw [List.mem_singleton.mp hr]
    exact str1 _
  ·
   cases hr
theorem it_size (x : S35) (hv : validS x = true) : ∀ r ∈ runIt x, r.f0.size ≤ 2 := by
 intro r hr
 unfold runIt at hr
 split at hr
 ·
  rename_i e1
  rw [List.mem_singleton.mp hr]
  have := valid_one hv e1
  show x.f1.size ≤ 2
  omega
 ·
  split at hr
  ·
   rw [List.mem_singleton.mp hr]
   show 1 ≤ 2
   decide
  ·
   split at hr
   ·
    rw [List.mem_singleton.mp hr]
    show 1 ≤ 2
    decide
   ·
    unfold setR at hr
    rcases List.mem_append.mp hr with hr | hr
    ·
     rcases List.mem_append.mp hr with hr | hr
     ·
      rw [List.mem_singleton.mp hr]
      show (if x.f2 = true then (⟨#[91, 33]⟩ : ByteArray) else (⟨#[91]⟩ : ByteArray)).size ≤ 2
      split
      ·
       exact Nat.le_refl _
      ·
       show 1 ≤ 2
       decide
     ·
      split at hr
      ·
       rcases List.mem_cons.mp hr with rfl | hr
       ·
        show 1 ≤ 2
        decide
       ·
        rcases List.mem_cons.mp hr with rfl | hr
        ·
         show 1 ≤ 2
         decide
        ·
         rw [List.mem_singleton.mp hr]
         show 1 ≤ 2
         decide
      ·
       cases hr
    ·
     rcases List.mem_append.mp hr with hr | hr
     ·
      obtain ⟨s, _, hs⟩ := List.mem_flatMap.mp hr
      exact span_size s r hs
     ·
      rw [List.mem_singleton.mp hr]
      show 1 ≤ 2
      decide
theorem tot_le (l : List S47) (h : ∀ r ∈ l, r.f0.size ≤ 2) : totS l ≤ 2 * l.length := by
 induction l with
 | nil => exact Nat.le_refl _
 | cons r l ih =>
  have h1 := h r (List.mem_cons_self ..)
  have h2 := ih fun x hx => h x (List.mem_cons_of_mem _ hx)
  have e : totS (r :: l) = r.f0.size + totS l := rfl
  rw [e, List.length_cons]
  omega
theorem runs_len (p : List S35) (h : ∀ x ∈ p, x.f3.length ≤ 40) : (runsS p).length ≤ 125 * p.length := by
 induction p with
 | nil => exact Nat.le_refl _
 | cons x p ih =>
  have h1 := it_len x
  have h2 := h x (List.mem_cons_self ..)
  have h3 := ih fun y hy => h y (List.mem_cons_of_mem _ hy)
  have e : runsS (x :: p) = runIt x ++ runsS p := List.flatMap_cons
  rw [e, List.length_append, List.length_cons]
  omega
theorem PatternRuns : PatternRunsPure := by
 intro p hp
 refine Ev.rounds ?_
 unfold jobshelllaw04_PatternRuns.f
 obtain ⟨b, hb1, hb2⟩ := few_ev p 12 (by decide)
 refine Ev.bind hb1 ?_
 cases b with
 | false =>
  simp only [Bool.false_eq_true, if_false]
  exact awake_some
 | true =>
  simp only [if_true]
  obtain ⟨hn, he⟩ := hb2 rfl
  have hg : Good p := ⟨by omega, fun x hx => ⟨by have := (he x hx).1; omega, fun y hy => by
   have h3 := (hp.1 x hx).2.2.2.1 y hy
   exact ⟨(wf8 h3.1).1, (wf8 h3.1).2, (wf8 h3.2).1, (wf8 h3.2).2⟩⟩⟩
  have R := runs_ev p hg (fun x hx => by have := (he x hx).1; omega)
  refine Ev.bind R (Ev.bind (rvalid_ev p hg) ?_)
  by_cases hv : p.all validS = true
  ·
   rw [hv]
   simp only [if_true]
   have hz : ∀ r ∈ runsS p, r.f0.size ≤ 2 := by
    intro r hr
    obtain ⟨x, hx, hr⟩ := List.mem_flatMap.mp hr
    exact it_size x (List.all_eq_true.mp hv x hx) r hr
   have hl := runs_len p (fun x hx => (he x hx).1)
   have ht := tot_le _ hz
   have hel := els_len (runsS p)
   have hr : ∀ r ∈ runsS p, r.f0.size ≤ 1000000 := fun r h => by have := hz r h; omega
   have hpat : patS (runsS p) = p := comp_runs p (fun x hx => ⟨hg.x hx, List.all_eq_true.mp hv x hx⟩) _ (Nat.lt_succ_self _)
   have C1 := rcompile_ev (runsS p) (by omega) hr (by omega)
   have C2 := compile_ev (runsS p) (by omega) hr (by omega)
   rw [hpat] at C1 C2
   refine Ev.bind C1 (Ev.bind (same_ev p hg) ?_)
   simp only [if_true]
   refine Ev.bind C2 (Ev.bind (same_ev p hg) ?_)
   simp only [if_true]
   exact awake_some
  ·
   rw [Bool.eq_false_iff.mpr hv]
   simp only [Bool.false_eq_true, if_false, List.length_nil]
   exact Ev.congr (fun k => if_pos rfl) awake_some
end Go.Proofs.Ytbekhjcnmifnnaa.Pure
