/- The pure statement of PatternLiterals: Literal and Special and the reference's come to the same. Conditions: none beyond the statement's. -/
import Derived.Test.YtbekhjcnmifnnaaSayPatternLiterals
import Derived.Test.YtbekhjcnmifnnaaLem12
import Derived.Test.YtbekhjcnmifnnaaLemV
import Derived.Test.YtbekhjcnmifnnaaLemA
set_option linter.unusedVariables false
set_option linter.unusedSimpArgs false
namespace Go.Proofs.Ytbekhjcnmifnnaa.Pure
open Go.RowKit Go.Proofs.Ytbekhjcnmifnnaa.Q Go.Proofs.YtbekhjcnmifnnaaW.PrintWords Go.Proofs.YtbekhjcnmifnnaaW.PrintLast

def isB (x : S35) : Bool := decide (x.f0 = 1)
theorem rlit_l0 (p : List S35) (hp : Good p) (hz : ∀ x ∈ p, x.f1.size ≤ 1000) (d : Nat) : ∀ (i : Nat) (a : ByteArray), i + d = p.length → a.size ≤ 1000 * i →
    Ev (fun k => jobshellref04_Literal.l0 k p a (i : Int)) (if (p.drop i).all isB = true then (if p.all validS = true then (catS a (p.drop i), true) else ((⟨#[]⟩ : ByteArray), false)) else ((⟨#[]⟩ : ByteArray), false)) := by
  have hl := hp.len
  have hl12 : p.length ≤ 1000000000000 := Nat.le_trans hp.len (by decide)
  induction d with
  | zero =>
    intro i a hi ha
    have h : ¬ i < p.length := by omega
    rw [List.drop_eq_nil_of_le (by omega), if_pos (show ([] : List S35).all isB = true from rfl)]
    refine Ev.step (fun k => ?_) (Ev.bind (rvalid_ev p hp) (f := fun k t584 => (if t584 = true then (some (a, true)) else (some ((⟨#[]⟩ : ByteArray), false)))) ?_)
    · simp only [jobshellref04_Literal.l0]
      rw [if_neg (lift_not_lt h)]
    · by_cases hv : p.all validS = true
      · rw [if_pos hv]
        exact ev_eq ev_const (if_pos hv).symm
      · rw [if_neg hv]
        exact ev_eq ev_const (if_neg hv).symm
  | succ d ih =>
    intro i a hi ha
    have h : i < p.length := by omega
    have h' : i ≤ p.length := by omega
    have hzi := hz _ (List.getElem_mem h)
    rw [List.drop_eq_getElem_cons h]
    by_cases h1 : (p[i]'h).f0 = 1
    · have q : a.size + (p[i]'h).f1.size ≤ 9223372036854775807 := by omega
      have J := ih (i + 1) (a ++ (p[i]'h).f1) (by omega) (by rw [ByteArray.size_append]; omega)
      have e1 : (p[i] :: p.drop (i + 1)).all isB = (p.drop (i + 1)).all isB := by
        rw [List.all_cons, show isB (p[i]'h) = true from decide_eq_true h1, Bool.true_and]
      rw [e1]
      refine Ev.step (fun k => ?_) J
      simp only [jobshellref04_Literal.l0]
      rw [if_pos (lift_lt h), if_pos (nn i), rd35 p i h, if_pos h1, if_pos q, w64n h' hl12]
    · have e1 : ¬ (p[i] :: p.drop (i + 1)).all isB = true := by
        rw [List.all_cons, show isB (p[i]'h) = false from decide_eq_false h1, Bool.false_and]
        decide
      rw [if_neg e1]
      refine ev_at1 fun k => ?_
      simp only [jobshellref04_Literal.l0]
      rw [if_pos (lift_lt h), if_pos (nn i), rd35 p i h, if_neg h1]
theorem all_lit (p : List S35) : p.all isLit = (p.all isB && p.all validS) := by
  induction p with
  | nil => rfl
  | cons x p ih =>
    rw [List.all_cons, List.all_cons, List.all_cons, ih, show isLit x = (isB x && validS x) from rfl]
    cases isB x <;> cases validS x <;> cases p.all isB <;> rfl
theorem rliteral_ev (p : List S35) (hp : Good p) (hz : ∀ x ∈ p, x.f1.size ≤ 1000) : Ev (fun k => jobshellref04_Literal.f k p) (litR (⟨#[]⟩ : ByteArray) p) := by
  have J := rlit_l0 p hp hz p.length 0 (⟨#[]⟩ : ByteArray) (by omega) (Nat.zero_le _)
  rw [List.drop_zero] at J
  refine ev_eq J ?_
  unfold litR
  rw [all_lit]
  cases p.all isB <;> cases p.all validS <;> rfl
theorem comp_f1 (n : Nat) : ∀ u : List S51, ∀ x ∈ compS n u, x.f1.size ≤ 1000 := by
  induction n with
  | zero => exact fun u x hx => by cases hx
  | succ n ih =>
    intro u
    cases u with
    | nil => exact fun x hx => by cases hx
    | cons c r =>
      have one : ∀ it : S35, it.f1.size ≤ 1000 → ∀ v, ∀ y ∈ it :: compS n v, y.f1.size ≤ 1000 := by
        intro it hit v y hy
        rcases List.mem_cons.mp hy with rfl | hy
        · exact hit
        · exact ih v y hy
      have hB : (PBx c).f1.size ≤ 1000 := by
        show (strOfNums [c.f0]).size ≤ 1000
        rw [strOfNums_size]
        exact Nat.le_of_ble_eq_true rfl
      unfold compS
      split
      · exact one _ (Nat.zero_le _) _
      · split
        · exact one _ (Nat.zero_le _) _
        · split
          · cases hb : brS (c :: r) with
            | none => exact one _ hB _
            | some q =>
              obtain ⟨it, m⟩ := q
              unfold brS at hb
              obtain ⟨⟨rs, m'⟩, _, h4⟩ := Option.map_eq_some_iff.mp hb
              obtain ⟨rfl, _⟩ := Prod.mk.inj h4
              exact one _ (Nat.zero_le _) _
          · exact one _ hB _
theorem PatternLiterals : PatternLiteralsPure := by
  intro p l hp hl
  refine Ev.rounds ?_
  unfold jobshelllaw04_PatternLiterals.f
  have J0 : Ev (fun k => jobshelllaw04_PatternLiterals.j0 k p l true) true := Ev.step (fun k => by simp only [jobshelllaw04_PatternLiterals.j0, if_true]) awake_some
  obtain ⟨b, hb1, hb2⟩ := few_ev p 12 (by decide)
  refine Ev.bind hb1 ?_
  cases b with
  | false =>
    simp only [Bool.false_eq_true, if_false]
    exact J0
  | true =>
    simp only [if_true]
    obtain ⟨hn, he⟩ := hb2 rfl
    obtain ⟨b, hc1, hc2⟩ := small_ev l (fun r hr => (hl.1 r hr).1)
    refine Ev.bind hc1 ?_
    cases b with
    | false =>
      simp only [Bool.not_false]
      exact J0
    | true =>
      simp only [Bool.not_true]
      obtain ⟨k1, k2⟩ := hc2 rfl
      have hg : Good p := ⟨by omega, fun x hx => ⟨by have := (he x hx).1; omega, fun y hy => by
        have h3 := (hp.1 x hx).2.2.2.1 y hy
        exact ⟨(wf8 h3.1).1, (wf8 h3.1).2, (wf8 h3.2).1, (wf8 h3.2).2⟩⟩⟩
      have hel := els_len l
      have hr : ∀ r ∈ l, r.f0.size ≤ 1000000 := fun r h => by have := tot_mem l r h; omega
      have hgl := pat_good l (by omega)
      have S1 : Ev (fun k => pattern_Special.f k l) (!(litR (⟨#[]⟩ : ByteArray) (patS l)).2) := by
        unfold pattern_Special.f
        exact Ev.bind (compile_ev l (by omega) hr (by omega)) (Ev.bind (literal_ev _ hgl) ev_const)
      have S2 : Ev (fun k => jobshellref04_Special.f k l) (!(litR (⟨#[]⟩ : ByteArray) (patS l)).2) := by
        unfold jobshellref04_Special.f
        exact Ev.bind (rcompile_ev l (by omega) hr (by omega)) (Ev.bind (rliteral_ev _ hgl (comp_f1 _ _)) ev_const)
      refine Ev.step (fun k => by simp only [jobshelllaw04_PatternLiterals.j0, Bool.false_eq_true, if_false]; rfl) (Ev.bind (literal_ev p hg) (Ev.bind (rliteral_ev p hg (fun x hx => by have := (he x hx).2; omega)) ?_))
      simp only [beq_self_eq_true, if_true]
      refine Ev.bind S1 (Ev.bind S2 ?_)
      simp only [beq_self_eq_true, if_true]
      exact awake_some
end Go.Proofs.Ytbekhjcnmifnnaa.Pure
