/- The pure statement of GetoptsSteps: All lists what successive calls of Next return, and each call advances the state. Conditions: none beyond the statement's. -/
import Derived.Test.YtgplhdgimckfjaaSayGetoptsSteps
import Derived.Test.YtgplhdgimckfjaaLem7
set_option linter.unusedVariables false
set_option linter.unusedSimpArgs false
namespace Go.Proofs.Ytgplhdgimckfjaa.Pure
open Go.RowKit Go.Proofs.Ytgplhdgimckfjaa.Q Go.Proofs.YtgplhdgimckfjaaW.PrintWords Go.Proofs.YtgplhdgimckfjaaW.PrintLast

theorem rd_drop (xs : List S32) (j : Nat) (x : S32) (r : List S32) (h : xs.drop j = x :: r) : j < xs.length ∧ rd_T32 xs (j : Int) = x := by
  have hj : j < xs.length := by
    rcases Nat.lt_or_ge j xs.length with h1 | h1
    · exact h1
    · rw [List.drop_eq_nil_of_le h1] at h
      exact absurd h (by simp)
  refine ⟨hj, ?_⟩
  rw [List.drop_eq_getElem_cons hj] at h
  have h2 := (List.cons.inj h).1
  unfold rd_T32
  have e : (j : Int).toNat = j := by omega
  rw [e, List.getD_eq_getElem?_getD, List.getElem?_eq_getElem hj]
  exact h2

theorem j500 {j n : Nat} (h : j < n) (h2 : n ≤ 500) : (j : Int) ≤ 500 ∧ (j : Int) < (n : Int) ∧ (0 : Int) ≤ (j : Int) ∧ wrap64 ((j : Int) + 1) = ((j + 1 : Nat) : Int) :=
  ⟨by omega, by omega, by omega, by rw [w64 (by omega) (by omega)]; omega⟩
theorem adv {i o i' o' : Int} (h : i < i' ∨ i' = i ∧ o < o') : ¬ i' < i ∧ ¬ (i' = i ∧ o' ≤ o) := by omega
theorem pdec {p q : Int} {m : Nat} (h : p < q) (h2 : q < ((m + 1 : Nat) : Int)) : p < (m : Int) := by omega
theorem steps_l0 (a : ByteArray) (l : List ByteArray) (hs : Small a l) (hv : vS a = 0) (xs : List S32) (cnt : Int) (hx : xs.length ≤ 500) (m : Nat) : ∀ (idx off : Int) (j : Nat), Inv l idx off → pot l idx off < (m : Int) →
    xs.drop j = (runS a l m idx off).1 → cnt = (runS a l m idx off).2 → j ≤ xs.length →
    Ev (fun k => jobshelllaw16_GetoptsSteps.l0 k a l xs cnt j idx off) true := by
  induction m with
  | zero =>
    intro idx off j h hp _ _ _
    have := pot_pos l idx off h
    exact absurd hp (by omega)
  | succ m ih =>
    intro idx off j h hp hd hc hj
    have hlo := h.lo
    have hhi := h.hi
    have hof := h.off0
    have hlen := hs.len
    have hoff : off ≤ 1000 := by
      by_cases h0 : 0 < off
      · have := h.arg h0
        have h6 := arg_small hs.e' idx
        omega
      · omega
    have N := next_ev a l idx off hs.a' hs.l' hs.e' (by omega) (by omega)
    rcases next_at a l idx off hv h with ⟨i', e, k1, k2, k3, k4⟩ | ⟨o', e, h1, h2, h3, h4, h5, _⟩
    · -- the end
      have hr : runS a l (m + 1) idx off = ([], i' - 1) := by simp only [runS, e, if_true]
      rw [hr] at hd hc
      have hjl : j = xs.length := by
        have := List.drop_eq_nil_iff.mp hd
        omega
      have w0 : wrap64 (i' - 1) = i' - 1 := w64 (by omega) (by omega)
      have F : Ev (fun k => jobshelllaw16_GetoptsSteps.j1 k a l xs cnt j false idx off) true := by
        refine Ev.step (fun k => by simp only [jobshelllaw16_GetoptsSteps.j1, Bool.false_eq_true, if_false]; rfl) (Ev.bind N ?_)
        rw [e]
        have q1 : (xs.length : Int) ≤ 500 := by omega
        have q2 : (qm.toList == ([63] : List UInt8) && (em.toList == ([] : List UInt8) && ((1 : Int) == 1 && (em.toList == ([] : List UInt8))))) = true := by
          have e1 : em.toList = [] := (toList_nil em).mpr rfl
          have e2 : qm.toList = [63] := by rw [Go.ByteArray.toList_eq]; rfl
          rw [e1, e2]
          rfl
        simp only [if_pos q1, if_true, q2, w0]
        have hc2 : i' - 1 = cnt := hc.symm
        have hc3 : cnt ≤ (l.length : Int) := by omega
        simp only [if_pos hc2, if_pos hc3]
        exact awake_some
      refine Ev.step (fun k => ?_) F
      simp only [jobshelllaw16_GetoptsSteps.l0]
      rw [if_neg (by omega)]
    · -- an option
      obtain ⟨g1, g2, g3, g4⟩ := opt_on a l idx off o' h h1 h2 h3 h4 h5
      have n1 : ¬ (ex (optS a l idx o')).2.2.1 = 1 := g1
      have hr : runS a l (m + 1) idx off = (optOf (ex (optS a l idx o')) :: (runS a l m (optS a l idx o').2.2.2.2.1 (optS a l idx o').2.2.2.2.2).1, (runS a l m (optS a l idx o').2.2.2.2.1 (optS a l idx o').2.2.2.2.2).2) := by
        simp only [runS, e, if_neg n1]
        rfl
      rw [hr] at hd hc
      obtain ⟨hlt, hrd⟩ := rd_drop xs j _ _ hd
      have hd' : xs.drop (j + 1) = (runS a l m (optS a l idx o').2.2.2.2.1 (optS a l idx o').2.2.2.2.2).1 := by
        rw [List.drop_eq_getElem_cons hlt] at hd
        exact (List.cons.inj hd).2
      obtain ⟨q50, q0, q1, z1⟩ := j500 hlt hx
      have I := ih _ _ (j + 1) g2 (pdec g3 hp) hd' hc hlt
      have q5 : decide ((j : Int) ≤ 500) = true := decide_eq_true q50
      have F : Ev (fun k => jobshelllaw16_GetoptsSteps.j1 k a l xs cnt j true idx off) true := by
        refine Ev.step (fun k => by simp only [jobshelllaw16_GetoptsSteps.j1, if_true]; rfl) (Ev.bind N ?_)
        rw [e]
        generalize hT : optS a l idx o' = T at I g1 g4 hrd
        obtain ⟨t0, t1, t2, t3, t4, t5⟩ := T
        simp only [ex, optOf] at hrd ⊢
        simp only at g1 g4 I
        obtain ⟨q2, q3⟩ := adv g4
        have hne : (!(t0.toList == (rd_T32 xs (j : Int)).f0.toList) || (!(t1.toList == (rd_T32 xs (j : Int)).f1.toList) || (!(t2 == (rd_T32 xs (j : Int)).f2) || !(t3.toList == (rd_T32 xs (j : Int)).f3.toList)))) = false := by
          rw [hrd]
          simp
        simp only [if_true, if_pos q1, if_pos q0, hne, Bool.false_eq_true, if_false, if_neg g1, if_neg q2, z1]
        by_cases q4 : t4 = idx
        · have q6 : ¬ t5 ≤ off := fun h => q3 ⟨q4, h⟩
          simp only [if_pos q4, if_neg q6]
          exact I
        · simp only [if_neg q4]
          exact I
      refine Ev.step (fun k => ?_) F
      simp only [jobshelllaw16_GetoptsSteps.l0]
      rw [if_pos q0, q5]

theorem GetoptsSteps : GetoptsStepsPure := by
  intro a l ha hl
  refine Ev.rounds ?_
  unfold jobshelllaw16_GetoptsSteps.f
  obtain ⟨b, hb1, hb2⟩ := small_ev a l
  refine Ev.bind hb1 ?_
  cases b with
  | false =>
    simp only [Bool.false_eq_true, if_false]
    exact awake_some
  | true =>
    simp only [if_true]
    obtain ⟨k1, k2, k3⟩ := hb2 rfl
    have hs : Small a l := ⟨by omega, by omega, k3⟩
    have hlen := all_len a l hs
    refine Ev.bind (all_ev a l hs) ?_
    unfold allS at hlen ⊢
    by_cases hv : vS a = 0
    · rw [if_pos hv] at hlen ⊢
      simp only [if_true]
      exact steps_l0 a l hs hv _ _ (by simp only at hlen; omega) (rest l 0 + 1) 1 0 0 (inv0 l) (by rw [pot0]; omega) rfl rfl (Nat.zero_le _)
    · rw [if_neg hv]
      simp only [if_neg hv, gvalid_eq a hs.a', Option.bind_some, if_true, List.length_nil]
      exact awake_some

end Go.Proofs.Ytgplhdgimckfjaa.Pure
