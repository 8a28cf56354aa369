/- The pure statement of GetoptsOperands: what stands behind the first operand does not matter. Conditions: none beyond the statement's. -/
import Derived.Test.YtgplhdgimckfjaaSayGetoptsOperands
import Derived.Test.YtgplhdgimckfjaaLem7
set_option linter.unusedVariables false
set_option linter.unusedSimpArgs false
namespace Go.Proofs.Ytgplhdgimckfjaa.Pure
open Go.RowKit Go.Proofs.Ytgplhdgimckfjaa.Q Go.Proofs.YtgplhdgimckfjaaW.PrintWords Go.Proofs.YtgplhdgimckfjaaW.PrintLast

def opw : ByteArray := (⟨#[111, 112, 101, 114, 97, 110, 100]⟩ : ByteArray)
theorem arg_app (l m : List ByteArray) (idx : Int) (h1 : 1 ≤ idx) (h2 : idx ≤ (l.length : Int)) : argS (l ++ m) idx = argS l idx := by
  unfold argS rdOf
  have h : (idx - 1).toNat < l.length := by omega
  rw [List.getD_eq_getElem?_getD, List.getD_eq_getElem?_getD, List.getElem?_append_left h]
theorem rd_app (l m : List ByteArray) (idx : Int) (h1 : 0 ≤ idx) (h2 : idx < (l.length : Int)) : rdOf ByteArray.empty (l ++ m) idx = rdOf ByteArray.empty l idx := by
  unfold rdOf
  have h : idx.toNat < l.length := by omega
  rw [List.getD_eq_getElem?_getD, List.getD_eq_getElem?_getD, List.getElem?_append_left h]

/-- Behind the operand: the same list, as long as the operand is not taken as an argument. -/
theorem run_app (a : ByteArray) (l m : List ByteArray) (hv : vS a = 0) (n : Nat) : ∀ (n' : Nat) (idx off : Int), Inv (l ++ [opw]) idx off → Inv ((l ++ [opw]) ++ m) idx off → pot (l ++ [opw]) idx off < (n : Int) → pot ((l ++ [opw]) ++ m) idx off < (n' : Int) →
    (runS a (l ++ [opw]) n idx off).2 ≤ (l.length : Int) → runS a ((l ++ [opw]) ++ m) n' idx off = runS a (l ++ [opw]) n idx off := by
  have hlen : ((l ++ [opw]).length : Int) = (l.length : Int) + 1 := by simp
  have hlen2 : ((((l ++ [opw]) ++ m).length : Nat) : Int) = ((l ++ [opw]).length : Int) + (m.length : Int) := by rw [List.length_append]; omega
  have hlast : argS (l ++ [opw]) ((l.length : Int) + 1) = opw := by
    unfold argS rdOf
    have h : ((l.length : Int) + 1 - 1).toNat = l.length := by omega
    rw [h, List.getD_eq_getElem?_getD]
    simp
  generalize hL : l ++ [opw] = L at hlen hlen2 hlast ⊢
  induction n with
  | zero =>
    intro n' idx off h h' hp _ _
    have := pot_pos L idx off h
    exact absurd hp (by omega)
  | succ n ih =>
    intro n' idx off h h' hp hp' hc
    have hpos := pot_pos (L ++ m) idx off h'
    obtain ⟨n', rfl⟩ : ∃ k, n' = k + 1 := ⟨n' - 1, by omega⟩
    have hlo := h.lo
    have hhi := h.hi
    rcases next_at a L idx off hv h with ⟨i', e, k1, k2, k3, k4⟩ | ⟨o', e, h1, h2, h3, h4, h5, h6, h7⟩
    · -- an end
      have hc' : i' - 1 ≤ (l.length : Int) := by
        simp only [runS, e, if_true] at hc
        exact hc
      have hidx : idx ≤ (L.length : Int) := by
        rcases k3 with k3 | k3
        · omega
        · exact k3.1
      have ea := arg_app L m idx hlo hidx
      have e2 : nextS a (L ++ m) idx off = (qm, em, 1, em, i', 0, 0) := by
        rw [← e]
        have g1 : ¬ ((L.length : Int) < idx) := by omega
        have g2 : ¬ ((((L ++ m).length : Nat) : Int) < idx) := by omega
        rw [k4] at e ⊢
        unfold nextS at e ⊢
        simp only [hv, ne_eq, not_true_eq_false, if_false, Int.lt_irrefl, false_and, or_false, if_true, g1, g2, false_or, ea] at e ⊢
        have g3 : ¬ (idx < 1) := by omega
        simp only [g3, if_false] at e ⊢
        by_cases c1 : (argS L idx).size < 2 ∨ bt (argS L idx) 0 ≠ 45
        · simp only [c1, if_true]
        · simp only [c1, if_false] at e ⊢
          by_cases c2 : (argS L idx).toList = ([45, 45] : List UInt8)
          · simp only [c2, if_true]
          · simp only [c2, if_false] at e
            have := congrArg (fun t : NextT => t.2.2.1) e
            exact absurd this (opt_next _ _ _ _ _ _ _ _ _).1
      simp only [runS, e, e2, if_true]
    · -- an option
      have ea := arg_app L m idx hlo h3
      have hne : idx ≠ (l.length : Int) + 1 := by
        intro he
        rw [he, hlast] at h5
        exact absurd h5 (by decide)
      have hlt : idx < (L.length : Int) := by omega
      have e2 : nextS a (L ++ m) idx off = ex (optS a (L ++ m) idx o') := by
        rcases next_at a (L ++ m) idx off hv h' with ⟨i', e', k1, k2, k3, k4⟩ | ⟨o'', e', g1, g2, g3, g4, g5, g6, g7⟩
        · exfalso
          have g2 : ¬ ((((L ++ m).length : Nat) : Int) < idx) := by omega
          have g3 : ¬ (idx < 1) := by omega
          have g1 : ¬ ((L.length : Int) < idx) := by omega
          rw [k4] at e e'
          unfold nextS at e e'
          simp only [hv, ne_eq, not_true_eq_false, if_false, Int.lt_irrefl, false_and, or_false, if_true, g1, g2, g3, false_or, ea] at e e'
          by_cases c1 : (argS L idx).size < 2 ∨ bt (argS L idx) 0 ≠ 45
          · simp only [c1, if_true] at e
            have := congrArg (fun t : NextT => t.2.2.1) e
            exact absurd this.symm (opt_next _ _ _ _ _ _ _ _ _).1
          · simp only [c1, if_false] at e e'
            by_cases c2 : (argS L idx).toList = ([45, 45] : List UInt8)
            · simp only [c2, if_true] at e
              have := congrArg (fun t : NextT => t.2.2.1) e
              exact absurd this.symm (opt_next _ _ _ _ _ _ _ _ _).1
            · simp only [c2, if_false] at e'
              have := congrArg (fun t : NextT => t.2.2.1) e'
              exact absurd this (opt_next _ _ _ _ _ _ _ _ _).1
        · have : o'' = o' := by
            by_cases h0 : off = 0
            · rw [g6 h0, h6 h0]
            · have : 0 < off := by have := h.off0; omega
              rw [g7 this, h7 this]
          rw [e', this]
      have e3 : optS a (L ++ m) idx o' = optS a L idx o' := by
        unfold optS
        rw [ea, rd_app L m idx (by omega) hlt]
        unfold optP
        have c1 : idx < (((L ++ m).length : Nat) : Int) := by omega
        simp only [hlt, c1, if_true]
      obtain ⟨g1, g2, g3, _⟩ := opt_on a L idx off o' h h1 h2 h3 h4 h5
      obtain ⟨g1', g2', g3', _⟩ := opt_on a (L ++ m) idx off o' h' h1 h2 (by omega) (by rw [ea]; exact h4) (by rw [ea]; exact h5)
      rw [e3] at g2' g3' e2
      have n1 : ¬ (ex (optS a L idx o')).2.2.1 = 1 := g1
      simp only [runS, e, if_neg n1] at hc
      have I := ih n' _ _ g2 g2' (by omega) (by omega) hc
      simp only [runS, e, e2, if_neg n1]
      simp only [ex] at I ⊢
      rw [I]

theorem all_app (a : ByteArray) (l m : List ByteArray) (h1 : (allS a (l ++ [opw])).2.2 = 0) (h2 : (allS a (l ++ [opw])).2.1 ≤ (l.length : Int)) : allS a ((l ++ [opw]) ++ m) = allS a (l ++ [opw]) := by
  unfold allS at h1 h2 ⊢
  by_cases hv : vS a = 0
  · simp only [if_pos hv] at h1 h2 ⊢
    rw [run_app a l m hv (rest (l ++ [opw]) 0 + 1) (rest ((l ++ [opw]) ++ m) 0 + 1) 1 0 (inv0 _) (inv0 _) (by rw [pot0]; omega) (by rw [pot0]; omega) h2]
  · simp only [if_neg hv]

theorem GetoptsOperands : GetoptsOperandsPure := by
  intro a l m ha hl hm
  refine Ev.rounds ?_
  unfold jobshelllaw16_GetoptsOperands.f
  obtain ⟨b, hb1, hb2⟩ := small_ev a l
  obtain ⟨c, hc1, hc2⟩ := short_ev m
  have out : Ev (fun k => jobshelllaw16_GetoptsOperands.j0 k a l m true) true := Ev.step (fun k => by simp only [jobshelllaw16_GetoptsOperands.j0, if_true]) awake_some
  refine Ev.bind hb1 ?_
  cases b with
  | false =>
    simp only [Bool.false_eq_true, if_false]
    exact out
  | true =>
    simp only [if_true]
    refine Ev.bind hc1 ?_
    cases c with
    | false => exact out
    | true =>
      obtain ⟨k1, k2, k3⟩ := hb2 rfl
      obtain ⟨k4, k5⟩ := hc2 rfl
      have hopw : opw.size ≤ 40 := by decide
      have hs1 : Small a (l ++ [opw]) := ⟨by omega, by simp; omega, fun s hs => by
        rcases List.mem_append.mp hs with hs | hs
        · exact k3 s hs
        · rw [List.mem_singleton.mp hs]; exact hopw⟩
      have hs2 : Small a ((l ++ [opw]) ++ m) := ⟨by omega, by simp; omega, fun s hs => by
        rcases List.mem_append.mp hs with hs | hs
        · exact hs1.each s hs
        · exact k5 s hs⟩
      have A1 := all_ev a (l ++ [opw]) hs1
      have A2 := all_ev a ((l ++ [opw]) ++ m) hs2
      have L1 := all_len a (l ++ [opw]) hs1
      have q1 : ([] : List ByteArray).length + l.length < 8796093022208 := by simp; omega
      have q2 : ([] ++ l : List ByteArray).length < 8796093022208 := by simp; omega
      have q3 : ([] : List ByteArray).length + (l ++ [opw]).length < 8796093022208 := by simp; omega
      have q4 : ([] ++ (l ++ [opw]) : List ByteArray).length + m.length < 8796093022208 := by simp; omega
      have out1 : ∀ p q, Ev (fun k => jobshelllaw16_GetoptsOperands.j1 k a m (l ++ [opw]) p q true) true := fun p q => Ev.step (fun k => by simp only [jobshelllaw16_GetoptsOperands.j1, if_true]) awake_some
      refine Ev.step (f := fun k => (getopts_All.f k a (l ++ [opw])).bind fun bt315 => (if bt315.2.2 = 0 then (jobshelllaw16_GetoptsOperands.j1 k a m (l ++ [opw]) bt315.1 bt315.2.1 (decide (bt315.2.1 > (l.length : Int)))) else (jobshelllaw16_GetoptsOperands.j1 k a m (l ++ [opw]) bt315.1 bt315.2.1 true))) (fun k => ?_) (Ev.bind A1 ?_)
      · simp only [jobshelllaw16_GetoptsOperands.j0, Bool.not_true, Bool.false_eq_true, if_false, Option.bind_some]
        rw [if_pos q1, if_pos q2]
        rfl
      · by_cases he : (allS a (l ++ [opw])).2.2 = 0
        · simp only [if_pos he]
          by_cases hn : (allS a (l ++ [opw])).2.1 > (l.length : Int)
          · simp only [decide_eq_true hn]
            exact out1 _ _
          · simp only [decide_eq_false hn]
            have E := all_app a l m he (Int.not_lt.mp hn)
            rw [E] at A2
            refine Ev.step (f := fun k => (getopts_All.f k a ((l ++ [opw]) ++ m)).bind fun bt330 => ((jobshellref16_Same.f k (allS a (l ++ [opw])).1 bt330.1).bind fun t335 => (if t335 = true then (if (allS a (l ++ [opw])).2.1 = bt330.2.1 then (if bt330.2.2 = 0 then ((jobshelllaw16_awake.f k).bind fun t336 => (some t336)) else (some false)) else (some false)) else (some false)))) (fun k => ?_) (Ev.bind A2 (Ev.bind (same_ev _ ?_) ?_))
            · simp only [jobshelllaw16_GetoptsOperands.j1, Bool.false_eq_true, if_false, Option.bind_some]
              rw [if_pos q3, if_pos q4]
              rfl
            · have : (l ++ [opw]).length ≤ 25 := hs1.len
              omega
            · simp only [if_true, if_pos he]
              exact awake_some
        · simp only [if_neg he]
          exact out1 _ _

end Go.Proofs.Ytgplhdgimckfjaa.Pure
