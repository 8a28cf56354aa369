/- Plain lemmas for chapter 04: the reference's validity. No conditions beyond those written at each. -/
import Derived.Test.YtbekhjcnmifnnaaQ29
import Derived.Test.YtbekhjcnmifnnaaQ26
import Derived.Test.YtbekhjcnmifnnaaQ35
import Derived.Test.YtbekhjcnmifnnaaLem2
import Derived.Test.YtbekhjcnmifnnaaQ41
set_option linter.unusedVariables false
set_option linter.unusedSimpArgs false
namespace Go.Proofs.Ytbekhjcnmifnnaa.Pure
open Go.RowKit Go.Proofs.Ytbekhjcnmifnnaa.Q Go.Proofs.YtbekhjcnmifnnaaW.PrintWords Go.Proofs.YtbekhjcnmifnnaaW.PrintLast

/-! ### the reference's validity -/
theorem rasc_l0 (l : List S58) (hl : l.length ≤ 100000) (hr : ∀ s ∈ l, InR s) (d : Nat) : ∀ i : Nat, i ≤ l.length → l.length - i = d →
 Ev (fun k => jobshellref04_ascending.l0 k l i) (ascS (prevS l i) (l.drop i)) := by
 induction d with
 | zero =>
  intro i hi hd
  have h : ¬ i < l.length := by omega
  refine ev_at1 fun k => ?_
  simp only [jobshellref04_ascending.l0]
  rw [if_neg (lift_not_lt h), List.drop_eq_nil_of_le (by omega)]
  cases prevS l i <;> rfl
 | succ d ih =>
  intro i hi hd
  have hlt : i < l.length := by omega
  have I := ih (i + 1) hlt (by omega)
  have hn12 : l.length ≤ 1000000000000 := by omega
  have hm := hr _ (List.getElem_mem hlt)
  rw [asc_lt hlt]
  by_cases h1 : l[i].f0 > l[i].f1
  ·
   have h1' : ¬ l[i].f0 ≤ l[i].f1 := by omega
   rw [decide_eq_false h1', Bool.false_and]
   refine ev_at1 fun k => ?_
   simp only [jobshellref04_ascending.l0]
   rw [if_pos (lift_lt hlt), if_pos (nn i), rd58 l i hlt, if_pos h1]
  ·
   have h1' : l[i].f0 ≤ l[i].f1 := by omega
   rw [decide_eq_true h1', Bool.true_and]
   cases i with
   | zero =>
    rw [prevS_zero]
    simp only [Bool.true_and]
    refine Ev.step (fun k => ?_) I
    simp only [jobshellref04_ascending.l0]
    rw [if_pos (lift_lt hlt), if_pos (nn 0), rd58 l 0 hlt, if_neg h1, if_neg (show ¬ ((0 : Nat) : Int) > 0 by decide), w64n hi hn12]
   | succ i =>
    have hlt' : i < l.length := by omega
    have hm' := hr _ (List.getElem_mem hlt')
    have p0 : ((i + 1 : Nat) : Int) > 0 := by omega
    have e1 := wmn (i := i) (by omega)
    rw [prevS_succ l i hlt']
    simp only
    have w1 : wrap64 (l[i + 1]'hlt).f0 = (l[i + 1]'hlt).f0 := w8 hm.1 hm.2.1
    have w2 : wrap64 (l[i]'hlt').f1 = (l[i]'hlt').f1 := w8 hm'.2.2.1 hm'.2.2.2
    have w3 : wrap64 ((l[i]'hlt').f1 + 1) = (l[i]'hlt').f1 + 1 := w8s hm'.2.2.1 hm'.2.2.2
    by_cases h2 : (l[i + 1]'hlt).f0 ≤ (l[i]'hlt').f1 + 1
    ·
     have h2' : ¬ (l[i]'hlt').f1 + 1 < (l[i + 1]'hlt).f0 := Int.not_lt.mpr h2
     rw [decide_eq_false h2', Bool.false_and]
     refine ev_at1 fun k => ?_
     simp only [jobshellref04_ascending.l0, e1]
     rw [if_pos (lift_lt hlt), if_pos (nn (i + 1)), rd58 l (i + 1) hlt, if_neg h1, if_pos p0, if_pos (nn i), if_pos (lift_lt hlt'), rd58 l i hlt', w1, w2, w3, if_pos h2]
    ·
     have h2' : (l[i]'hlt').f1 + 1 < (l[i + 1]'hlt).f0 := Int.not_le.mp h2
     rw [decide_eq_true h2', Bool.true_and]
     refine Ev.step (fun k => ?_) I
     simp only [jobshellref04_ascending.l0, e1]
     rw [if_pos (lift_lt hlt), if_pos (nn (i + 1)), rd58 l (i + 1) hlt, if_neg h1, if_pos p0, if_pos (nn i), if_pos (lift_lt hlt'), rd58 l i hlt', w1, w2, w3, if_neg h2, w64n hi hn12]
theorem rasc_ev (l : List S58) (hl : l.length ≤ 100000) (hr : ∀ s ∈ l, InR s) : Ev (fun k => jobshellref04_ascending.f k l) (ascS none l) := by
 have := rasc_l0 l hl hr _ 0 (Nat.zero_le _) rfl
 rw [prevS_zero, List.drop_zero] at this
 exact this
theorem size1 (s : ByteArray) : ((s.size : Int) = 1) = (s.size = 1) := by apply propext; omega
theorem size0 (s : ByteArray) : ((s.size : Int) = 0) = (s.size = 0) := by apply propext; omega
theorem len0 (l : List S58) : ((l.length : Int) > 0) = (l.length > 0) := by apply propext; omega
/-- One item of the reference's Valid. -/
theorem rvalid_item (x : S35) (h : GoodX x) (g : Nat → Option Bool) (R : Bool) (I : Ev g R) : Ev (fun k => if x.f0 = 1 then (if x.f0 < 1 then (some false) else (if x.f0 > 4 then (some false) else (if (x.f1.size : Int) = 1 then (if x.f0 = 4 then ((jobshellref04_ascending.f k x.f3).bind fun t513 => (if t513 = true then g k else (some false))) else (if x.f2 = true then (some false) else (if (x.f3.length : Int) > 0 then (some false) else ((jobshellref04_ascending.f k x.f3).bind fun t514 => (if t514 = true then g k else (some false)))))) else (some false)))) else (if x.f0 < 1 then (some false) else (if x.f0 > 4 then (some false) else (if (x.f1.size : Int) = 0 then (if x.f0 = 4 then ((jobshellref04_ascending.f k x.f3).bind fun t515 => (if t515 = true then g k else (some false))) else (if x.f2 = true then (some false) else (if (x.f3.length : Int) > 0 then (some false) else ((jobshellref04_ascending.f k x.f3).bind fun t516 => (if t516 = true then g k else (some false)))))) else (some false))))) (validS x && R) := by
 have A := rasc_ev x.f3 h.len h.each
 have G : Ev (fun k => (jobshellref04_ascending.f k x.f3).bind fun t => if t = true then g k else some false) (ascS none x.f3 && R) := by
  refine Ev.bind A ?_
  cases ascS none x.f3 with
  | true => simpa using I
  | false => simpa using ev_const
 have hnil : ¬ x.f3.length > 0 → ascS none x.f3 = true := by
  intro h
  have : x.f3 = [] := List.eq_nil_of_length_eq_zero (by omega)
  rw [this]
  rfl
 simp only [size1, size0, len0]
 unfold validS
 by_cases e4 : x.f0 = 4
 ·
  have e1 : ¬ x.f0 = 1 := by omega
  have l1 : ¬ x.f0 < 1 := by omega
  have l4 : ¬ x.f0 > 4 := by omega
  simp only [if_neg e1, if_neg l1, if_neg l4, if_pos e4]
  by_cases e : x.f1.size = 0
  ·
   simp only [if_pos e, decide_eq_true e, Bool.true_and]
   exact G
  ·
   simp only [if_neg e, decide_eq_false e, Bool.false_and]
   exact ev_const
 ·
  simp only [if_neg e4]
  by_cases e1 : x.f0 = 1
  ·
   have l1 : ¬ x.f0 < 1 := by omega
   have l4 : ¬ x.f0 > 4 := by omega
   simp only [if_pos e1, if_neg l1, if_neg l4]
   by_cases e5 : x.f2 = true
   ·
    simp only [if_pos e5, Bool.false_and]
    by_cases e : x.f1.size = 1
    ·
     simp only [if_pos e]; exact ev_const
    ·
     simp only [if_neg e]; exact ev_const
   ·
    simp only [if_neg e5]
    by_cases e6 : x.f3.length > 0
    ·
     simp only [if_pos e6, Bool.false_and]
     by_cases e : x.f1.size = 1
     ·
      simp only [if_pos e]; exact ev_const
     ·
      simp only [if_neg e]; exact ev_const
    ·
     simp only [if_neg e6]
     rw [hnil e6, Bool.true_and] at G
     by_cases e : x.f1.size = 1
     ·
      simp only [if_pos e, decide_eq_true e, Bool.true_and]; exact G
     ·
      simp only [if_neg e, decide_eq_false e, Bool.false_and]; exact ev_const
  ·
   simp only [if_neg e1]
   by_cases l1 : x.f0 < 1
   ·
    have e2 : ¬ x.f0 = 2 := by omega
    have e3 : ¬ x.f0 = 3 := by omega
    simp only [if_pos l1, decide_eq_false e2, decide_eq_false e3, Bool.or_self, Bool.and_false]
    refine ev_eq ev_const ?_
    split
    ·
     rfl
    ·
     split <;> rfl
   ·
    simp only [if_neg l1]
    by_cases l4 : x.f0 > 4
    ·
     have e2 : ¬ x.f0 = 2 := by omega
     have e3 : ¬ x.f0 = 3 := by omega
     simp only [if_pos l4, decide_eq_false e2, decide_eq_false e3, Bool.or_self, Bool.and_false]
     refine ev_eq ev_const ?_
     split
     ·
      rfl
     ·
      split <;> rfl
    ·
     simp only [if_neg l4]
     have e23 : (decide (x.f0 = 2) || decide (x.f0 = 3)) = true := by
      by_cases e2 : x.f0 = 2
      ·
       rw [decide_eq_true e2]; rfl
      ·
       rw [decide_eq_true (by omega : x.f0 = 3), Bool.or_true]
     rw [e23, Bool.and_true]
     by_cases e5 : x.f2 = true
     ·
      simp only [if_pos e5, Bool.false_and]
      by_cases e : x.f1.size = 0
      ·
       simp only [if_pos e]; exact ev_const
      ·
       simp only [if_neg e]; exact ev_const
     ·
      simp only [if_neg e5]
      by_cases e6 : x.f3.length > 0
      ·
       simp only [if_pos e6, Bool.false_and]
       by_cases e : x.f1.size = 0
       ·
        simp only [if_pos e]; exact ev_const
       ·
        simp only [if_neg e]; exact ev_const
      ·
       simp only [if_neg e6]
       rw [hnil e6, Bool.true_and] at G
       by_cases e : x.f1.size = 0
       ·
        simp only [if_pos e, decide_eq_true e, Bool.true_and]; exact G
       ·
        simp only [if_neg e, decide_eq_false e, Bool.false_and]; exact ev_const
theorem rvalid_l0 (p : List S35) (hp : Good p) (d : Nat) : ∀ i : Nat, i ≤ p.length → p.length - i = d → Ev (fun k => jobshellref04_Valid.l0 k p i) ((p.drop i).all validS) := by
 have hn12 : p.length ≤ 1000000000000 := Nat.le_trans hp.len (by decide)
 induction d with
 | zero =>
  intro i hi hd
  have h : ¬ i < p.length := by omega
  refine ev_at1 fun k => ?_
  simp only [jobshellref04_Valid.l0]
  rw [if_neg (lift_not_lt h), List.drop_eq_nil_of_le (by omega)]
  rfl
 | succ d ih =>
  intro i hi hd
  have hlt : i < p.length := by omega
  have I := ih (i + 1) hlt (by omega)
  rw [List.drop_eq_getElem_cons hlt, List.all_cons]
  refine Ev.step (fun k => ?_) (rvalid_item p[i] (hp.x (List.getElem_mem hlt)) _ _ I)
  simp only [jobshellref04_Valid.l0]
  rw [if_pos (lift_lt hlt), if_pos (nn i), rd35 p i hlt, w64n hi hn12]
theorem rvalid_ev (p : List S35) (hp : Good p) : Ev (fun k => jobshellref04_Valid.f k p) (p.all validS) := by
 have := rvalid_l0 p hp _ 0 (Nat.zero_le _) rfl
 rwa [List.drop_zero] at this

theorem in_l0 (c : Int) (l : List S58) (hl : l.length ≤ 100000) (d : Nat) : ∀ i : Nat, i ≤ l.length → l.length - i = d → Ev (fun k => jobshellref04_in.l0 k l c i) (inS (l.drop i) c) := by
 have hn12 : l.length ≤ 1000000000000 := by omega
 induction d with
 | zero =>
  intro i hi hd
  have h : ¬ i < l.length := by omega
  refine ev_at1 fun k => ?_
  simp only [jobshellref04_in.l0]
  rw [if_neg (lift_not_lt h), List.drop_eq_nil_of_le (by omega)]
  rfl
 | succ d ih =>
  intro i hi hd
  have hlt : i < l.length := by omega
  have I := ih (i + 1) hlt (by omega)
  rw [List.drop_eq_getElem_cons hlt]
  have hin : inS (l[i] :: l.drop (i + 1)) c = ((decide (l[i].f0 ≤ c) && decide (c ≤ l[i].f1)) || inS (l.drop (i + 1)) c) := rfl
  rw [hin]
  by_cases h1 : l[i].f0 ≤ c
  ·
   by_cases h2 : c ≤ l[i].f1
   ·
    rw [decide_eq_true h1, decide_eq_true h2]
    refine ev_at1 fun k => ?_
    simp only [jobshellref04_in.l0]
    rw [if_pos (lift_lt hlt), if_pos (nn i), rd58 l i hlt, if_pos h1, if_pos h2]
    rfl
   ·
    rw [decide_eq_false h2, Bool.and_false, Bool.false_or]
    refine Ev.step (fun k => ?_) I
    simp only [jobshellref04_in.l0]
    rw [if_pos (lift_lt hlt), if_pos (nn i), rd58 l i hlt, if_pos h1, if_neg h2, w64n hi hn12]
  ·
   rw [decide_eq_false h1, Bool.false_and, Bool.false_or]
   refine Ev.step (fun k => ?_) I
   simp only [jobshellref04_in.l0]
   rw [if_pos (lift_lt hlt), if_pos (nn i), rd58 l i hlt, if_neg h1, w64n hi hn12]
theorem in_ev (c : Int) (l : List S58) (hl : l.length ≤ 100000) : Ev (fun k => jobshellref04_in.f k l c) (inS l c) := by
 have := in_l0 c l hl _ 0 (Nat.zero_le _) rfl
 rwa [List.drop_zero] at this

/-! ### the bounds -/
theorem few_l0 (p : List S35) (q : Nat) (hq : q ≤ 1000) (d : Nat) : ∀ j : Nat, j ≤ q + 1 → q + 1 - j ≤ d → (∀ i, ∀ h : i < p.length, i < j → (p[i]'h).f3.length ≤ 40 ∧ (p[i]'h).f1.size ≤ 40) →
 ∃ b, Ev (fun k => jobshellref04_Few.l0 k p (q : Int) j) b ∧ (b = true → p.length ≤ q ∧ ∀ x ∈ p, x.f3.length ≤ 40 ∧ x.f1.size ≤ 40) := by
 have stop : ∀ j : Nat, (p.length ≤ j ∨ q < j) → (∀ i, ∀ h : i < p.length, i < j → (p[i]'h).f3.length ≤ 40 ∧ (p[i]'h).f1.size ≤ 40) → ∃ b, Ev (fun k => jobshellref04_Few.l0 k p (q : Int) j) b ∧ (b = true → p.length ≤ q ∧ ∀ x ∈ p, x.f3.length ≤ 40 ∧ x.f1.size ≤ 40) := by
  intro j hj ha
  refine ⟨decide ((p.length : Int) ≤ (q : Int)), ?_, fun h => ?_⟩
  ·
   have h1 : Ev (fun k => jobshellref04_Few.j1 k p (q : Int) j false) (decide ((p.length : Int) ≤ (q : Int))) := ev_at1 fun k => by
    simp only [jobshellref04_Few.j1, Bool.false_eq_true, if_false]
   refine Ev.step (fun k => ?_) h1
   simp only [jobshellref04_Few.l0]
   by_cases h2 : (j : Int) < (p.length : Int)
   ·
    have h3 : decide ((j : Int) ≤ (q : Int)) = false := decide_eq_false (by omega)
    rw [if_pos h2, h3]
   ·
    rw [if_neg h2]
  ·
   have h1 : (p.length : Int) ≤ (q : Int) := of_decide_eq_true h
   refine ⟨by omega, fun s hs => ?_⟩
   obtain ⟨i, hi, rfl⟩ := List.mem_iff_getElem.mp hs
   exact ha i hi (by omega)
 induction d with
 | zero => exact fun j hj hd ha => stop j (.inr (by omega)) ha
 | succ d ih =>
  intro j hj hd ha
  by_cases h : p.length ≤ j ∨ q < j
  ·
   exact stop j h ha
  ·
   have hlt : j < p.length := by omega
   have h12 : decide ((j : Int) ≤ (q : Int)) = true := decide_eq_true (by omega)
   have hq12 : q ≤ 1000000000000 := by omega
   have hjq : j ≤ q := by omega
   have S : ∀ b, Ev (fun k => jobshellref04_Few.j1 k p (q : Int) j true) b → Ev (fun k => jobshellref04_Few.l0 k p (q : Int) j) b := by
    intro b hb
    refine Ev.step (fun k => ?_) hb
    simp only [jobshellref04_Few.l0]
    rw [if_pos (lift_lt hlt), h12]
   by_cases hb : (p[j]'hlt).f3.length > 40
   ·
    refine ⟨false, S _ (ev_at1 fun k => ?_), fun h => by simp at h⟩
    have hb' : ((p[j]'hlt).f3.length : Int) > 40 := by omega
    simp only [jobshellref04_Few.j1, if_true]
    rw [if_pos (nn j), if_pos (lift_lt hlt), rd35 p j hlt, if_pos hb']
   ·
    have hb' : ¬ ((p[j]'hlt).f3.length : Int) > 40 := by omega
    by_cases hc : (p[j]'hlt).f1.size > 40
    ·
     refine ⟨false, S _ (ev_at1 fun k => ?_), fun h => by simp at h⟩
     have hc' : ((p[j]'hlt).f1.size : Int) > 40 := by omega
     simp only [jobshellref04_Few.j1, if_true]
     rw [if_pos (nn j), if_pos (lift_lt hlt), rd35 p j hlt, if_neg hb', if_pos hc']
    ·
     have hc' : ¬ ((p[j]'hlt).f1.size : Int) > 40 := by omega
     obtain ⟨b, h1, h2⟩ := ih (j + 1) (by omega) (by omega) (by
      intro i hi hij
      by_cases e : i = j
      ·
       subst e; omega
      ·
       exact ha i hi (by omega))
     refine ⟨b, S _ (Ev.step (fun k => ?_) h1), h2⟩
     simp only [jobshellref04_Few.j1, if_true]
     rw [if_pos (nn j), if_pos (lift_lt hlt), rd35 p j hlt, if_neg hb', if_neg hc', w64n hjq hq12]
theorem few_ev (p : List S35) (q : Nat) (hq : q ≤ 1000) : ∃ b, Ev (fun k => jobshellref04_Few.f k p (q : Int)) b ∧ (b = true → p.length ≤ q ∧ ∀ x ∈ p, x.f3.length ≤ 40 ∧ x.f1.size ≤ 40) := by
 unfold jobshellref04_Few.f
 exact few_l0 p q hq (q + 1) 0 (Nat.zero_le _) (Nat.le_refl _) fun i _ h => absurd h (Nat.not_lt_zero i)
theorem wf8 {x : Int} (h : (Lit.int .u8 x).wf = true) : 0 ≤ x ∧ x ≤ 255 := by
 have h := Bool.and_eq_true_iff.mp h
 have e1 : IntKind.u8.min = 0 := by decide
 have e2 : IntKind.u8.max = 255 := by decide
 have h1 := of_decide_eq_true h.1
 have h2 := of_decide_eq_true h.2
 rw [e1] at h1
 rw [e2] at h2
 exact ⟨h1, h2⟩
theorem same_l1 (p : List S35) (hp : Good p) (i : Nat) (hi : i < p.length) (R : Bool) (I : Ev (fun k => jobshellref04_Same.l0 k p p ((i + 1 : Nat) : Int)) R) (d : Nat) : ∀ j : Nat, j + d = p[i].f3.length →
 Ev (fun k => jobshellref04_Same.l1 k p p i j) R := by
 have hp12 : p.length ≤ 1000000000000 := Nat.le_trans hp.len (by decide)
 have hl := (hp.each _ (List.getElem_mem hi)).1
 have hl12 : p[i].f3.length ≤ 1000000000000 := by omega
 have hi' : i ≤ p.length := by omega
 induction d with
 | zero =>
  intro j hj
  have h : ¬ j < p[i].f3.length := by omega
  refine Ev.step (fun k => ?_) I
  simp only [jobshellref04_Same.l1]
  rw [if_pos (nn i), if_pos (lift_lt hi), rd35 p i hi, if_neg (lift_not_lt h), w64n hi' hp12]
 | succ d ih =>
  intro j hj
  have h : j < p[i].f3.length := by omega
  have h' : j ≤ p[i].f3.length := by omega
  have J := ih (j + 1) (by omega)
  have q : (!(((rd_T58 p[i].f3 (j : Int)).f0) == ((rd_T58 p[i].f3 (j : Int)).f0)) || (!(((rd_T58 p[i].f3 (j : Int)).f1) == ((rd_T58 p[i].f3 (j : Int)).f1)))) = false := by simp
  refine Ev.step (fun k => ?_) J
  simp only [jobshellref04_Same.l1]
  rw [if_pos (nn i), if_pos (lift_lt hi), rd35 p i hi, if_pos (lift_lt h), if_pos (nn j), if_pos (lift_lt hi), if_pos (lift_lt h), q, if_neg (by decide), w64n h' hl12]
theorem same_l0 (p : List S35) (hp : Good p) (d : Nat) : ∀ i : Nat, i + d = p.length → Ev (fun k => jobshellref04_Same.l0 k p p i) true := by
 induction d with
 | zero =>
  intro i hi
  have h : ¬ i < p.length := by omega
  refine ev_at1 fun k => ?_
  simp only [jobshellref04_Same.l0]
  rw [if_neg (lift_not_lt h)]
 | succ d ih =>
  intro i hi
  have h : i < p.length := by omega
  have J := same_l1 p hp i h true (ih (i + 1) (by omega)) p[i].f3.length 0 (by omega)
  have q1 : (p[i].f2 != p[i].f2) = false := by simp
  have q2 : ((p[i].f3.length : Int) != (p[i].f3.length : Int)) = false := by simp
  refine Ev.step (fun k => ?_) (Ev.step (g := fun k => jobshellref04_Same.j1 k p p i false) (fun k => ?_) J)
  ·
   simp only [jobshellref04_Same.l0, if_true]
   rw [if_pos (lift_lt h), if_pos (nn i), if_pos (lift_lt h), rd35 p i h]
   simp only [q1, q2, Bool.false_eq_true, if_false]
  ·
   simp only [jobshellref04_Same.j1, Bool.false_eq_true, if_false]
   rfl
theorem same_ev (p : List S35) (hp : Good p) : Ev (fun k => jobshellref04_Same.f k p p) true := by
 unfold jobshellref04_Same.f
 simp only [if_true]
 exact same_l0 p hp p.length 0 (by omega)
end Go.Proofs.Ytbekhjcnmifnnaa.Pure
