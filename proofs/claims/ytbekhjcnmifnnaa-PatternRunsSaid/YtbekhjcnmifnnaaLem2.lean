/- Plain lemmas for chapter 04: validity, Match, Literal, the elements of runs, and the pattern of quoted bytes. No conditions beyond those written at each. -/
import Derived.Test.YtbekhjcnmifnnaaLem
import Derived.Test.YtbekhjcnmifnnaaQ15
import Derived.Test.YtbekhjcnmifnnaaQ22
import Derived.Test.YtbekhjcnmifnnaaQ10
set_option linter.unusedVariables false
set_option linter.unusedSimpArgs false
namespace Go.Proofs.Ytbekhjcnmifnnaa.Pure
open Go.RowKit Go.Proofs.Ytbekhjcnmifnnaa.Q Go.Proofs.YtbekhjcnmifnnaaW.PrintWords Go.Proofs.YtbekhjcnmifnnaaW.PrintLast

/-! ### validity -/
def ascS : Option Int → List S58 → Bool
 | _, [] => true
 | none, s :: r => decide (s.f0 ≤ s.f1) && ascS (some s.f1) r
 | some h, s :: r => decide (s.f0 ≤ s.f1) && (decide (h + 1 < s.f0) && ascS (some s.f1) r)
def validS (x : S35) : Bool :=
 if x.f0 = 4 then decide (x.f1.size = 0) && ascS none x.f3
 else if x.f2 = true then false else if x.f3.length > 0 then false
 else if x.f0 = 1 then decide (x.f1.size = 1)
 else decide (x.f1.size = 0) && (decide (x.f0 = 2) || decide (x.f0 = 3))
def prevS (l : List S58) (i : Nat) : Option Int := if h : 0 < i ∧ i ≤ l.length then some (l[i - 1]'(by omega)).f1 else none
theorem prevS_succ (l : List S58) (i : Nat) (h : i < l.length) : prevS l (i + 1) = some l[i].f1 := by
 unfold prevS
 rw [dif_pos ⟨by omega, h⟩]
 rfl
theorem prevS_zero (l : List S58) : prevS l 0 = none := by
 unfold prevS
 rw [dif_neg (by omega)]
def InR (s : S58) : Prop := 0 ≤ s.f0 ∧ s.f0 ≤ 255 ∧ 0 ≤ s.f1 ∧ s.f1 ≤ 255
theorem w8 {x : Int} (h0 : 0 ≤ x) (h1 : x ≤ 255) : wrap64 x = x := w64 (by omega) (by omega)
theorem w8s {x : Int} (h0 : 0 ≤ x) (h1 : x ≤ 255) : wrap64 (x + 1) = x + 1 := w64 (by omega) (by omega)
theorem wm {i : Nat} : wrap64 (((i + 1 : Nat) : Int) - 1) = (i : Int) ∨ 1000000000000 < i := by
 by_cases h : 1000000000000 < i
 ·
  exact .inr h
 ·
  exact .inl (by rw [w64 (by omega) (by omega)]; omega)
theorem wmn {i : Nat} (h : i ≤ 1000000000000) : wrap64 (((i + 1 : Nat) : Int) - 1) = (i : Int) := by
 rcases wm (i := i) with h2 | h2
 ·
  exact h2
 ·
  omega
theorem asc_lt {l : List S58} {i : Nat} (h : i < l.length) : ascS (prevS l i) (l.drop i) = (decide (l[i].f0 ≤ l[i].f1) && ((match prevS l i with | none => true | some v => decide (v + 1 < l[i].f0)) && ascS (prevS l (i + 1)) (l.drop (i + 1)))) := by
 rw [List.drop_eq_getElem_cons h, prevS_succ l i h]
 cases prevS l i with
 | none => simp [ascS]
 | some v => rfl
theorem valid_l0 (l : List S58) (hl : l.length ≤ 100000) (hr : ∀ s ∈ l, InR s) (y0 : Int) (y1 : ByteArray) (y2 : Bool) (d : Nat) : ∀ i : Nat, i ≤ l.length → l.length - i = d →
 Ev (fun k => pattern_valid.l0 k l (l.length : Int) i y0 y1 y2 l) (ascS (prevS l i) (l.drop i)) := by
 induction d with
 | zero =>
  intro i hi hd
  have h : ¬ i < l.length := by omega
  refine ev_at1 fun k => ?_
  simp only [pattern_valid.l0]
  rw [if_neg (lift_not_lt h), List.drop_eq_nil_of_le (by omega)]
  cases prevS l i <;> rfl
 | succ d ih =>
  intro i hi hd
  have hlt : i < l.length := by omega
  have I := ih (i + 1) hlt (by omega)
  have hn12 : l.length ≤ 1000000000000 := by omega
  have hm := hr _ (List.getElem_mem hlt)
  rw [asc_lt hlt]
  by_cases h1 : l[i].f0 > l[i].f1
  ·
   have h1' : ¬ l[i].f0 ≤ l[i].f1 := by omega
   rw [decide_eq_false h1', Bool.false_and]
   refine ev_at1 fun k => ?_
   simp only [pattern_valid.l0]
   rw [if_pos (lift_lt hlt), if_pos (nn i), if_pos (lift_lt hlt), rd58 l i hlt, if_pos h1]
  ·
   have h1' : l[i].f0 ≤ l[i].f1 := by omega
   rw [decide_eq_true h1', Bool.true_and]
   cases i with
   | zero =>
    rw [prevS_zero]
    simp only [Bool.true_and]
    refine Ev.step (fun k => ?_) I
    simp only [pattern_valid.l0]
    rw [if_pos (lift_lt hlt), if_pos (nn 0), if_pos (lift_lt hlt), rd58 l 0 hlt, if_neg h1, if_neg (show ¬ ((0 : Nat) : Int) > 0 by decide), w64n hi hn12]
   | succ i =>
    have hlt' : i < l.length := by omega
    have hm' := hr _ (List.getElem_mem hlt')
    have p0 : ((i + 1 : Nat) : Int) > 0 := by omega
    have e1 := wmn (i := i) (by omega)
    rw [prevS_succ l i hlt']
    simp only
    have w1 : wrap64 (l[i + 1]'hlt).f0 = (l[i + 1]'hlt).f0 := w8 hm.1 hm.2.1
    have w2 : wrap64 (l[i]'hlt').f1 = (l[i]'hlt').f1 := w8 hm'.2.2.1 hm'.2.2.2
    have w3 : wrap64 ((l[i]'hlt').f1 + 1) = (l[i]'hlt').f1 + 1 := w8s hm'.2.2.1 hm'.2.2.2
    by_cases h2 : (l[i + 1]'hlt).f0 ≤ (l[i]'hlt').f1 + 1
    ·
     have h2' : ¬ (l[i]'hlt').f1 + 1 < (l[i + 1]'hlt).f0 := Int.not_lt.mpr h2
     rw [decide_eq_false h2', Bool.false_and]
     refine ev_at1 fun k => ?_
     simp only [pattern_valid.l0, e1]
     rw [if_pos (lift_lt hlt), if_pos (nn (i + 1)), if_pos (lift_lt hlt), rd58 l (i + 1) hlt, if_neg h1, if_pos p0, if_pos (nn i), if_pos (lift_lt hlt'), rd58 l i hlt', w1, w2, w3, if_pos h2]
    ·
     have h2' : (l[i]'hlt').f1 + 1 < (l[i + 1]'hlt).f0 := Int.not_le.mp h2
     rw [decide_eq_true h2', Bool.true_and]
     refine Ev.step (fun k => ?_) I
     simp only [pattern_valid.l0, e1]
     rw [if_pos (lift_lt hlt), if_pos (nn (i + 1)), if_pos (lift_lt hlt), rd58 l (i + 1) hlt, if_neg h1, if_pos p0, if_pos (nn i), if_pos (lift_lt hlt'), rd58 l i hlt', w1, w2, w3, if_neg h2, w64n hi hn12]
theorem toList_nil (s : ByteArray) : s.toList = ([] : List UInt8) ↔ s.size = 0 := by
 rw [Go.ByteArray.toList_eq]
 constructor
 ·
  intro h
  have h2 : s.data.toList.length = 0 := by rw [h]; rfl
  rw [Array.length_toList] at h2
  exact h2
 ·
  intro h
  apply List.eq_nil_of_length_eq_zero
  rw [Array.length_toList]
  exact h
theorem ne_nil (s : ByteArray) : (s.toList != ([] : List UInt8)) = !decide (s.size = 0) := by
 by_cases h : s.size = 0
 ·
  rw [(toList_nil s).mpr h, decide_eq_true h]
  rfl
 ·
  have h2 : ¬ s.toList = ([] : List UInt8) := fun e => h ((toList_nil s).mp e)
  rw [decide_eq_false h]
  exact bne_iff_ne.mpr h2
structure GoodX (x : S35) : Prop where
 len : x.f3.length ≤ 100000
 each : ∀ s ∈ x.f3, InR s
theorem Good.x {p : List S35} (h : Good p) {x : S35} (hx : x ∈ p) : GoodX x := ⟨(h.each x hx).1, (h.each x hx).2⟩
theorem valid_ev (x : S35) (h : GoodX x) : Ev (fun k => pattern_valid.f k x.f0 x.f1 x.f2 x.f3) (validS x) := by
 -- behind the first test
 have T : Ev (fun k => pattern_valid.j0 k true x.f0 x.f1 x.f2 x.f3) false := ev_at1 fun k => by simp only [pattern_valid.j0, if_true]
 have L := valid_l0 x.f3 h.len h.each x.f0 x.f1 x.f2 _ 0 (Nat.zero_le _) rfl
 rw [prevS_zero] at L
 have F : Ev (fun k => pattern_valid.j0 k false x.f0 x.f1 x.f2 x.f3) (if x.f0 = 1 then decide (x.f1.size = 1) else if x.f0 = 2 then true else if x.f0 = 3 then true else if x.f0 = 4 then ascS none x.f3 else false) := by
  by_cases e1 : x.f0 = 1
  ·
   rw [if_pos e1]
   refine ev_at1 fun k => ?_
   simp only [pattern_valid.j0, Bool.false_eq_true, if_false]
   rw [if_pos e1]
   congr 1
   by_cases e : x.f1.size = 1
   ·
    rw [decide_eq_true e, e]; rfl
   ·
    rw [decide_eq_false e]
    exact beq_eq_false_iff_ne.mpr (lift_ne e)
  ·
   rw [if_neg e1]
   by_cases e2 : x.f0 = 2
   ·
    rw [if_pos e2]
    refine Ev.step (fun k => ?_) (ev_at1 (g := fun k => pattern_valid.j1 k x.f0 true x.f0 x.f1 x.f2 x.f3) fun k => ?_)
    ·
     simp only [pattern_valid.j0, Bool.false_eq_true, if_false]
     rw [if_neg e1, if_pos e2, e2]
     rfl
    ·
     simp only [pattern_valid.j1, if_true]
   ·
    rw [if_neg e2]
    have S : ∀ b : Bool, (x.f0 == 3) = b → Ev (fun k => pattern_valid.j1 k x.f0 b x.f0 x.f1 x.f2 x.f3) (if x.f0 = 3 then true else if x.f0 = 4 then ascS none x.f3 else false) → Ev (fun k => pattern_valid.j0 k false x.f0 x.f1 x.f2 x.f3) (if x.f0 = 3 then true else if x.f0 = 4 then ascS none x.f3 else false) := by
     intro b hb hE
     refine Ev.step (fun k => ?_) hE
     simp only [pattern_valid.j0, Bool.false_eq_true, if_false]
     rw [if_neg e1, if_neg e2, hb]
    by_cases e3 : x.f0 = 3
    ·
     refine S true (beq_iff_eq.mpr e3) ?_
     rw [if_pos e3]
     exact ev_at1 fun k => by simp only [pattern_valid.j1, if_true]
    ·
     refine S false (beq_eq_false_iff_ne.mpr e3) ?_
     rw [if_neg e3]
     by_cases e4 : x.f0 = 4
     ·
      rw [if_pos e4]
      refine Ev.step (fun k => ?_) L
      simp only [pattern_valid.j1, Bool.false_eq_true, if_false]
      rw [if_pos e4]
      rfl
     ·
      rw [if_neg e4]
      refine ev_at1 fun k => ?_
      simp only [pattern_valid.j1, Bool.false_eq_true, if_false]
      rw [if_neg e4]
 unfold pattern_valid.f validS
 by_cases e4 : x.f0 = 4
 ·
  have e1 : ¬ x.f0 = 1 := by omega
  have e2 : ¬ x.f0 = 2 := by omega
  have e3 : ¬ x.f0 = 3 := by omega
  simp only [if_pos e4, if_neg e1, ne_nil]
  rw [if_neg e1, if_neg e2, if_neg e3, if_pos e4] at F
  by_cases e : x.f1.size = 0
  ·
   simp only [decide_eq_true e, Bool.not_true, Bool.true_and]
   exact F
  ·
   simp only [decide_eq_false e, Bool.not_false, Bool.false_and]
   exact T
 ·
  simp only [if_neg e4]
  rw [if_neg e4] at F
  by_cases e5 : x.f2 = true
  ·
   simp only [if_pos e5]
   exact T
  ·
   simp only [if_neg e5]
   by_cases e6 : x.f3.length > 0
   ·
    have e6' : (x.f3.length : Int) > 0 := by omega
    simp only [if_pos e6, if_pos e6']
    exact T
   ·
    have e6' : ¬ (x.f3.length : Int) > 0 := by omega
    simp only [if_neg e6, if_neg e6']
    by_cases e1 : x.f0 = 1
    ·
     simp only [if_pos e1] at F ⊢
     exact F
    ·
     simp only [if_neg e1, ne_nil] at F ⊢
     by_cases e : x.f1.size = 0
     ·
      simp only [decide_eq_true e, Bool.not_true, Bool.true_and]
      refine ev_eq F ?_
      by_cases e2 : x.f0 = 2
      ·
       simp [e2]
      ·
       by_cases e3 : x.f0 = 3
       ·
        simp [e3]
       ·
        simp [e2, e3]
     ·
      simp only [decide_eq_false e, Bool.not_false, Bool.false_and]
      exact T
theorem allValid_l0 (p : List S35) (hp : Good p) (d : Nat) : ∀ i : Nat, i ≤ p.length → p.length - i = d → Ev (fun k => pattern_allValid.l0 k p (p.length : Int) i) ((p.drop i).all validS) := by
 have hn12 : p.length ≤ 1000000000000 := Nat.le_trans hp.len (by decide)
 induction d with
 | zero =>
  intro i hi hd
  have h : ¬ i < p.length := by omega
  refine ev_at1 fun k => ?_
  simp only [pattern_allValid.l0]
  rw [if_neg (lift_not_lt h), List.drop_eq_nil_of_le (by omega)]
  rfl
 | succ d ih =>
  intro i hi hd
  have hlt : i < p.length := by omega
  have I := ih (i + 1) hlt (by omega)
  have V := valid_ev p[i] (hp.x (List.getElem_mem hlt))
  rw [List.drop_eq_getElem_cons hlt, List.all_cons]
  refine Ev.step (fun k => ?_) (Ev.bind V (f := fun k t => if t = true then pattern_allValid.l0 k p (p.length : Int) ((i + 1 : Nat) : Int) else some false) ?_)
  ·
   simp only [pattern_allValid.l0]
   rw [if_pos (lift_lt hlt), if_pos (nn i), if_pos (lift_lt hlt), rd35 p i hlt, w64n hi hn12]
  ·
   cases validS p[i] with
   | true => simpa using I
   | false => simpa using ev_const
theorem allValid_ev (p : List S35) (hp : Good p) : Ev (fun k => pattern_allValid.f k p) (p.all validS) := by
 have := allValid_l0 p hp _ 0 (Nat.zero_le _) rfl
 rwa [List.drop_zero] at this
theorem valid_one {x : S35} (h : validS x = true) (e : x.f0 = 1) : x.f1.size = 1 := by
 unfold validS at h
 rw [if_neg (by omega)] at h
 by_cases e5 : x.f2 = true
 ·
  rw [if_pos e5] at h; exact absurd h (by simp)
 ·
  rw [if_neg e5] at h
  by_cases e6 : x.f3.length > 0
  ·
   rw [if_pos e6] at h; exact absurd h (by simp)
  ·
   rw [if_neg e6, if_pos e] at h
   exact of_decide_eq_true h
end Go.Proofs.Ytbekhjcnmifnnaa.Pure
