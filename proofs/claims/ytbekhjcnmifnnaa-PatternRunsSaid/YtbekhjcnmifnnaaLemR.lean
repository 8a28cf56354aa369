/- Plain lemmas for chapter 04: the runs of a valid pattern compile to it. No conditions beyond those written at each. -/
import Derived.Test.YtbekhjcnmifnnaaLem9
import Derived.Test.YtbekhjcnmifnnaaQ19
set_option linter.unusedVariables false
set_option linter.unusedSimpArgs false
namespace Go.Proofs.Ytbekhjcnmifnnaa.Pure
open Go.RowKit Go.Proofs.Ytbekhjcnmifnnaa.Q Go.Proofs.YtbekhjcnmifnnaaW.PrintWords Go.Proofs.YtbekhjcnmifnnaaW.PrintLast

/-! ### spans of a valid set -/
theorem asc_tail {o : Option Int} {s : S58} {l : List S58} (h : ascS o (s :: l) = true) : s.f0 ≤ s.f1 ∧ ascS (some s.f1) l = true := by
 cases o with
 | none =>
  have h' : (decide (s.f0 ≤ s.f1) && ascS (some s.f1) l) = true := h
  rw [Bool.and_eq_true, decide_eq_true_eq] at h'
  exact h'
 | some v =>
  have h' : (decide (s.f0 ≤ s.f1) && (decide (v + 1 < s.f0) && ascS (some s.f1) l)) = true := h
  rw [Bool.and_eq_true, Bool.and_eq_true, decide_eq_true_eq] at h'
  exact ⟨h'.1, h'.2.2⟩
theorem asc_low {v : Int} (l : List S58) : ∀ v, ascS (some v) l = true → ∀ x ∈ l, v + 1 < x.f0 := by
 induction l with
 | nil => exact fun v _ x hx => by cases hx
 | cons s l ih =>
  intro v h x hx
  have h' : (decide (s.f0 ≤ s.f1) && (decide (v + 1 < s.f0) && ascS (some s.f1) l)) = true := h
  rw [Bool.and_eq_true, Bool.and_eq_true, decide_eq_true_eq, decide_eq_true_eq] at h'
  rcases List.mem_cons.mp hx with rfl | hx
  ·
   exact h'.2.1
  ·
   have := ih s.f1 h'.2.2 x hx
   omega
theorem inS_low (l : List S58) (c : Int) (h : ∀ x ∈ l, c < x.f0) : inS l c = false := by
 unfold inS
 rw [List.any_eq_false]
 intro x hx
 have := h x hx
 rw [Bool.and_eq_true, decide_eq_true_eq]
 omega
theorem spA_asc (P : Nat → Bool) (d : Nat) :
 (∀ (b : Nat) (o : Option Int) (l : List S58), b + d = 256 → (∀ x ∈ l, InR x ∧ (b : Int) ≤ x.f0) → ascS o l = true → (∀ c, b ≤ c → c < 256 → P c = inS l (c : Int)) → spA P d b none = l) ∧
 (∀ (b s : Nat) (hi : Int) (l : List S58), b + d = 256 → (b : Int) ≤ hi + 1 → hi ≤ 255 → (∀ x ∈ l, InR x ∧ hi + 1 < x.f0) → ascS (some hi) l = true → (∀ c, b ≤ c → c < 256 → P c = (decide ((c : Int) ≤ hi) || inS l (c : Int))) → spA P d b (some s) = ⟨(s : Int), hi⟩ :: l) := by
 induction d with
 | zero =>
  refine ⟨fun b o l hb hl _ _ => ?_, fun b s hi l hb h1 h2 hl _ _ => ?_⟩
  ·
   cases l with
   | nil => rfl
   | cons x l =>
    have := hl x (List.mem_cons_self ..)
    have := this.1.2.1
    omega
  ·
   cases l with
   | nil =>
    have : hi = (b : Int) - 1 := by omega
    rw [this]
    rfl
   | cons x l =>
    have := hl x (List.mem_cons_self ..)
    have := this.1.2.1
    omega
 | succ d ih =>
  obtain ⟨IA, IB⟩ := ih
  refine ⟨fun b o l hb hl ha hP => ?_, fun b s hi l hb h1 h2 hl ha hP => ?_⟩
  ·
   show (if P b = true then spA P d (b + 1) (some b) else spA P d (b + 1) none) = l
   have hPb := hP b (Nat.le_refl _) (by omega)
   by_cases hs : ∃ x r, l = x :: r ∧ x.f0 = (b : Int)
   ·
    obtain ⟨x, r, rfl, hx⟩ := hs
    obtain ⟨t1, t2⟩ := asc_tail ha
    have hx1 := hl x (List.mem_cons_self ..)
    have hin : ∀ c, inS (x :: r) c = ((decide (x.f0 ≤ c) && decide (c ≤ x.f1)) || inS r c) := fun c => rfl
    have hp : P b = true := by
     rw [hPb, hin, decide_eq_true (by omega : x.f0 ≤ (b : Int)), decide_eq_true (by omega : (b : Int) ≤ x.f1)]
     rfl
    rw [if_pos hp]
    have low := asc_low (v := 0) r x.f1 t2
    have J := IB (b + 1) b x.f1 r (by omega) (by omega) hx1.1.2.2.2 (fun y hy => ⟨(hl y (List.mem_cons_of_mem _ hy)).1, low y hy⟩) t2 (fun c hc hc2 => by
     rw [hP c (by omega) hc2, hin, decide_eq_true (by omega : x.f0 ≤ (c : Int)), Bool.true_and])
    rw [J, ← hx]
   ·
    have hlow : ∀ x ∈ l, (b : Int) + 1 ≤ x.f0 := by
     intro x hx
     cases l with
     | nil => cases hx
     | cons y r =>
      have hy := hl y (List.mem_cons_self ..)
      have hne : y.f0 ≠ (b : Int) := fun e => hs ⟨y, r, rfl, e⟩
      obtain ⟨t1, t2⟩ := asc_tail ha
      have low := asc_low (v := 0) r y.f1 t2
      rcases List.mem_cons.mp hx with rfl | hx
      ·
       omega
      ·
       have := low x hx
       omega
    have hp : ¬ P b = true := by
     rw [hPb, inS_low l _ (fun x hx => by have := hlow x hx; omega)]
     decide
    rw [if_neg hp]
    exact IA (b + 1) o l (by omega) (fun x hx => ⟨(hl x hx).1, by have := hlow x hx; omega⟩) ha (fun c hc hc2 => hP c (by omega) hc2)
  ·
   show (if P b = true then spA P d (b + 1) (some s) else ⟨(s : Int), (b : Int) - 1⟩ :: spA P d (b + 1) none) = _
   have hPb := hP b (Nat.le_refl _) (by omega)
   by_cases hbh : (b : Int) ≤ hi
   ·
    rw [if_pos (by rw [hPb, decide_eq_true hbh]; rfl)]
    exact IB (b + 1) s hi l (by omega) (by omega) h2 hl ha (fun c hc hc2 => hP c (by omega) hc2)
   ·
    have hlow := inS_low l (b : Int) (fun x hx => by have := (hl x hx).2; omega)
    rw [if_neg (by rw [hPb, decide_eq_false hbh, hlow]; decide)]
    have e : (b : Int) - 1 = hi := by omega
    rw [e, IA (b + 1) (some hi) l (by omega) (fun x hx => ⟨(hl x hx).1, by have := (hl x hx).2; omega⟩) ha (fun c hc hc2 => by
     rw [hP c (by omega) hc2, decide_eq_false (by omega : ¬ (c : Int) ≤ hi), Bool.false_or])]
theorem spS_asc (l : List S58) (hl : ∀ x ∈ l, InR x) (ha : ascS none l = true) : spS l = l :=
 (spA_asc (fun b => inS l (b : Int)) 256).1 0 none l (by decide) (fun x hx => ⟨hl x hx, (hl x hx).1⟩) ha (fun c _ _ => rfl)
theorem spA_congr' (P Q : Nat → Bool) (d : Nat) : ∀ (b : Nat) (o : Option Nat), b + d = 256 → (∀ c, c < 256 → P c = Q c) → spA P d b o = spA Q d b o := by
 induction d with
 | zero => intro b o _ _; cases o <;> rfl
 | succ d ih =>
  intro b o hb h
  have e := h b (by omega)
  cases o with
  | none => unfold spA; rw [e, ih _ _ (by omega) h, ih _ _ (by omega) h]
  | some s => unfold spA; rw [e, ih _ _ (by omega) h, ih _ _ (by omega) h]
theorem spS_congr' (a b : List S58) (h : ∀ c, inS a c = inS b c) : spS a = spS b := spA_congr' _ _ 256 0 none (by decide) fun c _ => h (c : Int)
/-! ### the runs -/
def spanRuns (s : S58) : List S47 := (⟨strOfNums [s.f0], 1⟩ : S47) :: (if s.f1 > s.f0 then [(⟨(⟨#[45]⟩ : ByteArray), 0⟩ : S47), (⟨strOfNums [s.f1], 1⟩ : S47)] else [])
def setR (x : S35) : List S47 :=
 ([(⟨(if x.f2 = true then (⟨#[91, 33]⟩ : ByteArray) else (⟨#[91]⟩ : ByteArray)), 0⟩ : S47)] ++ (if x.f3.length = 0 then [(⟨(⟨#[98]⟩ : ByteArray), 1⟩ : S47), (⟨(⟨#[45]⟩ : ByteArray), 0⟩ : S47), (⟨(⟨#[97]⟩ : ByteArray), 1⟩ : S47)] else [])) ++ (x.f3.flatMap spanRuns ++ [(⟨(⟨#[93]⟩ : ByteArray), 0⟩ : S47)])
def runIt (x : S35) : List S47 :=
 if x.f0 = 1 then [(⟨x.f1, 1⟩ : S47)] else if x.f0 = 2 then [(⟨(⟨#[63]⟩ : ByteArray), 0⟩ : S47)] else if x.f0 = 3 then [(⟨(⟨#[42]⟩ : ByteArray), 0⟩ : S47)] else setR x
theorem span_len (s : S58) : (spanRuns s).length ≤ 3 := by
 unfold spanRuns
 split
 ·
  exact Nat.le_refl _
 ·
  show 1 ≤ 3
  decide
theorem flat_len (l : List S58) : (l.flatMap spanRuns).length ≤ 3 * l.length := by
 induction l with
 | nil => exact Nat.le_refl _
 | cons s l ih =>
  have := span_len s
  rw [List.flatMap_cons, List.length_append, List.length_cons]
  omega
theorem set_l0 (l : List S58) (hl : l.length ≤ 100000) (d : Nat) : ∀ (i : Nat) (acc : List S47), i + d = l.length → acc.length + 3 * d ≤ 10000000 →
 Ev (fun k => pattern_setRuns.l0 k acc l (l.length : Int) (i : Int)) (acc ++ ((l.drop i).flatMap spanRuns ++ [(⟨(⟨#[93]⟩ : ByteArray), 0⟩ : S47)])) := by
 have hl12 : l.length ≤ 1000000000000 := by omega
 induction d with
 | zero =>
  intro i acc hi ha
  have h : ¬ i < l.length := by omega
  have hal : acc.length < 5864062014805 := by omega
  rw [List.drop_eq_nil_of_le (by omega)]
  refine ev_at1 fun k => ?_
  simp only [pattern_setRuns.l0]
  rw [if_neg (lift_not_lt h), if_pos hal]
  rfl
 | succ d ih =>
  intro i acc hi ha
  have h : i < l.length := by omega
  have h' : i ≤ l.length := by omega
  have hal : acc.length < 5864062014805 := by omega
  have hal2 : (acc ++ [(⟨strOfNums [(l[i]'h).f0], 1⟩ : S47)]).length + [(⟨(⟨#[45]⟩ : ByteArray), 0⟩ : S47), (⟨strOfNums [(l[i]'h).f1], 1⟩ : S47)].length < 5864062014805 := by
   rw [List.length_append, List.length_singleton]
   show acc.length + 1 + 2 < _
   omega
  rw [List.drop_eq_getElem_cons h, List.flatMap_cons, List.append_assoc, ← List.append_assoc]
  have hsl := span_len (l[i]'h)
  have J := ih (i + 1) (acc ++ spanRuns (l[i]'h)) (by omega) (by rw [List.length_append]; omega)
  refine Ev.step (fun k => ?_) J
  simp only [pattern_setRuns.l0, Option.bind_some]
  rw [if_pos (lift_lt h), if_pos (nn i), if_pos (lift_lt h), if_pos hal, rd58 l i h, w64n h' hl12]
  unfold spanRuns
  by_cases hgt : (l[i]'h).f1 > (l[i]'h).f0
  ·
   rw [if_pos hgt, if_pos hgt, if_pos hal2, List.append_assoc]
   rfl
  ·
   rw [if_neg hgt, if_neg hgt]
theorem setRuns_ev (x : S35) (hx : x.f3.length ≤ 100000) : Ev (fun k => pattern_setRuns.f k x.f0 x.f1 x.f2 x.f3) (setR x) := by
 have J0 : ∀ o : ByteArray, Ev (fun k => pattern_setRuns.j0 k o x.f0 x.f1 x.f2 x.f3) (([(⟨o, 0⟩ : S47)] ++ (if x.f3.length = 0 then [(⟨(⟨#[98]⟩ : ByteArray), 1⟩ : S47), (⟨(⟨#[45]⟩ : ByteArray), 0⟩ : S47), (⟨(⟨#[97]⟩ : ByteArray), 1⟩ : S47)] else [])) ++ (x.f3.flatMap spanRuns ++ [(⟨(⟨#[93]⟩ : ByteArray), 0⟩ : S47)])) := by
  intro o
  by_cases h : x.f3.length = 0
  ·
   have h' : (x.f3.length : Int) = 0 := by omega
   have q : [(⟨o, 0⟩ : S47)].length + [(⟨(⟨#[98]⟩ : ByteArray), 1⟩ : S47), (⟨(⟨#[45]⟩ : ByteArray), 0⟩ : S47), (⟨(⟨#[97]⟩ : ByteArray), 1⟩ : S47)].length < 5864062014805 := by show 1 + 3 < _; decide
   have L := set_l0 x.f3 hx x.f3.length 0 ([(⟨o, 0⟩ : S47)] ++ [(⟨(⟨#[98]⟩ : ByteArray), 1⟩ : S47), (⟨(⟨#[45]⟩ : ByteArray), 0⟩ : S47), (⟨(⟨#[97]⟩ : ByteArray), 1⟩ : S47)]) (by omega) (by show 4 + _ ≤ _; omega)
   rw [List.drop_zero] at L
   rw [if_pos h]
   refine Ev.step (fun k => ?_) (Ev.step (g := fun k => pattern_setRuns.j1 k ([(⟨o, 0⟩ : S47)] ++ [(⟨(⟨#[98]⟩ : ByteArray), 1⟩ : S47), (⟨(⟨#[45]⟩ : ByteArray), 0⟩ : S47), (⟨(⟨#[97]⟩ : ByteArray), 1⟩ : S47)]) x.f0 x.f1 x.f2 x.f3) (fun k => ?_) L)
   ·
    simp only [pattern_setRuns.j0, Option.bind_some]
    rw [if_pos h', if_pos q]
   ·
    simp only [pattern_setRuns.j1]
    rfl
  ·
   have h' : ¬ (x.f3.length : Int) = 0 := by omega
   have L := set_l0 x.f3 hx x.f3.length 0 [(⟨o, 0⟩ : S47)] (by omega) (by show 1 + _ ≤ _; omega)
   rw [List.drop_zero] at L
   rw [if_neg h, List.append_nil]
   refine Ev.step (fun k => ?_) (Ev.step (g := fun k => pattern_setRuns.j1 k [(⟨o, 0⟩ : S47)] x.f0 x.f1 x.f2 x.f3) (fun k => ?_) L)
   ·
    simp only [pattern_setRuns.j0, Option.bind_some]
    rw [if_neg h']
   ·
    simp only [pattern_setRuns.j1]
    rfl
 unfold pattern_setRuns.f setR
 by_cases h : x.f2 = true
 ·
  simp only [if_pos h]
  exact J0 _
 ·
  simp only [if_neg h]
  exact J0 _
theorem it_len (x : S35) : (runIt x).length ≤ 5 + 3 * x.f3.length := by
 unfold runIt
 split
 ·
  show 1 ≤ _; omega
 ·
  split
  ·
   show 1 ≤ _; omega
  ·
   split
   ·
    show 1 ≤ _; omega
   ·
    unfold setR
    have := flat_len x.f3
    rw [List.length_append, List.length_append, List.length_append]
    show 1 + _ + (_ + 1) ≤ _
    split
    ·
     show 1 + 3 + _ ≤ _
     omega
    ·
     show 1 + 0 + _ ≤ _
     omega
theorem runs_l0 (p : List S35) (hp : Good p) (hx : ∀ x ∈ p, x.f3.length ≤ 100) (d : Nat) : ∀ (i : Nat) (acc : List S47), i + d = p.length → acc.length ≤ 400 * i →
 Ev (fun k => pattern_Runs.l0 k acc p (p.length : Int) (i : Int)) (acc ++ (p.drop i).flatMap runIt) := by
 have hl := hp.len
 have hl12 : p.length ≤ 1000000000000 := by omega
 induction d with
 | zero =>
  intro i acc hi ha
  have h : ¬ i < p.length := by omega
  rw [List.drop_eq_nil_of_le (by omega)]
  refine ev_at1 fun k => ?_
  simp only [pattern_Runs.l0]
  rw [if_neg (lift_not_lt h), List.flatMap_nil, List.append_nil]
 | succ d ih =>
  intro i acc hi ha
  have h : i < p.length := by omega
  have h' : i ≤ p.length := by omega
  have hal : acc.length < 5864062014805 := by omega
  have hxi := hx _ (List.getElem_mem h)
  have hil := it_len (p[i]'h)
  rw [List.drop_eq_getElem_cons h, List.flatMap_cons, ← List.append_assoc]
  have J := ih (i + 1) (acc ++ runIt (p[i]'h)) (by omega) (by rw [List.length_append]; omega)
  have E : ∀ k, pattern_Runs.l0 (k + 1) acc p (p.length : Int) (i : Int) = (if (p[i]'h).f0 = 1 then (pattern_Runs.l0 k (acc ++ [(⟨(p[i]'h).f1, 1⟩ : S47)]) p (p.length : Int) ((i + 1 : Nat) : Int)) else (if (p[i]'h).f0 = 2 then (pattern_Runs.l0 k (acc ++ [(⟨(⟨#[63]⟩ : ByteArray), 0⟩ : S47)]) p (p.length : Int) ((i + 1 : Nat) : Int)) else (if (p[i]'h).f0 = 3 then (pattern_Runs.l0 k (acc ++ [(⟨(⟨#[42]⟩ : ByteArray), 0⟩ : S47)]) p (p.length : Int) ((i + 1 : Nat) : Int)) else ((pattern_setRuns.f k (p[i]'h).f0 (p[i]'h).f1 (p[i]'h).f2 (p[i]'h).f3).bind fun t246 => (if acc.length + t246.length < 5864062014805 then (pattern_Runs.l0 k (acc ++ t246) p (p.length : Int) ((i + 1 : Nat) : Int)) else (none)))))) := by
   intro k
   simp only [pattern_Runs.l0, if_pos hal]
   rw [if_pos (lift_lt h), if_pos (nn i), if_pos (lift_lt h), rd35 p i h, w64n h' hl12]
  by_cases h1 : (p[i]'h).f0 = 1
  ·
   rw [show runIt (p[i]'h) = _ from if_pos h1] at J ⊢
   exact Ev.step (fun k => by rw [E, if_pos h1]) J
  ·
   by_cases h2 : (p[i]'h).f0 = 2
   ·
    rw [show runIt (p[i]'h) = _ from (if_neg h1).trans (if_pos h2)] at J ⊢
    exact Ev.step (fun k => by rw [E, if_neg h1, if_pos h2]) J
   ·
    by_cases h3 : (p[i]'h).f0 = 3
    ·
     rw [show runIt (p[i]'h) = _ from (if_neg h1).trans ((if_neg h2).trans (if_pos h3))] at J ⊢
     exact Ev.step (fun k => by rw [E, if_neg h1, if_neg h2, if_pos h3]) J
    ·
     have e : runIt (p[i]'h) = setR (p[i]'h) := (if_neg h1).trans ((if_neg h2).trans (if_neg h3))
     rw [e] at J hil ⊢
     have q : acc.length + (setR (p[i]'h)).length < 5864062014805 := by omega
     refine Ev.step (fun k => by rw [E, if_neg h1, if_neg h2, if_neg h3]) (Ev.bind (setRuns_ev (p[i]'h) (by omega)) ?_)
     exact Ev.congr (fun k => if_pos q) J
def runsS (p : List S35) : List S47 := p.flatMap runIt
theorem runs_ev (p : List S35) (hp : Good p) (hx : ∀ x ∈ p, x.f3.length ≤ 100) : Ev (fun k => pattern_Runs.f k p) (if p.all validS = true then runsS p else []) := by
 unfold pattern_Runs.f
 refine Ev.bind (allValid_ev p hp) ?_
 cases hv : p.all validS with
 | true =>
  simp only [if_true]
  have J := runs_l0 p hp hx p.length 0 [] (by omega) (Nat.zero_le _)
  rw [List.drop_zero, List.nil_append] at J
  exact J
 | false =>
  simp only [Bool.false_eq_true, if_false]
  exact ev_const

theorem elsS_app (a b : List S47) : elsS (a ++ b) = elsS a ++ elsS b := List.flatMap_append
theorem elsS_cons (r : S47) (l : List S47) : elsS (r :: l) = els r ++ elsS l := rfl
theorem els_byte (c : Int) (h0 : 0 ≤ c) (h1 : c ≤ 255) : els ⟨strOfNums [c], 1⟩ = [⟨c, false⟩] := by
 rw [show els ⟨strOfNums [c], 1⟩ = (bl (strOfNums [c])).map (elOf false) from if_pos (.inr (.inl rfl)), bl_str1 c h0 h1]
 rfl
def spEl (s : S58) : List S51 := (⟨s.f0, false⟩ : S51) :: (if s.f1 > s.f0 then [(⟨45, true⟩ : S51), ⟨s.f1, false⟩] else [])
theorem els_span (s : S58) (h : InR s) : elsS (spanRuns s) = spEl s := by
 unfold spanRuns spEl
 rw [elsS_cons, els_byte _ h.1 h.2.1]
 by_cases hg : s.f1 > s.f0
 ·
  rw [if_pos hg, if_pos hg, elsS_cons, elsS_cons, els_byte _ h.2.2.1 h.2.2.2]
  rfl
 ·
  rw [if_neg hg, if_neg hg]
  rfl
theorem els_flat (l : List S58) (h : ∀ s ∈ l, InR s) : elsS (l.flatMap spanRuns) = l.flatMap spEl := by
 induction l with
 | nil => rfl
 | cons s l ih =>
  rw [List.flatMap_cons, List.flatMap_cons, elsS_app, els_span s (h s (List.mem_cons_self ..)), ih fun x hx => h x (List.mem_cons_of_mem _ hx)]
theorem quiet_cls (c : Int) (u : List S51) : clsS ((⟨c, false⟩ : S51) :: u) = none := by
 unfold clsS
 cases u with
 | nil => rfl
 | cons y r =>
  rw [nameS_cons, if_neg (by unfold isA; rintro ⟨h, _⟩; exact absurd h (by simp))]
  rfl
theorem quiet_mem (c : Int) (u : List S51) : memS ((⟨c, false⟩ : S51) :: u) = plainS ((⟨c, false⟩ : S51) :: u) := by
 unfold memS
 rw [quiet_cls]
 rfl
theorem plain_one (c : Int) (y : S51) (r : List S51) (h : ¬ isA y 45 = true) : plainS ((⟨c, false⟩ : S51) :: y :: r) = ([⟨c, c⟩], 1) := by
 cases r with
 | nil => rfl
 | cons z r => exact if_neg (fun e => h e.1)
theorem br_spans (rest : List S51) (l : List S58) : ∀ (n m : Nat) (first : Bool) (rs : List S58), (∀ s ∈ l, s.f0 ≤ s.f1) → (l.flatMap spEl).length < n → (first = true → l ≠ []) →
 brL n (l.flatMap spEl ++ (⟨93, true⟩ : S51) :: rest) first rs m = some (rs ++ l, m + (l.flatMap spEl).length + 1) := by
 induction l with
 | nil =>
  intro n m first rs _ hn hf
  obtain ⟨n, rfl⟩ : ∃ k, n = k + 1 := ⟨n - 1, by have := hn; rw [List.flatMap_nil, List.length_nil] at this; omega⟩
  have hff : first = false := by cases first with | false => rfl | true => exact absurd rfl (hf rfl)
  subst hff
  rw [List.append_nil]
  rfl
 | cons s l ih =>
  intro n m first rs hl hn _
  have hs := hl s (List.mem_cons_self ..)
  have hl' : ∀ x ∈ l, x.f0 ≤ x.f1 := fun x hx => hl x (List.mem_cons_of_mem _ hx)
  rw [List.flatMap_cons, List.length_append] at hn ⊢
  obtain ⟨n, rfl⟩ : ∃ k, n = k + 1 := ⟨n - 1, by omega⟩
  have hna : ¬ (isA (⟨s.f0, false⟩ : S51) 93 = true ∧ first = false) := fun e => absurd e.1 (by unfold isA; simp)
  by_cases hg : s.f1 > s.f0
  ·
   have e : spEl s = [(⟨s.f0, false⟩ : S51), ⟨45, true⟩, ⟨s.f1, false⟩] := by unfold spEl; rw [if_pos hg]
   rw [e] at hn ⊢
   have J := ih n (m + 3) false (rs ++ [s]) hl' (by simp only [List.length_cons, List.length_nil] at hn; omega) (fun h => by cases h)
   have pm : memS ((⟨s.f0, false⟩ : S51) :: ⟨45, true⟩ :: ⟨s.f1, false⟩ :: (l.flatMap spEl ++ (⟨93, true⟩ : S51) :: rest)) = ([⟨s.f0, s.f1⟩], 3) := by
    rw [quiet_mem]
    show (if isA (⟨45, true⟩ : S51) 45 = true ∧ ¬ isA (⟨s.f1, false⟩ : S51) 93 = true then ([(⟨s.f0, s.f1⟩ : S58)], 3) else ([(⟨s.f0, s.f0⟩ : S58)], 1)) = _
    rw [if_pos ⟨rfl, by unfold isA; simp⟩]
   show brL (n + 1) ((⟨s.f0, false⟩ : S51) :: ⟨45, true⟩ :: ⟨s.f1, false⟩ :: (l.flatMap spEl ++ (⟨93, true⟩ : S51) :: rest)) first rs m = _
   unfold brL
   rw [if_neg hna, pm]
   show brL n (l.flatMap spEl ++ (⟨93, true⟩ : S51) :: rest) false (rs ++ [s]) (m + 3) = _
   rw [J, List.append_assoc]
   congr 2
   simp only [List.length_cons, List.length_nil]
   omega
  ·
   have e : spEl s = [(⟨s.f0, false⟩ : S51)] := by unfold spEl; rw [if_neg hg]
   rw [e] at hn ⊢
   have J := ih n (m + 1) false (rs ++ [s]) hl' (by simp only [List.length_cons, List.length_nil] at hn; omega) (fun h => by cases h)
   have hss : s.f1 = s.f0 := by omega
   have hsx : (⟨s.f0, s.f0⟩ : S58) = s := by
    cases s
    simp only at hss
    rw [hss]
   have pm : memS ((⟨s.f0, false⟩ : S51) :: (l.flatMap spEl ++ (⟨93, true⟩ : S51) :: rest)) = ([s], 1) := by
    rw [quiet_mem]
    cases l with
    | nil =>
     rw [← hsx]
     exact plain_one _ _ _ (by unfold isA; decide)
    | cons s' l' =>
     have : ∃ y r, (s' :: l').flatMap spEl ++ (⟨93, true⟩ : S51) :: rest = y :: r ∧ ¬ isA y 45 = true := ⟨(⟨s'.f0, false⟩ : S51), _, by rw [List.flatMap_cons]; rfl, by unfold isA; simp⟩
     obtain ⟨y, r, e1, e2⟩ := this
     rw [e1, plain_one _ _ _ e2, hsx]
   show brL (n + 1) ((⟨s.f0, false⟩ : S51) :: (l.flatMap spEl ++ (⟨93, true⟩ : S51) :: rest)) first rs m = _
   unfold brL
   rw [if_neg hna, pm]
   show brL n (l.flatMap spEl ++ (⟨93, true⟩ : S51) :: rest) false (rs ++ [s]) (m + 1) = _
   rw [J, List.append_assoc]
   congr 2
   simp only [List.length_cons, List.length_nil]
   omega
theorem size_nil (b : ByteArray) (h : b.size = 0) : b = (⟨#[]⟩ : ByteArray) := by
 apply bl_inj
 have : (bl b).length = 0 := by rw [bl_len, h]
 rw [List.eq_nil_of_length_eq_zero this]
 rfl
def midE (x : S35) : List S51 := if x.f3.length = 0 then [(⟨98, false⟩ : S51), ⟨45, true⟩, ⟨97, false⟩] else x.f3.flatMap spEl
theorem els_set (x : S35) (h : ∀ s ∈ x.f3, InR s) : elsS (setR x) = (⟨91, true⟩ : S51) :: ((if x.f2 = true then [(⟨33, true⟩ : S51)] else []) ++ (midE x ++ [(⟨93, true⟩ : S51)])) := by
 unfold setR midE
 rw [elsS_app, elsS_app, elsS_app, els_flat _ h]
 have e0 : elsS [(⟨(if x.f2 = true then (⟨#[91, 33]⟩ : ByteArray) else (⟨#[91]⟩ : ByteArray)), 0⟩ : S47)] = (⟨91, true⟩ : S51) :: (if x.f2 = true then [(⟨33, true⟩ : S51)] else []) := by
  cases x.f2 <;> rfl
 have e2 : elsS [(⟨(⟨#[93]⟩ : ByteArray), 0⟩ : S47)] = [(⟨93, true⟩ : S51)] := rfl
 rw [e0, e2]
 by_cases hz : x.f3.length = 0
 ·
  rw [if_pos hz, if_pos hz, List.eq_nil_of_length_eq_zero hz, List.flatMap_nil, List.nil_append]
  rw [show elsS [(⟨(⟨#[98]⟩ : ByteArray), 1⟩ : S47), (⟨(⟨#[45]⟩ : ByteArray), 0⟩ : S47), (⟨(⟨#[97]⟩ : ByteArray), 1⟩ : S47)] = [(⟨98, false⟩ : S51), ⟨45, true⟩, ⟨97, false⟩] from rfl]
  simp only [List.cons_append, List.append_assoc]
 ·
  rw [if_neg hz, if_neg hz]
  rw [show elsS [] = [] from rfl, List.append_nil]
  simp only [List.cons_append, List.append_assoc]
theorem br_mid (x : S35) (h : ∀ s ∈ x.f3, InR s) (ha : ascS none x.f3 = true) (rest : List S51) (n m : Nat) (hn : (midE x).length < n) :
 ∃ rs, brL n (midE x ++ (⟨93, true⟩ : S51) :: rest) true [] m = some (rs, m + (midE x).length + 1) ∧ spS rs = x.f3 := by
 unfold midE at hn ⊢
 by_cases hz : x.f3.length = 0
 ·
  rw [if_pos hz] at hn ⊢
  refine ⟨[⟨98, 97⟩], ?_, ?_⟩
  ·
   obtain ⟨n, rfl⟩ : ∃ k, n = k + 2 := ⟨n - 2, by simp only [List.length_cons, List.length_nil] at hn; omega⟩
   rfl
  ·
   rw [List.eq_nil_of_length_eq_zero hz, spS_congr' [⟨98, 97⟩] [] (fun c => by
    rw [inS_one]
    show _ = false
    rw [Bool.and_eq_false_iff, decide_eq_false_iff_not, decide_eq_false_iff_not]
    omega)]
   exact spS_asc [] (fun x hx => by cases hx) rfl
 ·
  rw [if_neg hz] at hn ⊢
  have hlo : ∀ (l : List S58) (o : Option Int), ascS o l = true → ∀ s ∈ l, s.f0 ≤ s.f1 := by
   intro l
   induction l with
   | nil => exact fun o _ s hs => by cases hs
   | cons y l ih =>
    intro o ho s hs
    obtain ⟨t1, t2⟩ := asc_tail ho
    rcases List.mem_cons.mp hs with rfl | hs
    ·
     exact t1
    ·
     exact ih _ t2 s hs
  exact ⟨x.f3, by rw [br_spans rest x.f3 n m true [] (hlo _ _ ha) hn (fun _ e => hz (by rw [e]; rfl))]; rfl, spS_asc x.f3 h ha⟩
theorem mid_ne (x : S35) : ∃ c r, midE x = (⟨c, false⟩ : S51) :: r := by
 unfold midE
 by_cases hz : x.f3.length = 0
 ·
  exact ⟨98, _, if_pos hz⟩
 ·
  cases hf : x.f3 with
  | nil => rw [hf] at hz; exact absurd rfl hz
  | cons s l =>
   exact ⟨s.f0, _, by rw [if_neg (by simp)]; rfl⟩
theorem compS_cons (n : Nat) (x : S51) (r : List S51) : compS (n + 1) (x :: r) = if isA x 42 = true then (⟨3, (⟨#[]⟩ : ByteArray), false, ([] : List S58)⟩ : S35) :: compS n r
 else if isA x 63 = true then (⟨2, (⟨#[]⟩ : ByteArray), false, ([] : List S58)⟩ : S35) :: compS n r
 else if isA x 91 = true then (match brS (x :: r) with
  | some (it, m) => it :: compS n ((x :: r).drop m)
  | none => PBx x :: compS n r)
 else PBx x :: compS n r := rfl
theorem comp_it (x : S35) (h : GoodX x) (hv : validS x = true) (n : Nat) (rest : List S51) : compS (n + 1) (elsS (runIt x) ++ rest) = x :: compS n rest := by
 have hv' := hv
 unfold validS at hv'
 by_cases e4 : x.f0 = 4
 ·
  rw [if_pos e4, Bool.and_eq_true, decide_eq_true_eq] at hv'
  have hx1 := size_nil _ hv'.1
  have er : runIt x = setR x := (if_neg (by omega)).trans ((if_neg (by omega)).trans (if_neg (by omega)))
  rw [er, els_set x h.each]
  have ux : (⟨4, (⟨#[]⟩ : ByteArray), x.f2, x.f3⟩ : S35) = x := by
   rw [← hx1, ← e4]
  obtain ⟨c, r, hm⟩ := mid_ne x
  have B : brS ((⟨91, true⟩ : S51) :: ((if x.f2 = true then [(⟨33, true⟩ : S51)] else []) ++ (midE x ++ [(⟨93, true⟩ : S51)])) ++ rest) = some (x, ((⟨91, true⟩ : S51) :: ((if x.f2 = true then [(⟨33, true⟩ : S51)] else []) ++ (midE x ++ [(⟨93, true⟩ : S51)]))).length) := by
   by_cases hf2 : x.f2 = true
   ·
    obtain ⟨rs, b1, b2⟩ := br_mid x h.each hv'.2 rest ((midE x).length + 3 + rest.length) 2 (by omega)
    rw [if_pos hf2]
    have eu : ((⟨91, true⟩ : S51) :: ([(⟨33, true⟩ : S51)] ++ (midE x ++ [(⟨93, true⟩ : S51)])) ++ rest) = (⟨91, true⟩ : S51) :: (⟨33, true⟩ : S51) :: (midE x ++ (⟨93, true⟩ : S51) :: rest) := by
     simp only [List.cons_append, List.append_assoc, List.nil_append]
    rw [eu]
    have hlen : ((⟨91, true⟩ : S51) :: (⟨33, true⟩ : S51) :: (midE x ++ (⟨93, true⟩ : S51) :: rest)).length = (midE x).length + 3 + rest.length := by
     simp only [List.length_cons, List.length_append]
     omega
    unfold brS
    rw [hlen, show begS ((⟨91, true⟩ : S51) :: (⟨33, true⟩ : S51) :: (midE x ++ (⟨93, true⟩ : S51) :: rest)) = 2 from rfl]
    rw [show ((⟨91, true⟩ : S51) :: (⟨33, true⟩ : S51) :: (midE x ++ (⟨93, true⟩ : S51) :: rest)).drop 2 = midE x ++ (⟨93, true⟩ : S51) :: rest from rfl, b1]
    rw [Option.map_some, b2, show negS ((⟨91, true⟩ : S51) :: (⟨33, true⟩ : S51) :: (midE x ++ (⟨93, true⟩ : S51) :: rest)) = true from rfl, ← hf2, ux]
    congr 2
    simp only [List.length_cons, List.length_append, List.length_nil]
    omega
   ·
    obtain ⟨rs, b1, b2⟩ := br_mid x h.each hv'.2 rest ((midE x).length + 2 + rest.length) 1 (by omega)
    rw [if_neg hf2, List.nil_append]
    have eu : ((⟨91, true⟩ : S51) :: (midE x ++ [(⟨93, true⟩ : S51)]) ++ rest) = (⟨91, true⟩ : S51) :: (midE x ++ (⟨93, true⟩ : S51) :: rest) := by
     simp only [List.cons_append, List.append_assoc, List.nil_append]
    rw [eu]
    have hlen : ((⟨91, true⟩ : S51) :: (midE x ++ (⟨93, true⟩ : S51) :: rest)).length = (midE x).length + 2 + rest.length := by
     simp only [List.length_cons, List.length_append]
     omega
    have hneg : negS ((⟨91, true⟩ : S51) :: (midE x ++ (⟨93, true⟩ : S51) :: rest)) = false := by
     rw [hm]
     rfl
    have hbeg : begS ((⟨91, true⟩ : S51) :: (midE x ++ (⟨93, true⟩ : S51) :: rest)) = 1 := by
     unfold begS
     rw [hneg]
     rfl
    unfold brS
    rw [hlen, hbeg, hneg]
    rw [show ((⟨91, true⟩ : S51) :: (midE x ++ (⟨93, true⟩ : S51) :: rest)).drop 1 = midE x ++ (⟨93, true⟩ : S51) :: rest from rfl, b1]
    rw [Option.map_some, b2, ← Bool.eq_false_iff.mpr hf2, ux]
    congr 2
    simp only [List.length_cons, List.length_append, List.length_nil]
    omega
  rw [List.cons_append] at B ⊢
  rw [compS_cons, if_neg (by unfold isA; decide), if_neg (by unfold isA; decide), if_pos (show isA (⟨91, true⟩ : S51) 91 = true from rfl), B]
  have D : ∀ tl : List S51, List.drop ((⟨91, true⟩ : S51) :: tl).length ((⟨91, true⟩ : S51) :: (tl ++ rest)) = rest := fun tl => by
   show List.drop _ (((⟨91, true⟩ : S51) :: tl) ++ rest) = rest
   exact List.drop_left
  show x :: compS n (List.drop _ _) = _
  rw [D]
 ·
  rw [if_neg e4] at hv'
  by_cases e5 : x.f2 = true
  ·
   rw [if_pos e5] at hv'; exact absurd hv' (by simp)
  ·
   rw [if_neg e5] at hv'
   by_cases e6 : x.f3.length > 0
   ·
    rw [if_pos e6] at hv'; exact absurd hv' (by simp)
   ·
    rw [if_neg e6] at hv'
    have h3 : x.f3 = [] := List.eq_nil_of_length_eq_zero (by omega)
    have h2 : x.f2 = false := Bool.eq_false_iff.mpr e5
    by_cases e1 : x.f0 = 1
    ·
     rw [if_pos e1, decide_eq_true_eq] at hv'
     have hbl : bl x.f1 = [bt x.f1 0] := by
      have h0 := bl_drop x.f1 0 (by omega)
      rw [List.drop_zero, bl_done x.f1 1 (by omega)] at h0
      exact h0
     have hr := bt_range x.f1 0
     have hs : strOfNums [bt x.f1 0] = x.f1 := bl_inj (by rw [bl_str1 _ hr.1 (by omega), hbl])
     have ux : PBx (⟨bt x.f1 0, false⟩ : S51) = x := by
      show (⟨1, strOfNums [bt x.f1 0], false, []⟩ : S35) = x
      rw [hs, ← e1, ← h2, ← h3]
     have ee : elsS (runIt x) = [(⟨bt x.f1 0, false⟩ : S51)] := by
      rw [show runIt x = [(⟨x.f1, 1⟩ : S47)] from if_pos e1, elsS_cons, show els ⟨x.f1, 1⟩ = (bl x.f1).map (elOf false) from if_pos (.inr (.inl rfl)), hbl]
      rfl
     rw [ee]
     show compS (n + 1) ((⟨bt x.f1 0, false⟩ : S51) :: rest) = _
     rw [compS_cons, if_neg (by unfold isA; simp), if_neg (by unfold isA; simp), if_neg (by unfold isA; simp), ux]
    ·
     rw [if_neg e1, Bool.and_eq_true, decide_eq_true_eq, Bool.or_eq_true, decide_eq_true_eq, decide_eq_true_eq] at hv'
     have hx1 := size_nil _ hv'.1
     rcases hv'.2 with e2 | e2
     ·
      have ux : (⟨2, (⟨#[]⟩ : ByteArray), false, []⟩ : S35) = x := by rw [← hx1, ← e2, ← h2, ← h3]
      rw [show runIt x = _ from (if_neg e1).trans (if_pos e2)]
      show compS (n + 1) ((⟨63, true⟩ : S51) :: rest) = _
      rw [compS_cons, if_neg (by unfold isA; decide), if_pos (show isA (⟨63, true⟩ : S51) 63 = true from rfl), ux]
     ·
      have ux : (⟨3, (⟨#[]⟩ : ByteArray), false, []⟩ : S35) = x := by rw [← hx1, ← e2, ← h2, ← h3]
      rw [show runIt x = _ from (if_neg e1).trans ((if_neg (by omega)).trans (if_pos e2))]
      show compS (n + 1) ((⟨42, true⟩ : S51) :: rest) = _
      rw [compS_cons, if_pos (show isA (⟨42, true⟩ : S51) 42 = true from rfl), ux]
theorem it_pos (x : S35) (h : GoodX x) (hv : validS x = true) : 1 ≤ (elsS (runIt x)).length := by
 rcases Nat.eq_zero_or_pos (elsS (runIt x)).length with h0 | h0
 ·
  have := comp_it x h hv 0 []
  rw [List.eq_nil_of_length_eq_zero h0] at this
  exact absurd this (by simp [compS])
 ·
  exact h0
theorem comp_runs (p : List S35) (hp : ∀ x ∈ p, GoodX x ∧ validS x = true) : ∀ n, (elsS (runsS p)).length < n → compS n (elsS (runsS p)) = p := by
 induction p with
 | nil =>
  intro n hn
  obtain ⟨n, rfl⟩ : ∃ k, n = k + 1 := ⟨n - 1, by omega⟩
  rfl
 | cons x p ih =>
  intro n hn
  have hx := hp x (List.mem_cons_self ..)
  have e : elsS (runsS (x :: p)) = elsS (runIt x) ++ elsS (runsS p) := by
   rw [show runsS (x :: p) = runIt x ++ runsS p from List.flatMap_cons, elsS_app]
  rw [e, List.length_append] at hn
  have := it_pos x hx.1 hx.2
  obtain ⟨n, rfl⟩ : ∃ k, n = k + 1 := ⟨n - 1, by omega⟩
  rw [e, comp_it x hx.1 hx.2 n, ih (fun y hy => hp y (List.mem_cons_of_mem _ hy)) n (by omega)]
end Go.Proofs.Ytbekhjcnmifnnaa.Pure
