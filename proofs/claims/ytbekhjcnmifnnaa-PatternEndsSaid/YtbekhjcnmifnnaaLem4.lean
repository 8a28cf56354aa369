/- Plain lemmas for chapter 04: the reference's validity and its rows of ends come to the same. No conditions beyond those written at each. -/
import Derived.Test.YtbekhjcnmifnnaaLem3
import Derived.Test.YtbekhjcnmifnnaaLemM
import Derived.Test.YtbekhjcnmifnnaaQ45
set_option linter.unusedVariables false
set_option linter.unusedSimpArgs false
namespace Go.Proofs.Ytbekhjcnmifnnaa.Pure
open Go.RowKit Go.Proofs.Ytbekhjcnmifnnaa.Q Go.Proofs.YtbekhjcnmifnnaaW.PrintWords Go.Proofs.YtbekhjcnmifnnaaW.PrintLast

/-! ### the reference's validity -/
theorem rasc_l0 (l : List S58) (hl : l.length ≤ 100000) (hr : ∀ s ∈ l, InR s) (d : Nat) : ∀ i : Nat, i ≤ l.length → l.length - i = d →
    Ev (fun k => jobshellref04_ascending.l0 k l i) (ascS (prevS l i) (l.drop i)) := by
  induction d with
  | zero =>
    intro i hi hd
    have h : ¬ i < l.length := by omega
    refine ev_at1 fun k => ?_
    simp only [jobshellref04_ascending.l0]
    rw [if_neg (lift_not_lt h), List.drop_eq_nil_of_le (by omega)]
    cases prevS l i <;> rfl
  | succ d ih =>
    intro i hi hd
    have hlt : i < l.length := by omega
    have I := ih (i + 1) hlt (by omega)
    have hn12 : l.length ≤ 1000000000000 := by omega
    have hm := hr _ (List.getElem_mem hlt)
    rw [asc_lt hlt]
    by_cases h1 : l[i].f0 > l[i].f1
    · have h1' : ¬ l[i].f0 ≤ l[i].f1 := by omega
      rw [decide_eq_false h1', Bool.false_and]
      refine ev_at1 fun k => ?_
      simp only [jobshellref04_ascending.l0]
      rw [if_pos (lift_lt hlt), if_pos (nn i), rd58 l i hlt, if_pos h1]
    · have h1' : l[i].f0 ≤ l[i].f1 := by omega
      rw [decide_eq_true h1', Bool.true_and]
      cases i with
      | zero =>
        rw [prevS_zero]
        simp only [Bool.true_and]
        refine Ev.step (fun k => ?_) I
        simp only [jobshellref04_ascending.l0]
        rw [if_pos (lift_lt hlt), if_pos (nn 0), rd58 l 0 hlt, if_neg h1, if_neg (show ¬ ((0 : Nat) : Int) > 0 by decide), w64n hi hn12]
      | succ i =>
        have hlt' : i < l.length := by omega
        have hm' := hr _ (List.getElem_mem hlt')
        have p0 : ((i + 1 : Nat) : Int) > 0 := by omega
        have e1 := wmn (i := i) (by omega)
        rw [prevS_succ l i hlt']
        simp only
        have w1 : wrap64 (l[i + 1]'hlt).f0 = (l[i + 1]'hlt).f0 := w8 hm.1 hm.2.1
        have w2 : wrap64 (l[i]'hlt').f1 = (l[i]'hlt').f1 := w8 hm'.2.2.1 hm'.2.2.2
        have w3 : wrap64 ((l[i]'hlt').f1 + 1) = (l[i]'hlt').f1 + 1 := w8s hm'.2.2.1 hm'.2.2.2
        by_cases h2 : (l[i + 1]'hlt).f0 ≤ (l[i]'hlt').f1 + 1
        · have h2' : ¬ (l[i]'hlt').f1 + 1 < (l[i + 1]'hlt).f0 := Int.not_lt.mpr h2
          rw [decide_eq_false h2', Bool.false_and]
          refine ev_at1 fun k => ?_
          simp only [jobshellref04_ascending.l0, e1]
          rw [if_pos (lift_lt hlt), if_pos (nn (i + 1)), rd58 l (i + 1) hlt, if_neg h1, if_pos p0, if_pos (nn i), if_pos (lift_lt hlt'), rd58 l i hlt', w1, w2, w3, if_pos h2]
        · have h2' : (l[i]'hlt').f1 + 1 < (l[i + 1]'hlt).f0 := Int.not_le.mp h2
          rw [decide_eq_true h2', Bool.true_and]
          refine Ev.step (fun k => ?_) I
          simp only [jobshellref04_ascending.l0, e1]
          rw [if_pos (lift_lt hlt), if_pos (nn (i + 1)), rd58 l (i + 1) hlt, if_neg h1, if_pos p0, if_pos (nn i), if_pos (lift_lt hlt'), rd58 l i hlt', w1, w2, w3, if_neg h2, w64n hi hn12]
theorem rasc_ev (l : List S58) (hl : l.length ≤ 100000) (hr : ∀ s ∈ l, InR s) : Ev (fun k => jobshellref04_ascending.f k l) (ascS none l) := by
  have := rasc_l0 l hl hr _ 0 (Nat.zero_le _) rfl
  rw [prevS_zero, List.drop_zero] at this
  exact this
theorem size1 (s : ByteArray) : ((s.size : Int) = 1) = (s.size = 1) := by apply propext; omega
theorem size0 (s : ByteArray) : ((s.size : Int) = 0) = (s.size = 0) := by apply propext; omega
theorem len0 (l : List S58) : ((l.length : Int) > 0) = (l.length > 0) := by apply propext; omega
/-- One item of the reference's Valid. -/
theorem rvalid_item (x : S35) (h : GoodX x) (g : Nat → Option Bool) (R : Bool) (I : Ev g R) : Ev (fun k => if x.f0 = 1 then (if x.f0 < 1 then (some false) else (if x.f0 > 4 then (some false) else (if (x.f1.size : Int) = 1 then (if x.f0 = 4 then ((jobshellref04_ascending.f k x.f3).bind fun t513 => (if t513 = true then g k else (some false))) else (if x.f2 = true then (some false) else (if (x.f3.length : Int) > 0 then (some false) else ((jobshellref04_ascending.f k x.f3).bind fun t514 => (if t514 = true then g k else (some false)))))) else (some false)))) else (if x.f0 < 1 then (some false) else (if x.f0 > 4 then (some false) else (if (x.f1.size : Int) = 0 then (if x.f0 = 4 then ((jobshellref04_ascending.f k x.f3).bind fun t515 => (if t515 = true then g k else (some false))) else (if x.f2 = true then (some false) else (if (x.f3.length : Int) > 0 then (some false) else ((jobshellref04_ascending.f k x.f3).bind fun t516 => (if t516 = true then g k else (some false)))))) else (some false))))) (validS x && R) := by
  have A := rasc_ev x.f3 h.len h.each
  have G : Ev (fun k => (jobshellref04_ascending.f k x.f3).bind fun t => if t = true then g k else some false) (ascS none x.f3 && R) := by
    refine Ev.bind A ?_
    cases ascS none x.f3 with
    | true => simpa using I
    | false => simpa using ev_const
  have hnil : ¬ x.f3.length > 0 → ascS none x.f3 = true := by
    intro h
    have : x.f3 = [] := List.eq_nil_of_length_eq_zero (by omega)
    rw [this]
    rfl
  simp only [size1, size0, len0]
  unfold validS
  by_cases e4 : x.f0 = 4
  · have e1 : ¬ x.f0 = 1 := by omega
    have l1 : ¬ x.f0 < 1 := by omega
    have l4 : ¬ x.f0 > 4 := by omega
    simp only [if_neg e1, if_neg l1, if_neg l4, if_pos e4]
    by_cases e : x.f1.size = 0
    · simp only [if_pos e, decide_eq_true e, Bool.true_and]
      exact G
    · simp only [if_neg e, decide_eq_false e, Bool.false_and]
      exact ev_const
  · simp only [if_neg e4]
    by_cases e1 : x.f0 = 1
    · have l1 : ¬ x.f0 < 1 := by omega
      have l4 : ¬ x.f0 > 4 := by omega
      simp only [if_pos e1, if_neg l1, if_neg l4]
      by_cases e5 : x.f2 = true
      · simp only [if_pos e5, Bool.false_and]
        by_cases e : x.f1.size = 1
        · simp only [if_pos e]; exact ev_const
        · simp only [if_neg e]; exact ev_const
      · simp only [if_neg e5]
        by_cases e6 : x.f3.length > 0
        · simp only [if_pos e6, Bool.false_and]
          by_cases e : x.f1.size = 1
          · simp only [if_pos e]; exact ev_const
          · simp only [if_neg e]; exact ev_const
        · simp only [if_neg e6]
          rw [hnil e6, Bool.true_and] at G
          by_cases e : x.f1.size = 1
          · simp only [if_pos e, decide_eq_true e, Bool.true_and]; exact G
          · simp only [if_neg e, decide_eq_false e, Bool.false_and]; exact ev_const
    · simp only [if_neg e1]
      by_cases l1 : x.f0 < 1
      · have e2 : ¬ x.f0 = 2 := by omega
        have e3 : ¬ x.f0 = 3 := by omega
        simp only [if_pos l1, decide_eq_false e2, decide_eq_false e3, Bool.or_self, Bool.and_false]
        refine ev_eq ev_const ?_
        split
        · rfl
        · split <;> rfl
      · simp only [if_neg l1]
        by_cases l4 : x.f0 > 4
        · have e2 : ¬ x.f0 = 2 := by omega
          have e3 : ¬ x.f0 = 3 := by omega
          simp only [if_pos l4, decide_eq_false e2, decide_eq_false e3, Bool.or_self, Bool.and_false]
          refine ev_eq ev_const ?_
          split
          · rfl
          · split <;> rfl
        · simp only [if_neg l4]
          have e23 : (decide (x.f0 = 2) || decide (x.f0 = 3)) = true := by
            by_cases e2 : x.f0 = 2
            · rw [decide_eq_true e2]; rfl
            · rw [decide_eq_true (by omega : x.f0 = 3), Bool.or_true]
          rw [e23, Bool.and_true]
          by_cases e5 : x.f2 = true
          · simp only [if_pos e5, Bool.false_and]
            by_cases e : x.f1.size = 0
            · simp only [if_pos e]; exact ev_const
            · simp only [if_neg e]; exact ev_const
          · simp only [if_neg e5]
            by_cases e6 : x.f3.length > 0
            · simp only [if_pos e6, Bool.false_and]
              by_cases e : x.f1.size = 0
              · simp only [if_pos e]; exact ev_const
              · simp only [if_neg e]; exact ev_const
            · simp only [if_neg e6]
              rw [hnil e6, Bool.true_and] at G
              by_cases e : x.f1.size = 0
              · simp only [if_pos e, decide_eq_true e, Bool.true_and]; exact G
              · simp only [if_neg e, decide_eq_false e, Bool.false_and]; exact ev_const
theorem rvalid_l0 (p : List S35) (hp : Good p) (d : Nat) : ∀ i : Nat, i ≤ p.length → p.length - i = d → Ev (fun k => jobshellref04_Valid.l0 k p i) ((p.drop i).all validS) := by
  have hn12 : p.length ≤ 1000000000000 := Nat.le_trans hp.len (by decide)
  induction d with
  | zero =>
    intro i hi hd
    have h : ¬ i < p.length := by omega
    refine ev_at1 fun k => ?_
    simp only [jobshellref04_Valid.l0]
    rw [if_neg (lift_not_lt h), List.drop_eq_nil_of_le (by omega)]
    rfl
  | succ d ih =>
    intro i hi hd
    have hlt : i < p.length := by omega
    have I := ih (i + 1) hlt (by omega)
    rw [List.drop_eq_getElem_cons hlt, List.all_cons]
    refine Ev.step (fun k => ?_) (rvalid_item p[i] (hp.x (List.getElem_mem hlt)) _ _ I)
    simp only [jobshellref04_Valid.l0]
    rw [if_pos (lift_lt hlt), if_pos (nn i), rd35 p i hlt, w64n hi hn12]
theorem rvalid_ev (p : List S35) (hp : Good p) : Ev (fun k => jobshellref04_Valid.f k p) (p.all validS) := by
  have := rvalid_l0 p hp _ 0 (Nat.zero_le _) rfl
  rwa [List.drop_zero] at this

/-! ### the rows of ends -/
theorem in_l0 (c : Int) (l : List S58) (hl : l.length ≤ 100000) (d : Nat) : ∀ i : Nat, i ≤ l.length → l.length - i = d → Ev (fun k => jobshellref04_in.l0 k l c i) (inS (l.drop i) c) := by
  have hn12 : l.length ≤ 1000000000000 := by omega
  induction d with
  | zero =>
    intro i hi hd
    have h : ¬ i < l.length := by omega
    refine ev_at1 fun k => ?_
    simp only [jobshellref04_in.l0]
    rw [if_neg (lift_not_lt h), List.drop_eq_nil_of_le (by omega)]
    rfl
  | succ d ih =>
    intro i hi hd
    have hlt : i < l.length := by omega
    have I := ih (i + 1) hlt (by omega)
    rw [List.drop_eq_getElem_cons hlt]
    have hin : inS (l[i] :: l.drop (i + 1)) c = ((decide (l[i].f0 ≤ c) && decide (c ≤ l[i].f1)) || inS (l.drop (i + 1)) c) := rfl
    rw [hin]
    by_cases h1 : l[i].f0 ≤ c
    · by_cases h2 : c ≤ l[i].f1
      · rw [decide_eq_true h1, decide_eq_true h2]
        refine ev_at1 fun k => ?_
        simp only [jobshellref04_in.l0]
        rw [if_pos (lift_lt hlt), if_pos (nn i), rd58 l i hlt, if_pos h1, if_pos h2]
        rfl
      · rw [decide_eq_false h2, Bool.and_false, Bool.false_or]
        refine Ev.step (fun k => ?_) I
        simp only [jobshellref04_in.l0]
        rw [if_pos (lift_lt hlt), if_pos (nn i), rd58 l i hlt, if_pos h1, if_neg h2, w64n hi hn12]
    · rw [decide_eq_false h1, Bool.false_and, Bool.false_or]
      refine Ev.step (fun k => ?_) I
      simp only [jobshellref04_in.l0]
      rw [if_pos (lift_lt hlt), if_pos (nn i), rd58 l i hlt, if_neg h1, w64n hi hn12]
theorem in_ev (c : Int) (l : List S58) (hl : l.length ≤ 100000) : Ev (fun k => jobshellref04_in.f k l c) (inS l c) := by
  have := in_l0 c l hl _ 0 (Nat.zero_le _) rfl
  rwa [List.drop_zero] at this
theorem takes_ev (x : S35) (c : Int) (h : GoodX x) (hv : validS x = true) (h3 : x.f0 ≠ 3) : Ev (fun k => jobshellref04_takes.f k x.f0 x.f1 x.f2 x.f3 c) (oneS x c) := by
  unfold jobshellref04_takes.f oneS
  by_cases e1 : x.f0 = 1
  · have := valid_one hv e1
    have q : 0 < (x.f1.size : Int) := by omega
    simp only [if_pos e1, if_pos q]
    exact ev_const
  · simp only [if_neg e1]
    by_cases e4 : x.f0 = 4
    · have e2 : ¬ x.f0 = 2 := by omega
      simp only [if_pos e4, if_neg e2]
      exact Ev.bind (in_ev c x.f3 h.len) ev_const
    · have e2 : x.f0 = 2 := by
        unfold validS at hv
        rw [if_neg e4, if_neg e1] at hv
        split at hv
        · exact absurd hv (by simp)
        · split at hv
          · exact absurd hv (by simp)
          · simp only [Bool.and_eq_true, Bool.or_eq_true, decide_eq_true_eq] at hv
            rcases hv.2 with h | h
            · exact h
            · exact absurd h h3
      simp only [if_neg e4, if_pos e2]
      exact ev_const
/-- A row as far as it is told. -/
def rowT (P : Nat → Bool) (n k : Nat) : List Bool := (List.range (n + 1)).map fun j => decide (j < k) && P j
theorem rowT_len (P : Nat → Bool) (n k : Nat) : (rowT P n k).length = n + 1 := by simp [rowT]
theorem rowT_get (P : Nat → Bool) (n k j : Nat) (h : j ≤ n) : (rowT P n k)[j]? = some (decide (j < k) && P j) := by
  simp [rowT, List.getElem?_range (by omega : j < n + 1)]
theorem rowT_rd (P : Nat → Bool) (n k j : Nat) (h : j ≤ n) : rdOf false (rowT P n k) (j : Int) = (decide (j < k) && P j) := by
  unfold rdOf
  rw [Int.toNat_natCast, List.getD_eq_getElem?_getD, rowT_get P n k j h]
  rfl
theorem rowT_set (P : Nat → Bool) (n k : Nat) (h : k ≤ n) (b : Bool) (e : b = P k) : (rowT P n k).set k b = rowT P n (k + 1) := by
  subst e
  apply List.ext_getElem?
  intro j
  rw [List.getElem?_set, rowT_len]
  by_cases hj : j ≤ n
  · rw [rowT_get _ _ _ _ hj, rowT_get _ _ _ _ hj]
    by_cases hk : k = j
    · subst hk
      rw [if_pos rfl, if_pos (by omega), decide_eq_true (by omega : k < k + 1), Bool.true_and]
    · rw [if_neg hk]
      have : decide (j < k + 1) = decide (j < k) := by
        by_cases h1 : j < k
        · rw [decide_eq_true h1, decide_eq_true (by omega)]
        · rw [decide_eq_false h1, decide_eq_false (by omega)]
      rw [this]
  · have e1 : (rowT P n k)[j]? = none := by rw [List.getElem?_eq_none_iff, rowT_len]; omega
    have e2 : (rowT P n (k + 1))[j]? = none := by rw [List.getElem?_eq_none_iff, rowT_len]; omega
    rw [e1, e2, if_neg (by omega)]
theorem rowT_zero (P : Nat → Bool) (n : Nat) : List.replicate (n + 1) false = rowT P n 0 := by
  apply List.ext_getElem?
  intro j
  by_cases hj : j ≤ n
  · rw [rowT_get _ _ _ _ hj, List.getElem?_replicate, if_pos (by omega)]
    simp
  · rw [List.getElem?_replicate, if_neg (by omega)]
    have e1 : (rowT P n 0)[j]? = none := by rw [List.getElem?_eq_none_iff, rowT_len]; omega
    rw [e1]
theorem row_star (q : List S35) (x : S35) (h3 : x.f0 = 3) (t : List Int) (k : Nat) (hk : k < t.length) : M (q ++ [x]) (t.take (k + 1)) = (M q (t.take (k + 1)) || M (q ++ [x]) (t.take k)) := by
  have B : ∀ u, M (q ++ [x]) u = true ↔ ∃ i, i ≤ u.length ∧ M q (u.take i) = true := by
    intro u
    rw [M_app]
    have hx : ∀ v, M [x] v = true := fun v => by
      rw [show M [x] v = stars (M []) v from if_pos h3, stars_iff]
      exact ⟨v.length, Nat.le_refl _, by rw [List.drop_length]; rfl⟩
    constructor
    · rintro ⟨i, hi, h1, _⟩; exact ⟨i, hi, h1⟩
    · rintro ⟨i, hi, h1⟩; exact ⟨i, hi, h1, hx _⟩
  rw [Bool.eq_iff_iff, Bool.or_eq_true, B, B]
  have l1 : (t.take (k + 1)).length = k + 1 := by rw [List.length_take]; omega
  have l0 : (t.take k).length = k := by rw [List.length_take]; omega
  rw [l1, l0]
  constructor
  · rintro ⟨i, hi, h⟩
    by_cases e : i = k + 1
    · subst e
      rw [List.take_of_length_le (by rw [l1]; exact Nat.le_refl _)] at h
      exact .inl h
    · right
      refine ⟨i, by omega, ?_⟩
      rw [List.take_take] at h ⊢
      have e1 : min i (k + 1) = i := by omega
      have e2 : min i k = i := by omega
      rw [e1] at h
      rwa [e2]
  · rintro (h | ⟨i, hi, h⟩)
    · exact ⟨k + 1, Nat.le_refl _, by rwa [List.take_of_length_le (by rw [l1]; exact Nat.le_refl _)]⟩
    · refine ⟨i, by omega, ?_⟩
      rw [List.take_take] at h ⊢
      have e1 : min i (k + 1) = i := by omega
      have e2 : min i k = i := by omega
      rw [e2] at h
      rwa [e1]
theorem row_star0 (q : List S35) (x : S35) (h3 : x.f0 = 3) : M (q ++ [x]) [] = M q [] := by
  rw [Bool.eq_iff_iff, M_app]
  constructor
  · rintro ⟨i, hi, h1, h2⟩
    rwa [List.take_nil] at h1
  · intro h
    refine ⟨0, Nat.le_refl _, h, ?_⟩
    rw [show M [x] _ = stars (M []) _ from if_pos h3]
    rfl
theorem row_one (q : List S35) (x : S35) (h3 : x.f0 ≠ 3) (t : List Int) (k : Nat) (hk : k < t.length) : M (q ++ [x]) (t.take (k + 1)) = (M q (t.take k) && oneS x t[k]) := by
  rw [Bool.eq_iff_iff, Bool.and_eq_true, M_app]
  have l1 : (t.take (k + 1)).length = k + 1 := by rw [List.length_take]; omega
  rw [l1]
  have hd : ∀ i, i ≤ k + 1 → ((t.take (k + 1)).drop i).length = k + 1 - i := fun i hi => by rw [List.length_drop, l1]
  have hk1 : (t.take (k + 1)).drop k = [t[k]] := by
    rw [List.drop_take, List.drop_eq_getElem_cons hk]
    have : k + 1 - k = 1 := by omega
    rw [this]
    rfl
  have ht : (t.take (k + 1)).take k = t.take k := by
    rw [List.take_take]
    have : min k (k + 1) = k := by omega
    rw [this]
  constructor
  · rintro ⟨i, hi, h1, h2⟩
    have hl := hd i hi
    have hi2 : i = k := by
      cases hu : (t.take (k + 1)).drop i with
      | nil =>
        rw [hu, M_none _ _ h3] at h2
        exact absurd h2 (by simp)
      | cons c u =>
        rw [hu, M_one _ _ _ _ h3, Bool.and_eq_true] at h2
        have : u = [] := List.isEmpty_iff.mp h2.2
        rw [hu, this] at hl
        simp at hl
        omega
    subst hi2
    rw [hk1, M_one _ _ _ _ h3, Bool.and_eq_true] at h2
    rw [ht] at h1
    exact ⟨h1, h2.1⟩
  · rintro ⟨h1, h2⟩
    refine ⟨k, by omega, by rw [ht]; exact h1, ?_⟩
    rw [hk1, M_one _ _ _ _ h3, h2]
    rfl
theorem row_one0 (q : List S35) (x : S35) (h3 : x.f0 ≠ 3) : M (q ++ [x]) [] = false := by
  rw [← Bool.not_eq_true, M_app]
  rintro ⟨i, hi, h1, h2⟩
  rw [List.drop_nil, M_none _ _ h3] at h2
  exact absurd h2 (by simp)
end Go.Proofs.Ytbekhjcnmifnnaa.Pure
