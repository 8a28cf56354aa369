/- Plain lemmas for chapter 16: All comes to one function, allS. No conditions beyond those written at each. -/
import Derived.Test.YtgplhdgimckfjaaLem4
import Derived.Test.YtgplhdgimckfjaaQ10
import Derived.Test.YtgplhdgimckfjaaQ17
import Derived.Test.YtgplhdgimckfjaaQ22
set_option linter.unusedVariables false
set_option linter.unusedSimpArgs false
namespace Go.Proofs.Ytgplhdgimckfjaa.Pure
open Go.RowKit Go.Proofs.Ytgplhdgimckfjaa.Q Go.Proofs.YtgplhdgimckfjaaW.PrintWords Go.Proofs.YtgplhdgimckfjaaW.PrintLast

theorem wf_i64 {x : Int} (h : (Lit.int .i64 x).wf = true) : -9223372036854775808 ≤ x ∧ x ≤ 9223372036854775807 := by
  have h2 : IntKind.i64.min = -9223372036854775808 := rfl
  have h3 : IntKind.i64.max = 9223372036854775807 := rfl
  simp only [Lit.wf, Bool.and_eq_true, decide_eq_true_eq, h2, h3] at h
  exact h

/-! the sizes -/
structure Small (a : ByteArray) (l : List ByteArray) : Prop where
  spec : a.size ≤ 41
  len : l.length ≤ 25
  each : ∀ s ∈ l, s.size ≤ 40
theorem Small.a' {a l} (h : Small a l) : a.size ≤ 140737488351232 := Nat.le_trans h.spec (by decide)
theorem Small.l' {a l} (h : Small a l) : l.length ≤ 1000 := Nat.le_trans h.len (by decide)
theorem Small.e' {a l} (h : Small a l) : ∀ s ∈ l, s.size ≤ 1000 := fun s hs => Nat.le_trans (h.each s hs) (by decide)

/-- What is still to be read, from argument j on. -/
def rest (l : List ByteArray) (j : Nat) : Nat := ((l.drop j).map fun s => s.size + 1).sum
theorem rest_step (l : List ByteArray) (j : Nat) (h : j < l.length) : rest l j = (l[j]'h).size + 1 + rest l (j + 1) := by
  unfold rest
  rw [List.drop_eq_getElem_cons h, List.map_cons, List.sum_cons]
theorem rest_le (l : List ByteArray) (j : Nat) : rest l (j + 1) ≤ rest l j := by
  by_cases h : j < l.length
  · rw [rest_step l j h]; omega
  · unfold rest
    rw [List.drop_eq_nil_of_le (by omega), List.drop_eq_nil_of_le (by omega)]
    exact Nat.le_refl _

/-- The states that All comes to. -/
structure Inv (l : List ByteArray) (idx off : Int) : Prop where
  lo : 1 ≤ idx
  hi : idx ≤ (l.length : Int) + 1
  off0 : 0 ≤ off
  arg : 0 < off → idx ≤ (l.length : Int) ∧ off < ((argS l idx).size : Int) ∧ bt (argS l idx) 0 = 45
/-- What is still to be read at a state. -/
def pot (l : List ByteArray) (idx off : Int) : Int := (rest l (idx - 1).toNat : Int) - off
theorem arg_get (l : List ByteArray) (idx : Int) (h1 : 1 ≤ idx) (h2 : idx ≤ (l.length : Int)) : argS l idx = l[(idx - 1).toNat]'(by omega) := by
  unfold argS rdOf
  rw [List.getD_eq_getElem?_getD, List.getElem?_eq_getElem (by omega)]
  rfl
theorem pot_at (l : List ByteArray) (idx off : Int) (h1 : 1 ≤ idx) (h2 : idx ≤ (l.length : Int)) : pot l idx off = ((argS l idx).size : Int) + 1 + pot l (idx + 1) 0 - off := by
  unfold pot
  have e : (idx + 1 - 1).toNat = (idx - 1).toNat + 1 := by omega
  rw [e, rest_step l (idx - 1).toNat (by omega), ← arg_get l idx h1 h2]
  omega
theorem pot_step (l : List ByteArray) (idx : Int) (h1 : 1 ≤ idx) : pot l (idx + 1) 0 ≤ pot l idx 0 := by
  unfold pot
  have e : (idx + 1 - 1).toNat = (idx - 1).toNat + 1 := by omega
  rw [e]
  have := rest_le l (idx - 1).toNat
  omega
theorem pot_pos (l : List ByteArray) (idx off : Int) (h : Inv l idx off) : 0 ≤ pot l idx off := by
  by_cases h0 : 0 < off
  · obtain ⟨h1, h2, _⟩ := h.arg h0
    rw [pot_at l idx off h.lo h1]
    have : 0 ≤ pot l (idx + 1) 0 := by unfold pot; omega
    omega
  · have := h.off0
    unfold pot
    omega

/-- What an option does with the state. -/
theorem opt_next (kt : Bool × Bool) (si more : Bool) (c arg next : ByteArray) (n : Nat) (idx off : Int) :
    (optP kt si more c arg next n idx off).2.2.1 ≠ 1 ∧
    (((optP kt si more c arg next n idx off).2.2.2.2.1 = idx ∧ (optP kt si more c arg next n idx off).2.2.2.2.2 = off + 1 ∧ more = true) ∨
     ((optP kt si more c arg next n idx off).2.2.2.2.1 = idx + 1 ∧ (optP kt si more c arg next n idx off).2.2.2.2.2 = 0) ∨
     ((optP kt si more c arg next n idx off).2.2.2.2.1 = idx + 2 ∧ (optP kt si more c arg next n idx off).2.2.2.2.2 = 0 ∧ idx < (n : Int))) := by
  obtain ⟨k1, k2⟩ := kt
  unfold optP
  cases k1 <;> cases k2 <;> cases si <;> cases more <;> simp only [Bool.false_eq_true, if_false, if_true] <;> (try split) <;> simp_all

/-- At a state that All comes to: an end, or an option. -/
theorem next_at (a : ByteArray) (l : List ByteArray) (idx off : Int) (hv : vS a = 0) (h : Inv l idx off) :
    (∃ i', nextS a l idx off = (qm, em, 1, em, i', 0, 0) ∧ idx ≤ i' ∧ i' ≤ (l.length : Int) + 1 ∧ (i' = idx ∨ idx ≤ (l.length : Int) ∧ (argS l idx).toList = ([45, 45] : List UInt8)) ∧ off = 0) ∨
    (∃ o', nextS a l idx off = ex (optS a l idx o') ∧ off ≤ o' ∧ 1 ≤ o' ∧ idx ≤ (l.length : Int) ∧ o' < ((argS l idx).size : Int) ∧ bt (argS l idx) 0 = 45 ∧ (off = 0 → o' = 1) ∧ (0 < off → o' = off)) := by
  have hlo := h.lo
  have hhi := h.hi
  have hof := h.off0
  unfold nextS
  rw [if_neg (Classical.not_not.mpr hv)]
  have h1 : ¬ (idx < 1 ∨ off < 0 ∨ (0 < off ∧ ((l.length : Int) < idx ∨ ((argS l idx).size : Int) ≤ off))) := by
    rintro (h1 | h1 | ⟨h1, h2⟩)
    · omega
    · omega
    · obtain ⟨h3, h4, _⟩ := h.arg h1
      omega
  rw [if_neg h1]
  by_cases h0 : off = 0
  · rw [if_pos h0]
    by_cases h2 : (l.length : Int) < idx ∨ (argS l idx).size < 2 ∨ bt (argS l idx) 0 ≠ 45
    · rw [if_pos h2, h0]
      exact .inl ⟨idx, rfl, by omega, hhi, .inl rfl, rfl⟩
    · rw [if_neg h2]
      have h3 : idx ≤ (l.length : Int) := Int.not_lt.mp fun h => h2 (.inl h)
      have h4 : ¬ (argS l idx).size < 2 := fun h => h2 (.inr (.inl h))
      have h5 : bt (argS l idx) 0 = 45 := Classical.not_not.mp fun h => h2 (.inr (.inr h))
      by_cases h6 : (argS l idx).toList = ([45, 45] : List UInt8)
      · rw [if_pos h6]
        exact .inl ⟨idx + 1, rfl, by omega, by omega, .inr ⟨h3, h6⟩, h0⟩
      · rw [if_neg h6]
        exact .inr ⟨1, rfl, by omega, by omega, h3, by omega, h5, fun _ => rfl, fun h => by omega⟩
  · rw [if_neg h0]
    have h2 : 0 < off := by omega
    obtain ⟨h3, h4, h5⟩ := h.arg h2
    exact .inr ⟨off, rfl, by omega, by omega, h3, h4, h5, fun h => by omega, fun _ => rfl⟩

/-- An option leads on. -/
theorem opt_on (a : ByteArray) (l : List ByteArray) (idx off o' : Int) (h : Inv l idx off) (h1 : off ≤ o') (h2 : 1 ≤ o') (h3 : idx ≤ (l.length : Int)) (h4 : o' < ((argS l idx).size : Int)) (h5 : bt (argS l idx) 0 = 45) :
    (optS a l idx o').2.2.1 ≠ 1 ∧ Inv l (optS a l idx o').2.2.2.2.1 (optS a l idx o').2.2.2.2.2 ∧ pot l (optS a l idx o').2.2.2.2.1 (optS a l idx o').2.2.2.2.2 < pot l idx off ∧
    (idx < (optS a l idx o').2.2.2.2.1 ∨ (optS a l idx o').2.2.2.2.1 = idx ∧ off < (optS a l idx o').2.2.2.2.2) := by
  have hlo := h.lo
  have hof := h.off0
  obtain ⟨g1, g2⟩ := opt_next (lookL (lets a) (bt (argS l idx) o')) (sil a) (moreS (argS l idx) o') (chS (argS l idx) o') (argS l idx) (rdOf ByteArray.empty l idx) l.length idx o'
  change (optS a l idx o').2.2.1 ≠ 1 at g1
  change ((optS a l idx o').2.2.2.2.1 = idx ∧ (optS a l idx o').2.2.2.2.2 = o' + 1 ∧ moreS (argS l idx) o' = true) ∨
     ((optS a l idx o').2.2.2.2.1 = idx + 1 ∧ (optS a l idx o').2.2.2.2.2 = 0) ∨
     ((optS a l idx o').2.2.2.2.1 = idx + 2 ∧ (optS a l idx o').2.2.2.2.2 = 0 ∧ idx < (l.length : Int)) at g2
  generalize (optS a l idx o').2.2.2.2.1 = i2 at g2 ⊢
  generalize (optS a l idx o').2.2.2.2.2 = o2 at g2 ⊢
  refine ⟨g1, ?_⟩
  have p0 := pot_at l idx off hlo h3
  rcases g2 with ⟨rfl, rfl, hm⟩ | ⟨rfl, rfl⟩ | ⟨rfl, rfl, hn⟩
  · have hm' : o' + 1 < ((argS l i2).size : Int) := by unfold moreS at hm; simpa using hm
    refine ⟨⟨hlo, by omega, by omega, fun _ => ⟨h3, hm', h5⟩⟩, ?_, .inr ⟨rfl, by omega⟩⟩
    have p1 := pot_at l i2 (o' + 1) hlo h3
    omega
  · refine ⟨⟨by omega, by omega, by omega, fun h => by omega⟩, ?_, .inl (by omega)⟩
    omega
  · refine ⟨⟨by omega, by omega, by omega, fun h => by omega⟩, ?_, .inl (by omega)⟩
    have p1 := pot_step l (idx + 1) (by omega)
    have e : idx + 1 + 1 = idx + 2 := by omega
    rw [e] at p1
    omega

/-- One option as All lists it. -/
def optOf (r : NextT) : S32 := ⟨r.1, r.2.1, r.2.2.1, r.2.2.2.1⟩
/-- The list, and the number, from a state on. -/
def runS (a : ByteArray) (l : List ByteArray) : Nat → Int → Int → List S32 × Int
  | 0, _, _ => ([], 0)
  | m + 1, idx, off =>
    let r := nextS a l idx off
    if r.2.2.1 = 1 then ([], r.2.2.2.2.1 - 1) else (optOf r :: (runS a l m r.2.2.2.2.1 r.2.2.2.2.2.1).1, (runS a l m r.2.2.2.2.1 r.2.2.2.2.2.1).2)

theorem run_len (a : ByteArray) (l : List ByteArray) (hv : vS a = 0) (m : Nat) : ∀ idx off, Inv l idx off → (((runS a l m idx off).1.length : Nat) : Int) ≤ pot l idx off := by
  induction m with
  | zero =>
    intro idx off h
    have := pot_pos l idx off h
    simp only [runS, List.length_nil]
    omega
  | succ m ih =>
    intro idx off h
    rcases next_at a l idx off hv h with ⟨i', e, _⟩ | ⟨o', e, h1, h2, h3, h4, h5, _⟩
    · have := pot_pos l idx off h
      simp only [runS, e, if_true, List.length_nil]
      omega
    · obtain ⟨g1, g2, g3, _⟩ := opt_on a l idx off o' h h1 h2 h3 h4 h5
      have I := ih _ _ g2
      simp only [runS, e]
      have g1' : ¬ (ex (optS a l idx o')).2.2.1 = 1 := g1
      rw [if_neg g1']
      simp only [List.length_cons, ex]
      omega

theorem all_l0 (a : ByteArray) (l : List ByteArray) (hs : Small a l) (hv : vS a = 0) (m : Nat) : ∀ (idx off : Int) (acc : List S32), Inv l idx off → pot l idx off < (m : Int) → acc.length + m ≤ 10000 →
    Ev (fun k => getopts_All.l0 k a l acc idx off) (acc ++ (runS a l m idx off).1, (runS a l m idx off).2, 0) := by
  induction m with
  | zero =>
    intro idx off acc h hp _
    have := pot_pos l idx off h
    exact absurd hp (by omega)
  | succ m ih =>
    intro idx off acc h hp ha
    have hlo := h.lo
    have hhi := h.hi
    have hof := h.off0
    have hlen := hs.len
    have hoff : off ≤ 1000 := by
      by_cases h0 : 0 < off
      · have := h.arg h0
        have h6 := arg_small hs.e' idx
        omega
      · omega
    have N := next_ev a l idx off hs.a' hs.l' hs.e' (by omega) (by omega)
    refine Ev.step (fun k => by simp only [getopts_All.l0]; rfl) (Ev.bind N ?_)
    rcases next_at a l idx off hv h with ⟨i', e, k1, k2, _⟩ | ⟨o', e, h1, h2, h3, h4, h5, _⟩
    · have w0 : wrap64 (i' - 1) = i' - 1 := w64 (by omega) (by omega)
      simp only [runS, e, if_true, w0, List.append_nil]
      exact ev_const
    · obtain ⟨g1, g2, g3, _⟩ := opt_on a l idx off o' h h1 h2 h3 h4 h5
      have g1' : ¬ (ex (optS a l idx o')).2.2.1 = 1 := g1
      have hlt : acc.length < 2513169434916 := by omega
      have I := ih _ _ (acc ++ [optOf (ex (optS a l idx o'))]) g2 (by omega) (by simp; omega)
      have e0 : (ex (optS a l idx o')).2.2.2.2.2.2 = 0 := rfl
      simp only [runS, e]
      simp only [if_neg g1', e0, if_true, if_pos hlt]
      simpa [ex, optOf] using I

end Go.Proofs.Ytgplhdgimckfjaa.Pure
