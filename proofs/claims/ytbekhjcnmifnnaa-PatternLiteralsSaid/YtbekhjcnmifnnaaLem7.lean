/- Plain lemmas for chapter 04: the elements of runs, the pattern of inactive elements, Literal, and the bounds of runs. No conditions beyond those written at each. -/
import Derived.Test.YtbekhjcnmifnnaaLem2
import Derived.Test.YtbekhjcnmifnnaaQ2
set_option linter.unusedVariables false
set_option linter.unusedSimpArgs false
namespace Go.Proofs.Ytbekhjcnmifnnaa.Pure
open Go.RowKit Go.Proofs.Ytbekhjcnmifnnaa.Q Go.Proofs.YtbekhjcnmifnnaaW.PrintWords Go.Proofs.YtbekhjcnmifnnaaW.PrintLast

theorem rd47 (xs : List S47) (i : Nat) (h : i < xs.length) : rd_T47 xs (i : Int) = xs[i] := by
 unfold rd_T47
 rw [List.getD_eq_getElem?_getD]
 simp [h]
theorem rd51 (xs : List S51) (i : Nat) (h : i < xs.length) : rd_T51 xs (i : Int) = xs[i] := by
 unfold rd_T51
 rw [List.getD_eq_getElem?_getD]
 simp [h]
/-! ### elements -/
def elOf (b : Bool) (c : Int) : S51 := ⟨c, b⟩
def els (r : S47) : List S51 := if r.f1 = 0 ∨ r.f1 = 1 ∨ r.f1 = 2 then (bl r.f0).map (elOf (r.f1 != 1)) else []
def elsS (l : List S47) : List S51 := l.flatMap els
theorem el_l1 (l : List S47) (r : S47) (i : Nat) (hi : i ≤ l.length) (hl : l.length ≤ 1000000) (hs : r.f0.size ≤ 1000000) (R : List S51) (d : Nat) : ∀ (j : Nat) (acc : List S51), j + d = r.f0.size → acc.length + d ≤ 10000000 →
 Ev (fun k => pattern_elements.l0 k (acc ++ ((bl r.f0).drop j).map (elOf (r.f1 != 1))) l (l.length : Int) ((i + 1 : Nat) : Int)) R →
 Ev (fun k => pattern_elements.l1 k acc l (l.length : Int) i (r.f0.size : Int) j r.f0 r.f1) R := by
 have hl12 : l.length ≤ 1000000000000 := by omega
 have hs12 : r.f0.size ≤ 1000000000000 := by omega
 induction d with
 | zero =>
  intro j acc hj ha I
  have h : ¬ j < r.f0.size := by omega
  rw [bl_done _ _ (by omega), List.map_nil, List.append_nil] at I
  refine Ev.step (fun k => ?_) I
  simp only [pattern_elements.l1]
  rw [if_neg (lift_not_lt h), w64n hi hl12]
 | succ d ih =>
  intro j acc hj ha I
  have h : j < r.f0.size := by omega
  have h' : j ≤ r.f0.size := by omega
  have hal : acc.length < 70368744177664 := by omega
  have J := ih (j + 1) (acc ++ [elOf (r.f1 != 1) (bt r.f0 j)]) (by omega) (by rw [List.length_append]; simp only [List.length_singleton]; omega) (by
   rw [bl_drop _ _ h, List.map_cons] at I
   rw [List.append_assoc]
   exact I)
  refine Ev.step (fun k => ?_) J
  simp only [pattern_elements.l1]
  rw [if_pos (lift_lt h), if_pos (nn j), if_pos (lift_lt h), if_pos hal, w64n h' hs12]
  rfl
theorem el_l0 (l : List S47) (hl : l.length ≤ 1000000) (hs : ∀ r ∈ l, r.f0.size ≤ 1000000) (d : Nat) : ∀ (i : Nat) (acc : List S51), i + d = l.length → acc.length + (elsS (l.drop i)).length ≤ 10000000 →
 Ev (fun k => pattern_elements.l0 k acc l (l.length : Int) i) (acc ++ elsS (l.drop i)) := by
 have hl12 : l.length ≤ 1000000000000 := by omega
 induction d with
 | zero =>
  intro i acc hi ha
  have h : ¬ i < l.length := by omega
  have e : elsS (l.drop i) = [] := by rw [List.drop_eq_nil_of_le (by omega)]; rfl
  rw [e, List.append_nil]
  refine ev_at1 fun k => ?_
  simp only [pattern_elements.l0]
  rw [if_neg (lift_not_lt h)]
 | succ d ih =>
  intro i acc hi ha
  have h : i < l.length := by omega
  have h' : i ≤ l.length := by omega
  have e : elsS (l.drop i) = els l[i] ++ elsS (l.drop (i + 1)) := by
   rw [List.drop_eq_getElem_cons h]
   rfl
  rw [e, List.length_append] at ha
  have hsz := hs _ (List.getElem_mem h)
  have T : ∀ b : Bool, els l[i] = [] → b = true → Ev (fun k => pattern_elements.j1 k acc l (l.length : Int) i b l[i].f0 l[i].f1) (acc ++ elsS (l.drop i)) := by
   intro b hb e2
   subst e2
   have J := ih (i + 1) acc (by omega) (by omega)
   rw [e, hb, List.nil_append]
   refine Ev.step (fun k => ?_) J
   simp only [pattern_elements.j1, if_true]
   rw [w64n h' hl12]
  have F : ∀ b : Bool, els l[i] = (bl l[i].f0).map (elOf (l[i].f1 != 1)) → b = false → Ev (fun k => pattern_elements.j1 k acc l (l.length : Int) i b l[i].f0 l[i].f1) (acc ++ elsS (l.drop i)) := by
   intro b hb e2
   subst e2
   have J := ih (i + 1) (acc ++ els l[i]) (by omega) (by rw [List.length_append]; omega)
   have hlen : (els l[i]).length = l[i].f0.size := by rw [hb, List.length_map, bl_len]
   rw [e, ← List.append_assoc]
   refine Ev.step (fun k => ?_) (el_l1 l l[i] i h' hl hsz _ l[i].f0.size 0 acc (by omega) (by omega) (by rw [List.drop_zero, ← hb]; exact J))
   simp only [pattern_elements.j1, Bool.false_eq_true, if_false]
   rfl
  have S : ∀ b : Bool, (∀ k, (if l[i].f1 = 0 then pattern_elements.j1 k acc l (l.length : Int) i false l[i].f0 l[i].f1 else if l[i].f1 = 1 then pattern_elements.j1 k acc l (l.length : Int) i false l[i].f0 l[i].f1 else pattern_elements.j1 k acc l (l.length : Int) i (l[i].f1 != 2) l[i].f0 l[i].f1) = pattern_elements.j1 k acc l (l.length : Int) i b l[i].f0 l[i].f1) →
   Ev (fun k => pattern_elements.j1 k acc l (l.length : Int) i b l[i].f0 l[i].f1) (acc ++ elsS (l.drop i)) → Ev (fun k => pattern_elements.l0 k acc l (l.length : Int) i) (acc ++ elsS (l.drop i)) := by
   intro b hb hE
   refine Ev.step (fun k => ?_) hE
   simp only [pattern_elements.l0]
   rw [if_pos (lift_lt h), if_pos (nn i), if_pos (lift_lt h), rd47 l i h]
   exact hb k
  by_cases h0 : l[i].f1 = 0
  ·
   exact S false (fun k => if_pos h0) (F false (if_pos (.inl h0)) rfl)
  ·
   by_cases h1 : l[i].f1 = 1
   ·
    exact S false (fun k => by rw [if_neg h0, if_pos h1]) (F false (if_pos (.inr (.inl h1))) rfl)
   ·
    by_cases h2 : l[i].f1 = 2
    ·
     have e2 : (l[i].f1 != 2) = false := bne_eq_false_iff_eq.mpr h2
     exact S (l[i].f1 != 2) (fun k => by rw [if_neg h0, if_neg h1]) (F _ (if_pos (.inr (.inr h2))) e2)
    ·
     have e2 : (l[i].f1 != 2) = true := bne_iff_ne.mpr h2
     exact S (l[i].f1 != 2) (fun k => by rw [if_neg h0, if_neg h1]) (T _ (if_neg (by rintro (h | h | h); exact h0 h; exact h1 h; exact h2 h)) e2)
theorem elements_ev (l : List S47) (hl : l.length ≤ 1000000) (hs : ∀ r ∈ l, r.f0.size ≤ 1000000) (ht : (elsS l).length ≤ 10000000) : Ev (fun k => pattern_elements.f k l) (elsS l) := by
 have := el_l0 l hl hs l.length 0 [] (by omega) (by rw [List.drop_zero, List.length_nil]; omega)
 rw [List.drop_zero, List.nil_append] at this
 exact this
/-! ### literal items -/
def PB (c : Int) : S35 := ⟨1, strOfNums [c], false, ([] : List S58)⟩
theorem bl_str1 (c : Int) (h0 : 0 ≤ c) (h1 : c ≤ 255) : bl (strOfNums [c]) = [c] := by
 unfold bl
 rw [strOfNums_data]
 simp only [List.map_cons, List.map_nil, UInt8.toNat_ofNat']
 congr 1
 omega
theorem bl_range (s : ByteArray) : ∀ c ∈ bl s, 0 ≤ c ∧ c ≤ 255 := by
 intro c hc
 obtain ⟨b, _, rfl⟩ := List.mem_map.mp hc
 have := b.toNat_lt
 omega
/-! ### Literal -/
def isLit (x : S35) : Bool := decide (x.f0 = 1) && validS x
def catS (a : ByteArray) (p : List S35) : ByteArray := p.foldl (fun a x => a ++ x.f1) a
def litR (a : ByteArray) (p : List S35) : ByteArray × Bool := if p.all isLit = true then (catS a p, true) else ((⟨#[]⟩ : ByteArray), false)
theorem lit_l0 (p : List S35) (hp : Good p) (d : Nat) : ∀ (i : Nat) (a : ByteArray), i + d = p.length → a.size ≤ i → Ev (fun k => pattern_Literal.l0 k a p (p.length : Int) i) (litR a (p.drop i)) := by
 have hl12 : p.length ≤ 1000000000000 := Nat.le_trans hp.len (by decide)
 induction d with
 | zero =>
  intro i a hi ha
  have h : ¬ i < p.length := by omega
  rw [List.drop_eq_nil_of_le (by omega)]
  refine ev_at1 fun k => ?_
  simp only [pattern_Literal.l0]
  rw [if_neg (lift_not_lt h)]
  rfl
 | succ d ih =>
  intro i a hi ha
  have h : i < p.length := by omega
  have h' : i ≤ p.length := by omega
  have hmem := List.getElem_mem h
  rw [List.drop_eq_getElem_cons h]
  by_cases h1 : (p[i]'h).f0 = 1
  ·
   have V := valid_ev (p[i]'h) (hp.x hmem)
   cases hv : validS (p[i]'h) with
   | true =>
    have hz := valid_one hv h1
    have q : a.size + (p[i]'h).f1.size ≤ 9223372036854775807 := by have := hp.len; omega
    have J := ih (i + 1) (a ++ (p[i]'h).f1) (by omega) (by rw [ByteArray.size_append]; omega)
    have e : litR a (p[i] :: p.drop (i + 1)) = litR (a ++ (p[i]'h).f1) (p.drop (i + 1)) := by
     unfold litR
     rw [List.all_cons]
     have : isLit (p[i]'h) = true := by unfold isLit; rw [decide_eq_true h1, hv]; rfl
     rw [this, Bool.true_and]
     rfl
    rw [hv] at V
    rw [e]
    refine Ev.step (fun k => ?_) (Ev.bind V (f := fun k t256 => (if t256 = true then (if a.size + (p[i]'h).f1.size ≤ 9223372036854775807 then (pattern_Literal.l0 k (a ++ (p[i]'h).f1) p (p.length : Int) (wrap64 ((i : Int) + 1))) else (none)) else (some ((⟨#[]⟩ : ByteArray), false)))) ?_)
    ·
     simp only [pattern_Literal.l0]
     rw [if_pos (lift_lt h), if_pos (nn i), if_pos (lift_lt h), rd35 p i h, if_pos h1]
    ·
     simp only [if_true, if_pos q, w64n h' hl12]
     exact J
   | false =>
    have e : litR a (p[i] :: p.drop (i + 1)) = ((⟨#[]⟩ : ByteArray), false) := by
     unfold litR
     rw [List.all_cons]
     have : isLit (p[i]'h) = false := by unfold isLit; rw [hv, Bool.and_false]
     rw [this, Bool.false_and]
     rfl
    rw [hv] at V
    rw [e]
    refine Ev.step (fun k => ?_) (Ev.bind V (f := fun k t256 => (if t256 = true then (if a.size + (p[i]'h).f1.size ≤ 9223372036854775807 then (pattern_Literal.l0 k (a ++ (p[i]'h).f1) p (p.length : Int) (wrap64 ((i : Int) + 1))) else (none)) else (some ((⟨#[]⟩ : ByteArray), false)))) ?_)
    ·
     simp only [pattern_Literal.l0]
     rw [if_pos (lift_lt h), if_pos (nn i), if_pos (lift_lt h), rd35 p i h, if_pos h1]
    ·
     simp only [Bool.false_eq_true, if_false]
     exact ev_const
  ·
   have e : litR a (p[i] :: p.drop (i + 1)) = ((⟨#[]⟩ : ByteArray), false) := by
    unfold litR
    rw [List.all_cons]
    have : isLit (p[i]'h) = false := by unfold isLit; rw [decide_eq_false h1, Bool.false_and]
    rw [this, Bool.false_and]
    rfl
   rw [e]
   refine ev_at1 fun k => ?_
   simp only [pattern_Literal.l0]
   rw [if_pos (lift_lt h), if_pos (nn i), if_pos (lift_lt h), rd35 p i h, if_neg h1]
theorem literal_ev (p : List S35) (hp : Good p) : Ev (fun k => pattern_Literal.f k p) (litR (⟨#[]⟩ : ByteArray) p) := by
 have := lit_l0 p hp p.length 0 (⟨#[]⟩ : ByteArray) (by omega) (Nat.le_refl _)
 rw [List.drop_zero] at this
 exact this
/-! ### the pattern of inactive elements -/
def PBx (x : S51) : S35 := PB x.f0
/-! ### the bounds of runs -/
def totS (l : List S47) : Nat := (l.map fun r => r.f0.size).sum
theorem tot_cons (l : List S47) (i : Nat) (h : i < l.length) : totS (l.drop i) = l[i].f0.size + totS (l.drop (i + 1)) := by
 rw [List.drop_eq_getElem_cons h]
 rfl
theorem els_len (l : List S47) : (elsS l).length ≤ totS l := by
 induction l with
 | nil => exact Nat.le_refl _
 | cons r l ih =>
  have e : (elsS (r :: l)).length = (els r).length + (elsS l).length := by
   show (els r ++ elsS l).length = _
   rw [List.length_append]
  have e2 : totS (r :: l) = r.f0.size + totS l := rfl
  have e3 : (els r).length ≤ r.f0.size := by
   unfold els
   split
   ·
    rw [List.length_map, bl_len]; exact Nat.le_refl _
   ·
    exact Nat.zero_le _
  omega
theorem small_l0 (l : List S47) (hs : ∀ r ∈ l, r.f0.size ≤ 140737488351232) (d : Nat) : ∀ (j n : Nat), j ≤ 9 → 9 - j ≤ d → n ≤ 140737488351300 →
 ∃ b, Ev (fun k => jobshellref04_Small.l0 k l 8 60 n j) b ∧ (b = true → l.length ≤ 8 ∧ n + totS (l.drop j) ≤ 60) := by
 have stop : ∀ (j n : Nat), (l.length ≤ j ∨ 8 < j ∨ 60 < n) → ∃ b, Ev (fun k => jobshellref04_Small.l0 k l 8 60 n j) b ∧ (b = true → l.length ≤ 8 ∧ n + totS (l.drop j) ≤ 60) := by
  intro j n hj
  refine ⟨decide (l.length ≤ 8) && decide (n ≤ 60), ev_at1 fun k => ?_, fun h => ?_⟩
  ·
   have c8 : ((l.length : Int) ≤ 8) ↔ l.length ≤ 8 := by omega
   have c60 : decide ((n : Int) ≤ 60) = decide (n ≤ 60) := by
    by_cases h : n ≤ 60
    ·
     rw [decide_eq_true h, decide_eq_true (by omega)]
    ·
     rw [decide_eq_false h, decide_eq_false (by omega)]
   have X : (if (l.length : Int) ≤ 8 then some (decide ((n : Int) ≤ 60)) else some false) = some (decide (l.length ≤ 8) && decide (n ≤ 60)) := by
    by_cases h : l.length ≤ 8
    ·
     rw [if_pos (c8.mpr h), decide_eq_true h, c60, Bool.true_and]
    ·
     rw [if_neg (fun e => h (c8.mp e)), decide_eq_false h, Bool.false_and]
   simp only [jobshellref04_Small.l0]
   by_cases h1 : (j : Int) < (l.length : Int)
   ·
    by_cases h2 : (j : Int) ≤ 8
    ·
     have h3 : ¬ (n : Int) ≤ 60 := by omega
     rw [if_pos h1, if_pos h2, if_neg h3]
     exact X
    ·
     rw [if_pos h1, if_neg h2]
     exact X
   ·
    rw [if_neg h1]
    exact X
  ·
   rw [Bool.and_eq_true, decide_eq_true_eq, decide_eq_true_eq] at h
   refine ⟨h.1, ?_⟩
   rw [List.drop_eq_nil_of_le (by omega)]
   show n + 0 ≤ 60
   omega
 induction d with
 | zero => exact fun j n hj hd hn => stop j n (.inr (.inl (by omega)))
 | succ d ih =>
  intro j n hj hd hn
  by_cases h : l.length ≤ j ∨ 8 < j ∨ 60 < n
  ·
   exact stop j n h
  ·
   have hlt : j < l.length := by omega
   have h8 : (j : Int) ≤ 8 := by omega
   have h60 : (n : Int) ≤ 60 := by omega
   have hsz := hs _ (List.getElem_mem hlt)
   obtain ⟨b, h1, h2⟩ := ih (j + 1) (n + l[j].f0.size) (by omega) (by omega) (by omega)
   refine ⟨b, ?_, fun e => ?_⟩
   ·
    have hj12 : j ≤ 8 := by omega
    have z1 : (n : Int) + (l[j].f0.size : Int) = ((n + l[j].f0.size : Nat) : Int) := by omega
    have z2 : wrap64 (((n + l[j].f0.size : Nat) : Int)) = ((n + l[j].f0.size : Nat) : Int) := w64 (by omega) (by omega)
    refine Ev.step (fun k => ?_) h1
    simp only [jobshellref04_Small.l0]
    rw [if_pos (lift_lt hlt), if_pos h8, if_pos h60, if_pos (nn j), rd47 l j hlt, z1, z2, w64n hj12 (by decide)]
   ·
    have h3 := h2 e
    rw [tot_cons l j hlt]
    omega
theorem small_ev (l : List S47) (hs : ∀ r ∈ l, r.f0.size ≤ 140737488351232) : ∃ b, Ev (fun k => jobshellref04_Small.f k l 8 60) b ∧ (b = true → l.length ≤ 8 ∧ totS l ≤ 60) := by
 obtain ⟨b, h1, h2⟩ := small_l0 l hs 9 0 0 (by decide) (by decide) (by decide)
 rw [List.drop_zero, Nat.zero_add] at h2
 exact ⟨b, h1, h2⟩
end Go.Proofs.Ytbekhjcnmifnnaa.Pure
