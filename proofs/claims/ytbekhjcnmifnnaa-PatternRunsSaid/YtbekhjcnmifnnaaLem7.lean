/- Plain lemmas for chapter 04: the elements of runs, the pattern of inactive elements, Literal, and the bounds of runs. No conditions beyond those written at each. -/
import Derived.Test.YtbekhjcnmifnnaaLem2
import Derived.Test.YtbekhjcnmifnnaaQ2
set_option linter.unusedVariables false
set_option linter.unusedSimpArgs false
namespace Go.Proofs.Ytbekhjcnmifnnaa.Pure
open Go.RowKit Go.Proofs.Ytbekhjcnmifnnaa.Q Go.Proofs.YtbekhjcnmifnnaaW.PrintWords Go.Proofs.YtbekhjcnmifnnaaW.PrintLast

theorem rd47 (xs : List S47) (i : Nat) (h : i < xs.length) : rd_T47 xs (i : Int) = xs[i] := by
 unfold rd_T47
 rw [List.getD_eq_getElem?_getD]
 simp [h]
theorem rd51 (xs : List S51) (i : Nat) (h : i < xs.length) : rd_T51 xs (i : Int) = xs[i] := by
 unfold rd_T51
 rw [List.getD_eq_getElem?_getD]
 simp [h]
/-! ### elements -/
def elOf (b : Bool) (c : Int) : S51 := ⟨c, b⟩
def els (r : S47) : List S51 := if r.f1 = 0 ∨ r.f1 = 1 ∨ r.f1 = 2 then (bl r.f0).map (elOf (r.f1 != 1)) else []
def elsS (l : List S47) : List S51 := l.flatMap els
theorem el_l1 (l : List S47) (r : S47) (i : Nat) (hi : i ≤ l.length) (hl : l.length ≤ 1000000) (hs : r.f0.size ≤ 1000000) (R : List S51) (d : Nat) : ∀ (j : Nat) (acc : List S51), j + d = r.f0.size → acc.length + d ≤ 10000000 →
 Ev (fun k => pattern_elements.l0 k (acc ++ ((bl r.f0).drop j).map (elOf (r.f1 != 1))) l (l.length : Int) ((i + 1 : Nat) : Int)) R →
 Ev (fun k => pattern_elements.l1 k acc l (l.length : Int) i (r.f0.size : Int) j r.f0 r.f1) R := by
 have hl12 : l.length ≤ 1000000000000 := by omega
 have hs12 : r.f0.size ≤ 1000000000000 := by omega
 induction d with
 | zero =>
  intro j acc hj ha I
  have h : ¬ j < r.f0.size := by omega
  rw [bl_done _ _ (by omega), List.map_nil, List.append_nil] at I
  refine Ev.step (fun k => ?_) I
  simp only [pattern_elements.l1]
  rw [if_neg (lift_not_lt h), w64n hi hl12]
 | succ d ih =>
  intro j acc hj ha I
  have h : j < r.f0.size := by omega
  have h' : j ≤ r.f0.size := by omega
  have hal : acc.length < 70368744177664 := by omega
  have J := ih (j + 1) (acc ++ [elOf (r.f1 != 1) (bt r.f0 j)]) (by omega) (by rw [List.length_append]; simp only [List.length_singleton]; omega) (by
   rw [bl_drop _ _ h, List.map_cons] at I
   rw [List.append_assoc]
   exact I)
  refine Ev.step (fun k => ?_) J
  simp only [pattern_elements.l1]
  rw [if_pos (lift_lt h), if_pos (nn j), if_pos (lift_lt h), if_pos hal, w64n h' hs12]
  rfl
theorem el_l0 (l : List S47) (hl : l.length ≤ 1000000) (hs : ∀ r ∈ l, r.f0.size ≤ 1000000) (d : Nat) : ∀ (i : Nat) (acc : List S51), i + d = l.length → acc.length + (elsS (l.drop i)).length ≤ 10000000 →
 Ev (fun k => pattern_elements.l0 k acc l (l.length : Int) i) (acc ++ elsS (l.drop i)) := by
 have hl12 : l.length ≤ 1000000000000 := by omega
 induction d with
 | zero =>
  intro i acc hi ha
  have h : ¬ i < l.length := by omega
  have e : elsS (l.drop i) = [] := by rw [List.drop_eq_nil_of_le (by omega)]; rfl
  rw [e, List.append_nil]
  refine ev_at1 fun k => ?_
  simp only [pattern_elements.l0]
  rw [if_neg (lift_not_lt h)]
 | succ d ih =>
  intro i acc hi ha
  have h : i < l.length := by omega
  have h' : i ≤ l.length := by omega
  have e : elsS (l.drop i) = els l[i] ++ elsS (l.drop (i + 1)) := by
   rw [List.drop_eq_getElem_cons h]
   rfl
  rw [e, List.length_append] at ha
  have hsz := hs _ (List.getElem_mem h)
  have T : ∀ b : Bool, els l[i] = [] → b = true → Ev (fun k => pattern_elements.j1 k acc l (l.length : Int) i b l[i].f0 l[i].f1) (acc ++ elsS (l.drop i)) := by
   intro b hb e2
   subst e2
   have J := ih (i + 1) acc (by omega) (by omega)
   rw [e, hb, List.nil_append]
   refine Ev.step (fun k => ?_) J
   simp only [pattern_elements.j1, if_true]
   rw [w64n h' hl12]
  have F : ∀ b : Bool, els l[i] = (bl l[i].f0).map (elOf (l[i].f1 != 1)) → b = false → Ev (fun k => pattern_elements.j1 k acc l (l.length : Int) i b l[i].f0 l[i].f1) (acc ++ elsS (l.drop i)) := by
   intro b hb e2
   subst e2
   have J := ih (i + 1) (acc ++ els l[i]) (by omega) (by rw [List.length_append]; omega)
   have hlen : (els l[i]).length = l[i].f0.size := by rw [hb, List.length_map, bl_len]
   rw [e, ← List.append_assoc]
   refine Ev.step (fun k => ?_) (el_l1 l l[i] i h' hl hsz _ l[i].f0.size 0 acc (by omega) (by omega) (by rw [List.drop_zero, ← hb]; exact J))
   simp only [pattern_elements.j1, Bool.false_eq_true, if_false]
   rfl
  have S : ∀ b : Bool, (∀ k, (if l[i].f1 = 0 then pattern_elements.j1 k acc l (l.length : Int) i false l[i].f0 l[i].f1 else if l[i].f1 = 1 then pattern_elements.j1 k acc l (l.length : Int) i false l[i].f0 l[i].f1 else pattern_elements.j1 k acc l (l.length : Int) i (l[i].f1 != 2) l[i].f0 l[i].f1) = pattern_elements.j1 k acc l (l.length : Int) i b l[i].f0 l[i].f1) →
   Ev (fun k => pattern_elements.j1 k acc l (l.length : Int) i b l[i].f0 l[i].f1) (acc ++ elsS (l.drop i)) → Ev (fun k => pattern_elements.l0 k acc l (l.length : Int) i) (acc ++ elsS (l.drop i)) := by
   intro b hb hE
   refine Ev.step (fun k => ?_) hE
   simp only [pattern_elements.l0]
   rw [if_pos (lift_lt h), if_pos (nn i), if_pos (lift_lt h), rd47 l i h]
   exact hb k
  by_cases h0 : l[i].f1 = 0
  ·
   exact S false (fun k => if_pos h0) (F false (if_pos (.inl h0)) rfl)
  ·
   by_cases h1 : l[i].f1 = 1
   ·
    exact S false (fun k => by rw [if_neg h0, if_pos h1]) (F false (if_pos (.inr (.inl h1))) rfl)
   ·
    by_cases h2 : l[i].f1 = 2
    ·
     have e2 : (l[i].f1 != 2) = false := bne_eq_false_iff_eq.mpr h2
     exact S (l[i].f1 != 2) (fun k => by rw [if_neg h0, if_neg h1]) (F _ (if_pos (.inr (.inr h2))) e2)
    ·
     have e2 : (l[i].f1 != 2) = true := bne_iff_ne.mpr h2
     exact S (l[i].f1 != 2) (fun k => by rw [if_neg h0, if_neg h1]) (T _ (if_neg (by rintro (h | h | h); exact h0 h; exact h1 h; exact h2 h)) e2)
theorem elements_ev (l : List S47) (hl : l.length ≤ 1000000) (hs : ∀ r ∈ l, r.f0.size ≤ 1000000) (ht : (elsS l).length ≤ 10000000) : Ev (fun k => pattern_elements.f k l) (elsS l) := by
 have := el_l0 l hl hs l.length 0 [] (by omega) (by rw [List.drop_zero, List.length_nil]; omega)
 rw [List.drop_zero, List.nil_append] at this
 exact this
/-! ### literal items -/
def PB (c : Int) : S35 := ⟨1, strOfNums [c], false, ([] : List S58)⟩
theorem bl_str1 (c : Int) (h0 : 0 ≤ c) (h1 : c ≤ 255) : bl (strOfNums [c]) = [c] := by
 unfold bl
 rw [strOfNums_data]
 simp only [List.map_cons, List.map_nil, UInt8.toNat_ofNat']
 congr 1
 omega
theorem bl_range (s : ByteArray) : ∀ c ∈ bl s, 0 ≤ c ∧ c ≤ 255 := by
 intro c hc
 obtain ⟨b, _, rfl⟩ := List.mem_map.mp hc
 have := b.toNat_lt
 omega
/-! ### Literal -/
/-! ### the pattern of inactive elements -/
def PBx (x : S51) : S35 := PB x.f0
/-! ### the bounds of runs -/
def totS (l : List S47) : Nat := (l.map fun r => r.f0.size).sum
theorem els_len (l : List S47) : (elsS l).length ≤ totS l := by
 induction l with
 | nil => exact Nat.le_refl _
 | cons r l ih =>
  have e : (elsS (r :: l)).length = (els r).length + (elsS l).length := by
   show (els r ++ elsS l).length = _
   rw [List.length_append]
  have e2 : totS (r :: l) = r.f0.size + totS l := rfl
  have e3 : (els r).length ≤ r.f0.size := by
   unfold els
   split
   ·
    rw [List.length_map, bl_len]; exact Nat.le_refl _
   ·
    exact Nat.zero_le _
  omega
end Go.Proofs.Ytbekhjcnmifnnaa.Pure
