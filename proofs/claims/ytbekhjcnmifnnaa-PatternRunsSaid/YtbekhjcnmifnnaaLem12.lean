/- Plain lemmas for chapter 04: the reference's bracket and Compile come to brS and compS. No conditions beyond those written at each. -/
import Derived.Test.YtbekhjcnmifnnaaLem11
set_option linter.unusedVariables false
set_option linter.unusedSimpArgs false
namespace Go.Proofs.Ytbekhjcnmifnnaa.Pure
open Go.RowKit Go.Proofs.Ytbekhjcnmifnnaa.Q Go.Proofs.YtbekhjcnmifnnaaW.PrintWords Go.Proofs.YtbekhjcnmifnnaaW.PrintLast

def rbrR (i : Nat) (neg : Bool) : Option (List S58 × Nat) → Int × ByteArray × Bool × List S58 × Int × Bool
 | some (rs, m) => (4, (⟨#[]⟩ : ByteArray), neg, spS rs, ((i + m : Nat) : Int), true)
 | none => (0, (⟨#[]⟩ : ByteArray), false, ([] : List S58), 0, false)
theorem in_drop {e : List S51} (h : InE e) (i : Nat) : InE (e.drop i) := fun x hx => h x (List.mem_of_mem_drop hx)
theorem rbr_l0 (e : List S51) (he : e.length ≤ 10000) (hE : InE e) (i : Nat) (neg : Bool) (n : Nat) : ∀ (m : Nat) (first : Bool) (rs rs' : List S58), i + m ≤ e.length → e.length - (i + m) < n → (∀ b, inS rs' b = inS rs b) → rs'.length ≤ 4 * m →
 Ev (fun k => jobshellref04_bracket.l0 k (e.map toR) ((i + m : Nat) : Int) rs' first 4 (⟨#[]⟩ : ByteArray) neg) (rbrR i neg (brL n (e.drop (i + m)) first rs m)) := by
 have he9 : e.length ≤ 1000000000 := by omega
 have he6 : e.length ≤ 1000000 := by omega
 induction n with
 | zero => exact fun m first rs rs' h1 h2 _ _ => absurd h2 (Nat.not_lt_zero _)
 | succ n ih =>
  intro m first rs rs' h1 h2 hS hL
  by_cases hlt : i + m < e.length
  ·
   have hd := List.drop_eq_getElem_cons hlt
   have Rest : ¬ (isA (e[i + m]'hlt) 93 = true ∧ first = false) → Ev (fun k => (jobshellref04_member.f k (e.map toR) ((i + m : Nat) : Int)).bind fun bt => (if rs'.length + bt.1.length < 70368744177664 then (jobshellref04_bracket.l0 k (e.map toR) bt.2 (rs' ++ bt.1) false 4 (⟨#[]⟩ : ByteArray) neg) else (none))) (rbrR i neg (brL (n + 1) (e.drop (i + m)) first rs m)) := by
    intro hno
    have hbr : brL (n + 1) (e.drop (i + m)) first rs m = brL n ((e.drop (i + m)).drop (memS (e.drop (i + m))).2) false (rs ++ (memS (e.drop (i + m))).1) (m + (memS (e.drop (i + m))).2) := by
     rw [hd]
     exact if_neg hno
    have hm := memS_len (e[i + m]'hlt) (e.drop (i + m + 1))
    rw [← hd, List.length_drop] at hm
    obtain ⟨s1, s2, s3⟩ := mem_same (e.drop (i + m)) (in_drop hE _)
    refine Ev.bind (member_ev e he6 (i + m) hlt) ?_
    have q : rs'.length + (memR (e.drop (i + m))).1.length < 70368744177664 := by omega
    refine Ev.congr (fun k => if_pos q) ?_
    rw [hbr, List.drop_drop]
    have K := ih (m + (memS (e.drop (i + m))).2) false (rs ++ (memS (e.drop (i + m))).1) (rs' ++ (memR (e.drop (i + m))).1) (by omega) (by omega) (fun b => by rw [inS_app, inS_app, hS, s2]) (by rw [List.length_append]; omega)
    rw [← Nat.add_assoc] at K
    rw [s1]
    exact K
   by_cases hf : first = true
   ·
    subst hf
    refine Ev.step (fun k => ?_) (Rest (fun h => absurd h.2 (by decide)))
    simp only [jobshellref04_bracket.l0, if_true]
    rw [lenR, if_pos (lift_lt hlt)]
   ·
    have hf' := Bool.eq_false_iff.mpr hf
    subst hf'
    by_cases ha : isA (e[i + m]'hlt) 93 = true
    ·
     have hbr : brL (n + 1) (e.drop (i + m)) false rs m = some (rs, m + 1) := by
      rw [hd]
      exact if_pos ⟨ha, rfl⟩
     have hge : ¬ (((i + m : Nat) : Int) ≥ (e.length : Int)) := by omega
     have hrs : rs'.length ≤ 100000 := by omega
     rw [hbr]
     refine Ev.step (fun k => ?_) (Ev.bind (set_ev rs' hrs) (f := fun k t446 => some (4, (⟨#[]⟩ : ByteArray), neg, t446, ((i + m + 1 : Nat) : Int), true)) ?_)
     ·
      simp only [jobshellref04_bracket.l0, Bool.false_eq_true, if_false]
      rw [lenR, if_pos (lift_lt hlt), ris_eq, Option.bind_some, hd]
      rw [if_pos (show isR (e[i + m] :: _) 93 = true from ha), if_neg hge, wk1 h1 he9]
     ·
      refine ev_eq ev_const ?_
      rw [spS_congr rs' rs hS]
      rfl
    ·
     refine Ev.step (fun k => ?_) (Rest (fun h => ha h.1))
     simp only [jobshellref04_bracket.l0, Bool.false_eq_true, if_false]
     rw [lenR, if_pos (lift_lt hlt), ris_eq, Option.bind_some, hd]
     rw [if_neg (show ¬ isR (e[i + m] :: _) 93 = true from ha)]
  ·
   have hge : (((i + m : Nat) : Int) ≥ (e.length : Int)) := by omega
   rw [List.drop_eq_nil_of_le (by omega)]
   refine ev_at1 fun k => ?_
   simp only [jobshellref04_bracket.l0]
   rw [lenR, if_neg (lift_not_lt hlt), if_pos hge]
   rfl
theorem rbracket_ev (e : List S51) (he : e.length ≤ 10000) (hE : InE e) (i : Nat) (hi : i < e.length) :
 Ev (fun k => jobshellref04_bracket.f k (e.map toR) (i : Int)) (rbrR i (negS (e.drop i)) (brL (e.drop i).length ((e.drop i).drop (begS (e.drop i))) true [] (begS (e.drop i)))) := by
 have he9 : e.length ≤ 1000000000 := by omega
 have hi' : i ≤ e.length := by omega
 have hi1 : i + 1 ≤ e.length := hi
 have hd := List.drop_eq_getElem_cons hi
 have hlen : (e.drop i).length = e.length - i := List.length_drop
 have hneg : negS (e.drop i) = (isR (e.drop (i + 1)) 33 || isR (e.drop (i + 1)) 94) := by
  rw [hd]
  cases e.drop (i + 1) <;> rfl
 have F : negS (e.drop i) = false → Ev (fun k => jobshellref04_bracket.j0 k (e.map toR) ((i + 1 : Nat) : Int) false 4 (⟨#[]⟩ : ByteArray) false) (rbrR i (negS (e.drop i)) (brL (e.drop i).length ((e.drop i).drop (begS (e.drop i))) true [] (begS (e.drop i)))) := by
  intro hn
  have hb : begS (e.drop i) = 1 := by unfold begS; rw [hn]; rfl
  rw [hb, hn, List.drop_drop, hlen]
  have J := rbr_l0 e he hE i false (e.length - i) 1 true [] [] (by omega) (by omega) (fun _ => rfl) (Nat.zero_le _)
  refine Ev.step (fun k => ?_) (Ev.step (g := fun k => jobshellref04_bracket.j1 k (e.map toR) ((i + 1 : Nat) : Int) 4 (⟨#[]⟩ : ByteArray) false) (fun k => ?_) J)
  ·
   simp only [jobshellref04_bracket.j0, Bool.false_eq_true, if_false]
  ·
   simp only [jobshellref04_bracket.j1]
 have T : negS (e.drop i) = true → Ev (fun k => jobshellref04_bracket.j0 k (e.map toR) ((i + 1 : Nat) : Int) true 4 (⟨#[]⟩ : ByteArray) false) (rbrR i (negS (e.drop i)) (brL (e.drop i).length ((e.drop i).drop (begS (e.drop i))) true [] (begS (e.drop i)))) := by
  intro hn
  have hb : begS (e.drop i) = 2 := by unfold begS; rw [hn]; rfl
  have h1 : i + 1 < e.length := by
   rcases Nat.lt_or_ge (i + 1) e.length with h | h
   ·
    exact h
   ·
    rw [hneg, List.drop_eq_nil_of_le h] at hn
    exact absurd hn (by decide)
  rw [hb, hn, List.drop_drop, hlen]
  have J := rbr_l0 e he hE i true (e.length - i) 2 true [] [] (by omega) (by omega) (fun _ => rfl) (Nat.zero_le _)
  refine Ev.step (fun k => ?_) (Ev.step (g := fun k => jobshellref04_bracket.j1 k (e.map toR) ((i + 2 : Nat) : Int) 4 (⟨#[]⟩ : ByteArray) true) (fun k => ?_) J)
  ·
   simp only [jobshellref04_bracket.j0, if_true]
   rw [wk1 hi1 he9]
  ·
   simp only [jobshellref04_bracket.j1]
 unfold jobshellref04_bracket.f
 simp only [wk1 hi' he9, ris_eq, Option.bind_some]
 by_cases a1 : isR (e.drop (i + 1)) 33 = true
 ·
  simp only [if_pos a1]
  exact T (by rw [hneg, a1]; rfl)
 ·
  simp only [if_neg a1]
  rw [Bool.eq_false_iff.mpr a1, Bool.false_or] at hneg
  rw [← hneg]
  cases hn : negS (e.drop i) with
  | true => rw [hn] at T; exact T rfl
  | false => rw [hn] at F; exact F rfl
theorem rcomp_l0 (e : List S51) (he : e.length ≤ 10000) (hE : InE e) (n : Nat) : ∀ (i : Nat) (acc : List S35), i ≤ e.length → e.length - i < n → acc.length + (e.length - i) ≤ 10000000 →
 Ev (fun k => jobshellref04_Compile.l0 k (e.map toR) acc (i : Int)) (acc ++ compS n (e.drop i)) := by
 have he9 : e.length ≤ 1000000000 := by omega
 induction n with
 | zero => exact fun i acc h1 h2 _ => absurd h2 (Nat.not_lt_zero _)
 | succ n ih =>
  intro i acc h1 h2 h3
  by_cases hlt : i < e.length
  ·
   have hd := List.drop_eq_getElem_cons hlt
   have hal : acc.length < 2513169434916 := by omega
   have nx : ∀ it : S35, Ev (fun k => jobshellref04_Compile.l0 k (e.map toR) (acc ++ [it]) ((i + 1 : Nat) : Int)) (acc ++ (it :: compS n (e.drop (i + 1)))) := by
    intro it
    have J := ih (i + 1) (acc ++ [it]) (by omega) (by omega) (by rw [List.length_append]; simp only [List.length_singleton]; omega)
    rw [List.append_assoc] at J
    exact J
   have r : ∀ c, isR (e.drop i) c = isA (e[i]'hlt) c := fun c => by rw [hd]; rfl
   have E : ∀ k, jobshellref04_Compile.l0 (k + 1) (e.map toR) acc (i : Int) = (if isA (e[i]'hlt) 42 = true then (jobshellref04_Compile.l0 k (e.map toR) (acc ++ [(⟨3, (⟨#[]⟩ : ByteArray), false, ([] : List (S58))⟩ : S35)]) ((i + 1 : Nat) : Int)) else if isA (e[i]'hlt) 63 = true then (jobshellref04_Compile.l0 k (e.map toR) (acc ++ [(⟨2, (⟨#[]⟩ : ByteArray), false, ([] : List (S58))⟩ : S35)]) ((i + 1 : Nat) : Int)) else if isA (e[i]'hlt) 91 = true then ((jobshellref04_bracket.f k (e.map toR) (i : Int)).bind fun bt471 => (if bt471.2.2.2.2.2 = true then (jobshellref04_Compile.l0 k (e.map toR) (acc ++ [(⟨bt471.1, bt471.2.1, bt471.2.2.1, bt471.2.2.2.1⟩ : S35)]) bt471.2.2.2.2.1) else (jobshellref04_Compile.l0 k (e.map toR) (acc ++ [PBx (e[i]'hlt)]) ((i + 1 : Nat) : Int)))) else (jobshellref04_Compile.l0 k (e.map toR) (acc ++ [PBx (e[i]'hlt)]) ((i + 1 : Nat) : Int))) := by
    intro k
    simp only [jobshellref04_Compile.l0, ris_eq, Option.bind_some, if_pos hal, lenR, rd65 e i hlt, wk1 h1 he9, r]
    rw [if_pos (lift_lt hlt)]
    simp only [if_pos (nn i)]
    rfl
   rw [hd]
   unfold compS
   by_cases a1 : isA (e[i]'hlt) 42 = true
   ·
    rw [if_pos a1]
    exact Ev.step (fun k => by rw [E, if_pos a1]) (nx _)
   ·
    rw [if_neg a1]
    by_cases a2 : isA (e[i]'hlt) 63 = true
    ·
     rw [if_pos a2]
     exact Ev.step (fun k => by rw [E, if_neg a1, if_pos a2]) (nx _)
    ·
     rw [if_neg a2]
     by_cases a3 : isA (e[i]'hlt) 91 = true
     ·
      rw [if_pos a3]
      have B := rbracket_ev e he hE i hlt
      refine Ev.step (fun k => by rw [E, if_neg a1, if_neg a2, if_pos a3]) (Ev.bind B ?_)
      rw [← hd]
      cases hb : brL (e.drop i).length ((e.drop i).drop (begS (e.drop i))) true [] (begS (e.drop i)) with
      | none =>
       have hs : brS (e.drop i) = none := by unfold brS; rw [hb]; rfl
       rw [hs]
       refine Ev.congr (fun k => if_neg (show ¬ (false = true) by decide)) ?_
       exact nx _
      | some q =>
       obtain ⟨rs, m⟩ := q
       have hs : brS (e.drop i) = some ((⟨4, (⟨#[]⟩ : ByteArray), negS (e.drop i), spS rs⟩ : S35), m) := by unfold brS; rw [hb]; rfl
       have hm := brS_len _ _ _ hs
       rw [List.length_drop] at hm
       rw [hs]
       refine Ev.congr (fun k => if_pos (show true = true from rfl)) ?_
       show Ev (fun k => jobshellref04_Compile.l0 k (e.map toR) (acc ++ [(⟨4, (⟨#[]⟩ : ByteArray), negS (e.drop i), spS rs⟩ : S35)]) ((i + m : Nat) : Int)) (acc ++ ((⟨4, (⟨#[]⟩ : ByteArray), negS (e.drop i), spS rs⟩ : S35) :: compS n ((e.drop i).drop m)))
       rw [List.drop_drop]
       have J := ih (i + m) (acc ++ [(⟨4, (⟨#[]⟩ : ByteArray), negS (e.drop i), spS rs⟩ : S35)]) (by omega) (by omega) (by rw [List.length_append]; simp only [List.length_singleton]; omega)
       rw [List.append_assoc] at J
       exact J
     ·
      rw [if_neg a3]
      exact Ev.step (fun k => by rw [E, if_neg a1, if_neg a2, if_neg a3]) (nx _)
  ·
   rw [List.drop_eq_nil_of_le (by omega)]
   refine ev_at1 fun k => ?_
   simp only [jobshellref04_Compile.l0]
   rw [lenR, if_neg (lift_not_lt hlt), show compS (n + 1) [] = [] from rfl, List.append_nil]
theorem rcompile_ev (l : List S47) (hl : l.length ≤ 1000000) (hs : ∀ r ∈ l, r.f0.size ≤ 1000000) (ht : (elsS l).length ≤ 10000) : Ev (fun k => jobshellref04_Compile.f k l) (patS l) := by
 unfold jobshellref04_Compile.f
 refine Ev.bind (relements_ev l hl hs (by omega)) ?_
 have J := rcomp_l0 (elsS l) ht (els_in l) ((elsS l).length + 1) 0 [] (Nat.zero_le _) (by omega) (by rw [List.length_nil]; omega)
 rw [List.drop_zero, List.nil_append] at J
 exact J
end Go.Proofs.Ytbekhjcnmifnnaa.Pure
