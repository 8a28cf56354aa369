/- Plain lemmas for chapter 04: pattern's bracket and Compile come to brS and compS, which look at what is left of the elements alone. No conditions beyond those written at each. -/
import Derived.Test.YtbekhjcnmifnnaaLem8
set_option linter.unusedVariables false
set_option linter.unusedSimpArgs false
namespace Go.Proofs.Ytbekhjcnmifnnaa.Pure
open Go.RowKit Go.Proofs.Ytbekhjcnmifnnaa.Q Go.Proofs.YtbekhjcnmifnnaaW.PrintWords Go.Proofs.YtbekhjcnmifnnaaW.PrintLast

/-- The member at the beginning: a class, if one is named there. -/
def clsS (u : List S51) : Option (List S58 × Nat) := (nameS u).bind fun q => (rngS q.1).map fun cs => (cs, q.2)
/-- .. or a range, or a byte. -/
def plainS : List S51 → List S58 × Nat
 | x :: y :: z :: _ => if isA y 45 = true ∧ ¬ isA z 93 = true then ([⟨x.f0, z.f0⟩], 3) else ([⟨x.f0, x.f0⟩], 1)
 | x :: _ => ([⟨x.f0, x.f0⟩], 1)
 | [] => ([], 1)
def memS (u : List S51) : List S58 × Nat := (clsS u).getD (plainS u)
def brL : Nat → List S51 → Bool → List S58 → Nat → Option (List S58 × Nat)
 | 0, _, _, _, _ => none
 | _ + 1, [], _, _, _ => none
 | n + 1, x :: r, first, rs, m => if isA x 93 = true ∧ first = false then some (rs, m + 1) else brL n ((x :: r).drop (memS (x :: r)).2) false (rs ++ (memS (x :: r)).1) (m + (memS (x :: r)).2)
def negS : List S51 → Bool
 | _ :: y :: _ => isA y 33 || isA y 94
 | _ => false
def begS (u : List S51) : Nat := if negS u = true then 2 else 1
def brS (u : List S51) : Option (S35 × Nat) := (brL u.length (u.drop (begS u)) true [] (begS u)).map fun q => ((⟨4, (⟨#[]⟩ : ByteArray), negS u, spS q.1⟩ : S35), q.2)
def compS : Nat → List S51 → List S35
 | 0, _ => []
 | _ + 1, [] => []
 | n + 1, x :: r => if isA x 42 = true then (⟨3, (⟨#[]⟩ : ByteArray), false, ([] : List S58)⟩ : S35) :: compS n r
  else if isA x 63 = true then (⟨2, (⟨#[]⟩ : ByteArray), false, ([] : List S58)⟩ : S35) :: compS n r
  else if isA x 91 = true then (match brS (x :: r) with
   | some (it, m) => it :: compS n ((x :: r).drop m)
   | none => PBx x :: compS n r)
  else PBx x :: compS n r

theorem wm1' {k : Nat} (hk : 0 < k) (h : k ≤ 1000000000000) : wrap64 ((k : Int) - 1) = ((k - 1 : Nat) : Int) := by
 obtain ⟨j, rfl⟩ : ∃ j, k = j + 1 := ⟨k - 1, by omega⟩
 rw [wmn (by omega)]
 rfl
theorem clsS_len (u : List S51) (cs : List S58) (q : Nat) (h : clsS u = some (cs, q)) : 4 ≤ q ∧ q ≤ u.length := by
 unfold clsS at h
 rw [Option.bind_eq_some_iff] at h
 obtain ⟨⟨n, m⟩, h1, h2⟩ := h
 obtain ⟨cs', h3, h4⟩ := Option.map_eq_some_iff.mp h2
 obtain ⟨rfl, rfl⟩ := Prod.mk.inj h4
 exact nameS_len u n _ h1
theorem plainS_len (x : S51) (r : List S51) : 1 ≤ (plainS (x :: r)).2 ∧ (plainS (x :: r)).2 ≤ (x :: r).length := by
 cases r with
 | nil => exact ⟨Nat.le_refl _, Nat.le_refl _⟩
 | cons y r =>
  cases r with
  | nil => exact ⟨Nat.le_refl _, by show 1 ≤ 2; decide⟩
  | cons z r =>
   show 1 ≤ (if _ then _ else _ : List S58 × Nat).2 ∧ (if _ then _ else _ : List S58 × Nat).2 ≤ _
   simp only [List.length_cons]
   split
   ·
    exact ⟨by show 1 ≤ 3; decide, by show 3 ≤ _; omega⟩
   ·
    exact ⟨by show 1 ≤ 1; decide, by show 1 ≤ _; omega⟩
theorem memS_len (x : S51) (r : List S51) : 1 ≤ (memS (x :: r)).2 ∧ (memS (x :: r)).2 ≤ (x :: r).length := by
 unfold memS
 cases h : clsS (x :: r) with
 | none => exact plainS_len x r
 | some q =>
  obtain ⟨cs, m⟩ := q
  have := clsS_len _ _ _ h
  exact ⟨by show 1 ≤ m; omega, this.2⟩
/-- What bracket returns. -/
def brR (i : Nat) (neg : Bool) : Option (List S58 × Nat) → Int × ByteArray × Bool × List S58 × Int
 | some (rs, m) => (4, (⟨#[]⟩ : ByteArray), neg, spS rs, ((i + m : Nat) : Int))
 | none => (0, (⟨#[]⟩ : ByteArray), false, ([] : List S58), 0)
def InE (e : List S51) : Prop := ∀ x ∈ e, 0 ≤ x.f0 ∧ x.f0 ≤ 255
/-- One member is read. -/
theorem br_plain (e : List S51) (he : e.length ≤ 1000000) (hE : InE e) (at' : Nat) (hlt : at' < e.length) (st : Int) (neg : Bool) (tz : Int) (s : ByteArray) (rs : List S58) (hS : SetIs s rs) (R : Int × ByteArray × Bool × List S58 × Int)
 (I : ∀ t, SetIs t (rs ++ (plainS (e.drop at')).1) → Ev (fun k => pattern_bracket.l0 k e ((at' + (plainS (e.drop at')).2 : Nat) : Int) t st 4 (⟨#[]⟩ : ByteArray) neg) R) :
 Ev (fun k => pattern_bracket.j4 k e (at' : Int) s st tz false 4 (⟨#[]⟩ : ByteArray) neg) R := by
 have he9 : e.length ≤ 1000000000 := by omega
 have hle : at' ≤ e.length := by omega
 have hx := hE _ (List.getElem_mem hlt)
 have hd := List.drop_eq_getElem_cons hlt
 -- a single byte
 have one : plainS (e.drop at') = ([⟨(e[at']'hlt).f0, (e[at']'hlt).f0⟩], 1) → Ev (fun k => pattern_bracket.j5 k e (at' : Int) s st false 4 (⟨#[]⟩ : ByteArray) neg) R := by
  intro hp
  rw [hp] at I
  obtain ⟨t, h1, h2⟩ := add_ev s rs _ _ hS hx.1 hx.2 hx.1 hx.2
  refine Ev.step (fun k => ?_) (I t h2)
  simp only [pattern_bracket.j5, Bool.false_eq_true, if_false]
  rw [if_pos (nn at'), if_pos (lift_lt hlt), rd51 e at' hlt, h1, Option.bind_some, wk1 hle he9]
 by_cases h2 : at' + 2 < e.length
 ·
  have h1 : at' + 1 < e.length := by omega
  have hd1 := List.drop_eq_getElem_cons h1
  have hd2 := List.drop_eq_getElem_cons h2
  have hp : plainS (e.drop at') = if isA (e[at' + 1]'h1) 45 = true ∧ ¬ isA (e[at' + 2]'h2) 93 = true then ([⟨(e[at']'hlt).f0, (e[at' + 2]'h2).f0⟩], 3) else ([⟨(e[at']'hlt).f0, (e[at']'hlt).f0⟩], 1) := by
   rw [hd, hd1, hd2]
   rfl
  have hz := hE _ (List.getElem_mem h2)
  by_cases a1 : isA (e[at' + 1]'h1) 45 = true
  ·
   by_cases a2 : isA (e[at' + 2]'h2) 93 = true
   ·
    rw [if_neg (fun h => h.2 a2)] at hp
    refine Ev.step (fun k => ?_) (one hp)
    simp only [pattern_bracket.j4, Bool.false_eq_true, if_false]
    rw [wk2 hle he9, if_pos (lift_lt h2), wk1 hle he9, if_pos (nn _), if_pos (lift_lt h1), rd51 e _ h1, is_eq, Option.bind_some, if_pos a1, if_pos (nn _), rd51 e _ h2, is_eq, Option.bind_some, a2]
    rfl
   ·
    rw [if_pos ⟨a1, a2⟩] at hp
    rw [hp] at I
    obtain ⟨t, h3, h4⟩ := add_ev s rs _ _ hS hx.1 hx.2 hz.1 hz.2
    refine Ev.step (fun k => ?_) (Ev.step (g := fun k => pattern_bracket.j5 k e (at' : Int) s st true 4 (⟨#[]⟩ : ByteArray) neg) (fun k => ?_) (I t h4))
    ·
     simp only [pattern_bracket.j4, Bool.false_eq_true, if_false]
     rw [wk2 hle he9, if_pos (lift_lt h2), wk1 hle he9, if_pos (nn _), if_pos (lift_lt h1), rd51 e _ h1, is_eq, Option.bind_some, if_pos a1, if_pos (nn _), rd51 e _ h2, is_eq, Option.bind_some, Bool.eq_false_iff.mpr a2]
     rfl
    ·
     simp only [pattern_bracket.j5, if_true]
     rw [if_pos (nn at'), if_pos (lift_lt hlt), wk2 hle he9, if_pos (nn _), if_pos (lift_lt h2), rd51 e at' hlt, rd51 e _ h2, h3, Option.bind_some, wk3 hle he9]
  ·
   rw [if_neg (fun h => a1 h.1)] at hp
   refine Ev.step (fun k => ?_) (one hp)
   simp only [pattern_bracket.j4, Bool.false_eq_true, if_false]
   rw [wk2 hle he9, if_pos (lift_lt h2), wk1 hle he9, if_pos (nn _), if_pos (lift_lt h1), rd51 e _ h1, is_eq, Option.bind_some, if_neg a1]
 ·
  have hp : plainS (e.drop at') = ([⟨(e[at']'hlt).f0, (e[at']'hlt).f0⟩], 1) := by
   rw [hd]
   by_cases h1 : at' + 1 < e.length
   ·
    rw [List.drop_eq_getElem_cons h1, List.drop_eq_nil_of_le (by omega)]
    rfl
   ·
    rw [List.drop_eq_nil_of_le (by omega)]
    rfl
  refine Ev.step (fun k => ?_) (one hp)
  simp only [pattern_bracket.j4, Bool.false_eq_true, if_false]
  rw [wk2 hle he9, if_neg (lift_not_lt h2)]
theorem br_l0 (e : List S51) (he : e.length ≤ 1000000) (hE : InE e) (i b : Nat) (neg : Bool) (n : Nat) : ∀ (m : Nat) (first : Bool) (s : ByteArray) (rs : List S58), i + m ≤ e.length → e.length - (i + m) < n → SetIs s rs → b ≤ m → (first = true ↔ m = b) →
 Ev (fun k => pattern_bracket.l0 k e ((i + m : Nat) : Int) s ((i + b : Nat) : Int) 4 (⟨#[]⟩ : ByteArray) neg) (brR i neg (brL n (e.drop (i + m)) first rs m)) := by
 have he9 : e.length ≤ 1000000000 := by omega
 induction n with
 | zero => exact fun m first s rs h1 h2 _ _ _ => absurd h2 (Nat.not_lt_zero _)
 | succ n ih =>
  intro m first s rs h1 h2 hS hb hf
  by_cases hlt : i + m < e.length
  ·
   have hd := List.drop_eq_getElem_cons hlt
   have hlen : (e[i + m] :: e.drop (i + m + 1)).length = e.length - (i + m) := by rw [← hd, List.length_drop]
   -- the rest, behind the closing bracket's test
   have Rest : ¬ (isA (e[i + m]'hlt) 93 = true ∧ first = false) → Ev (fun k => pattern_bracket.j3 k e ((i + m : Nat) : Int) s ((i + b : Nat) : Int) false 4 (⟨#[]⟩ : ByteArray) neg) (brR i neg (brL (n + 1) (e.drop (i + m)) first rs m)) := by
    intro hno
    have hbr : brL (n + 1) (e.drop (i + m)) first rs m = brL n ((e.drop (i + m)).drop (memS (e.drop (i + m))).2) false (rs ++ (memS (e.drop (i + m))).1) (m + (memS (e.drop (i + m))).2) := by
     rw [hd]
     exact if_neg hno
    have hm := memS_len (e[i + m]'hlt) (e.drop (i + m + 1))
    rw [← hd, List.length_drop] at hm
    have J : ∀ t, SetIs t (rs ++ (memS (e.drop (i + m))).1) → Ev (fun k => pattern_bracket.l0 k e ((i + m + (memS (e.drop (i + m))).2 : Nat) : Int) t ((i + b : Nat) : Int) 4 (⟨#[]⟩ : ByteArray) neg) (brR i neg (brL (n + 1) (e.drop (i + m)) first rs m)) := by
     intro t ht
     have K := ih (m + (memS (e.drop (i + m))).2) false t _ (by omega) (by omega) ht (by omega) ⟨fun h => (by cases h), fun h => (by omega)⟩
     rw [hbr, List.drop_drop]
     rw [← Nat.add_assoc] at K
     exact K
    have N := name_ev e he (i + m) hlt
    refine Ev.step (fun k => ?_) (Ev.bind N (f := fun k bt131 => (if bt131.2 > 0 then ((pattern_bytes_class.f s bt131.1).bind fun t133 => (pattern_bracket.j4 k e ((i + m : Nat) : Int) t133.2 ((i + b : Nat) : Int) bt131.2 t133.1 4 (⟨#[]⟩ : ByteArray) neg)) else (pattern_bracket.j4 k e ((i + m : Nat) : Int) s ((i + b : Nat) : Int) bt131.2 false 4 (⟨#[]⟩ : ByteArray) neg))) ?_)
    ·
     simp only [pattern_bracket.j3, Bool.false_eq_true, if_false]
    ·
     cases hn : nameS (e.drop (i + m)) with
     | none =>
      have hc : memS (e.drop (i + m)) = plainS (e.drop (i + m)) := by
       unfold memS clsS
       rw [hn]
       rfl
      rw [hc] at J
      refine Ev.congr (fun k => if_neg (show ¬ ((0 : Int) > 0) by decide)) ?_
      exact br_plain e he hE (i + m) hlt _ neg _ s rs hS _ J
     | some q =>
      obtain ⟨nm, q⟩ := q
      have hq := nameS_len _ _ _ hn
      have hpos : ((i + m + q : Nat) : Int) > 0 := by omega
      refine Ev.congr (fun k => if_pos hpos) ?_
      show Ev (fun k => (pattern_bytes_class.f s nm).bind fun t133 => pattern_bracket.j4 k e ((i + m : Nat) : Int) t133.2 ((i + b : Nat) : Int) ((i + m + q : Nat) : Int) t133.1 4 (⟨#[]⟩ : ByteArray) neg) _
      rcases class_ev s nm rs hS with ⟨cs, t, c1, c2, c3⟩ | ⟨c1, c2⟩
      ·
       have hc : memS (e.drop (i + m)) = (cs, q) := by
        unfold memS clsS
        rw [hn, Option.bind_some, c1]
        rfl
       rw [hc] at J
       rw [c2]
       simp only [Option.bind_some]
       refine Ev.step (fun k => ?_) (J t c3)
       simp only [pattern_bracket.j4, if_true]
      ·
       have hc : memS (e.drop (i + m)) = plainS (e.drop (i + m)) := by
        unfold memS clsS
        rw [hn, Option.bind_some, c1]
        rfl
       rw [hc] at J
       rw [c2]
       simp only [Option.bind_some]
       exact br_plain e he hE (i + m) hlt _ neg _ s rs hS _ J
   have S0 : ∀ k, pattern_bracket.l0 (k + 1) e ((i + m : Nat) : Int) s ((i + b : Nat) : Int) 4 (⟨#[]⟩ : ByteArray) neg = (if isA (e[i + m]'hlt) 93 = true then (pattern_bracket.j3 k e ((i + m : Nat) : Int) s ((i + b : Nat) : Int) (decide (((i + m : Nat) : Int) > ((i + b : Nat) : Int))) 4 (⟨#[]⟩ : ByteArray) neg) else (pattern_bracket.j3 k e ((i + m : Nat) : Int) s ((i + b : Nat) : Int) false 4 (⟨#[]⟩ : ByteArray) neg)) := by
    intro k
    simp only [pattern_bracket.l0]
    rw [if_pos (lift_lt hlt), if_pos (nn _), rd51 e _ hlt, is_eq, Option.bind_some]
   by_cases ha : isA (e[i + m]'hlt) 93 = true
   ·
    by_cases hfi : first = true
    ·
     have hmb := hf.mp hfi
     have hdec : decide (((i + m : Nat) : Int) > ((i + b : Nat) : Int)) = false := decide_eq_false (by omega)
     refine Ev.step (fun k => ?_) (Rest (fun h => by rw [hfi] at h; exact absurd h.2 (by simp)))
     rw [S0, if_pos ha, hdec]
    ·
     have hmb : m ≠ b := fun h => hfi (hf.mpr h)
     have hdec : decide (((i + m : Nat) : Int) > ((i + b : Nat) : Int)) = true := decide_eq_true (by omega)
     have hbr : brL (n + 1) (e.drop (i + m)) first rs m = some (rs, m + 1) := by
      rw [hd]
      exact if_pos ⟨ha, Bool.eq_false_iff.mpr hfi⟩
     rw [hbr]
     refine Ev.step (fun k => by rw [S0, if_pos ha, hdec]) (ev_at1 (g := fun k => pattern_bracket.j3 k e ((i + m : Nat) : Int) s ((i + b : Nat) : Int) true 4 (⟨#[]⟩ : ByteArray) neg) fun k => ?_)
     simp only [pattern_bracket.j3, if_true]
     rw [spans_ev s rs hS, Option.bind_some, wk1 h1 he9]
     rfl
   ·
    refine Ev.step (fun k => ?_) (Rest (fun h => ha h.1))
    rw [S0, if_neg ha]
  ·
   rw [List.drop_eq_nil_of_le (by omega)]
   refine ev_at1 fun k => ?_
   simp only [pattern_bracket.l0]
   rw [if_neg (lift_not_lt hlt)]
   rfl
theorem set_nil : SetIs (⟨#[]⟩ : ByteArray) [] := fun b _ => rfl
theorem bracket_ev (e : List S51) (he : e.length ≤ 1000000) (hE : InE e) (i : Nat) (hi : i < e.length) :
 Ev (fun k => pattern_bracket.f k e (i : Int)) (brR i (negS (e.drop i)) (brL (e.drop i).length ((e.drop i).drop (begS (e.drop i))) true [] (begS (e.drop i)))) := by
 have he9 : e.length ≤ 1000000000 := by omega
 have hi' : i ≤ e.length := by omega
 have hd := List.drop_eq_getElem_cons hi
 have hlen : (e.drop i).length = e.length - i := List.length_drop
 have F : negS (e.drop i) = false → Ev (fun k => pattern_bracket.j0 k e ((i + 1 : Nat) : Int) false 4 (⟨#[]⟩ : ByteArray) false) (brR i (negS (e.drop i)) (brL (e.drop i).length ((e.drop i).drop (begS (e.drop i))) true [] (begS (e.drop i)))) := by
  intro hn
  have hb : begS (e.drop i) = 1 := by unfold begS; rw [hn]; rfl
  rw [hb, hn, List.drop_drop, hlen]
  have J := br_l0 e he hE i 1 false (e.length - i) 1 true (⟨#[]⟩ : ByteArray) [] (by omega) (by omega) set_nil (Nat.le_refl _) ⟨fun _ => rfl, fun _ => rfl⟩
  refine Ev.step (fun k => ?_) (Ev.step (g := fun k => pattern_bracket.j1 k e ((i + 1 : Nat) : Int) 4 (⟨#[]⟩ : ByteArray) false) (fun k => ?_) J)
  ·
   simp only [pattern_bracket.j0, Bool.false_eq_true, if_false]
  ·
   simp only [pattern_bracket.j1]
 have T : negS (e.drop i) = true → i + 1 < e.length → Ev (fun k => pattern_bracket.j0 k e ((i + 1 : Nat) : Int) true 4 (⟨#[]⟩ : ByteArray) false) (brR i (negS (e.drop i)) (brL (e.drop i).length ((e.drop i).drop (begS (e.drop i))) true [] (begS (e.drop i)))) := by
  intro hn h1
  have hb : begS (e.drop i) = 2 := by unfold begS; rw [hn]; rfl
  have h1' : i + 1 ≤ e.length := by omega
  rw [hb, hn, List.drop_drop, hlen]
  have J := br_l0 e he hE i 2 true (e.length - i) 2 true (⟨#[]⟩ : ByteArray) [] (by omega) (by omega) set_nil (Nat.le_refl _) ⟨fun _ => rfl, fun _ => rfl⟩
  refine Ev.step (fun k => ?_) (Ev.step (g := fun k => pattern_bracket.j1 k e ((i + 2 : Nat) : Int) 4 (⟨#[]⟩ : ByteArray) true) (fun k => ?_) J)
  ·
   simp only [pattern_bracket.j0, if_true]
   rw [wk1 h1' he9]
  ·
   simp only [pattern_bracket.j1]
 unfold pattern_bracket.f
 simp only [wk1 hi' he9]
 by_cases h1 : i + 1 < e.length
 ·
  have hd1 := List.drop_eq_getElem_cons h1
  have hneg : negS (e.drop i) = (isA (e[i + 1]'h1) 33 || isA (e[i + 1]'h1) 94) := by
   rw [hd, hd1]
   rfl
  simp only [if_pos (lift_lt h1), if_pos (nn (i + 1)), rd51 e _ h1, is_eq, Option.bind_some]
  by_cases a1 : isA (e[i + 1]'h1) 33 = true
  ·
   simp only [if_pos a1]
   exact T (by rw [hneg, a1]; rfl) h1
  ·
   simp only [if_neg a1]
   rw [Bool.eq_false_iff.mpr a1, Bool.false_or] at hneg
   rw [← hneg]
   cases hn : negS (e.drop i) with
   | true => rw [hn] at T; exact T rfl h1
   | false => rw [hn] at F; exact F rfl
 ·
  simp only [if_neg (lift_not_lt h1)]
  refine F ?_
  rw [hd, List.drop_eq_nil_of_le (by omega)]
  rfl
theorem brL_len (n : Nat) : ∀ (u : List S51) (first : Bool) (rs : List S58) (m : Nat) (rs' : List S58) (m' : Nat), brL n u first rs m = some (rs', m') → m + 1 ≤ m' ∧ m' ≤ m + u.length := by
 induction n with
 | zero => exact fun u _ _ _ _ _ h => absurd h (by simp [brL])
 | succ n ih =>
  intro u first rs m rs' m' h
  cases u with
  | nil => exact absurd h (by simp [brL])
  | cons x r =>
   unfold brL at h
   by_cases hc : isA x 93 = true ∧ first = false
   ·
    rw [if_pos hc] at h
    obtain ⟨_, rfl⟩ := Prod.mk.inj (Option.some.inj h)
    simp only [List.length_cons]
    omega
   ·
    rw [if_neg hc] at h
    have h1 := ih _ _ _ _ _ _ h
    have h2 := memS_len x r
    rw [List.length_drop] at h1
    omega
theorem brS_len (u : List S51) (it : S35) (m : Nat) (h : brS u = some (it, m)) : 1 ≤ m ∧ m ≤ u.length := by
 unfold brS at h
 obtain ⟨⟨rs, m'⟩, h1, h2⟩ := Option.map_eq_some_iff.mp h
 obtain ⟨_, rfl⟩ := Prod.mk.inj h2
 have h3 := brL_len _ _ _ _ _ _ _ h1
 rw [List.length_drop] at h3
 refine ⟨by omega, ?_⟩
 have : 1 ≤ begS u := by unfold begS; split <;> decide
 omega
theorem comp_l0 (e : List S51) (he : e.length ≤ 1000000) (hE : InE e) (n : Nat) : ∀ (i : Nat) (acc : List S35), i ≤ e.length → e.length - i < n → acc.length + (e.length - i) ≤ 10000000 →
 Ev (fun k => pattern_Compile.l0 k e acc (i : Int)) (acc ++ compS n (e.drop i)) := by
 have he9 : e.length ≤ 1000000000 := by omega
 induction n with
 | zero => exact fun i acc h1 h2 _ => absurd h2 (Nat.not_lt_zero _)
 | succ n ih =>
  intro i acc h1 h2 h3
  by_cases hlt : i < e.length
  ·
   have hd := List.drop_eq_getElem_cons hlt
   have hal : acc.length < 2513169434916 := by omega
   have nx : ∀ it : S35, Ev (fun k => pattern_Compile.l0 k e (acc ++ [it]) ((i + 1 : Nat) : Int)) (acc ++ (it :: compS n (e.drop (i + 1)))) := by
    intro it
    have J := ih (i + 1) (acc ++ [it]) (by omega) (by omega) (by rw [List.length_append]; simp only [List.length_singleton]; omega)
    rw [List.append_assoc] at J
    exact J
   have E : ∀ k, pattern_Compile.l0 (k + 1) e acc (i : Int) = (if isA (e[i]'hlt) 42 = true then (pattern_Compile.l0 k e (acc ++ [(⟨3, (⟨#[]⟩ : ByteArray), false, ([] : List (S58))⟩ : S35)]) ((i + 1 : Nat) : Int)) else if isA (e[i]'hlt) 63 = true then (pattern_Compile.l0 k e (acc ++ [(⟨2, (⟨#[]⟩ : ByteArray), false, ([] : List (S58))⟩ : S35)]) ((i + 1 : Nat) : Int)) else if isA (e[i]'hlt) 91 = true then ((pattern_bracket.f k e (i : Int)).bind fun bt164 => (if bt164.2.2.2.2 > 0 then (pattern_Compile.l0 k e (acc ++ [(⟨bt164.1, bt164.2.1, bt164.2.2.1, bt164.2.2.2.1⟩ : S35)]) (wrap64 ((wrap64 (bt164.2.2.2.2 - 1)) + 1))) else (pattern_Compile.l0 k e (acc ++ [PBx (e[i]'hlt)]) ((i + 1 : Nat) : Int)))) else (pattern_Compile.l0 k e (acc ++ [PBx (e[i]'hlt)]) ((i + 1 : Nat) : Int))) := by
    intro k
    simp only [pattern_Compile.l0, Option.bind_some, if_pos hal]
    rw [if_pos (lift_lt hlt), if_pos (nn i), rd51 e i hlt]
    simp only [is_eq, Option.bind_some, wk1 h1 he9]
    rfl
   rw [hd]
   unfold compS
   by_cases a1 : isA (e[i]'hlt) 42 = true
   ·
    rw [if_pos a1]
    exact Ev.step (fun k => by rw [E, if_pos a1]) (nx _)
   ·
    rw [if_neg a1]
    by_cases a2 : isA (e[i]'hlt) 63 = true
    ·
     rw [if_pos a2]
     exact Ev.step (fun k => by rw [E, if_neg a1, if_pos a2]) (nx _)
    ·
     rw [if_neg a2]
     by_cases a3 : isA (e[i]'hlt) 91 = true
     ·
      rw [if_pos a3]
      have B := bracket_ev e he hE i hlt
      refine Ev.step (fun k => by rw [E, if_neg a1, if_neg a2, if_pos a3]) (Ev.bind B ?_)
      rw [← hd]
      cases hb : brL (e.drop i).length ((e.drop i).drop (begS (e.drop i))) true [] (begS (e.drop i)) with
      | none =>
       have hs : brS (e.drop i) = none := by unfold brS; rw [hb]; rfl
       rw [hs]
       refine Ev.congr (fun k => if_neg (show ¬ ((0 : Int) > 0) by decide)) ?_
       exact nx _
      | some q =>
       obtain ⟨rs, m⟩ := q
       have hs : brS (e.drop i) = some ((⟨4, (⟨#[]⟩ : ByteArray), negS (e.drop i), spS rs⟩ : S35), m) := by unfold brS; rw [hb]; rfl
       have hm := brS_len _ _ _ hs
       rw [List.length_drop] at hm
       have hpos : ((i + m : Nat) : Int) > 0 := by omega
       have him : 0 < i + m := by omega
       have him2 : i + m ≤ 1000000000000 := by omega
       have him3 : i + m - 1 ≤ e.length := by omega
       have hz : i + m - 1 + 1 = i + m := by omega
       rw [hs]
       refine Ev.congr (fun k => if_pos hpos) ?_
       show Ev (fun k => pattern_Compile.l0 k e (acc ++ [(⟨4, (⟨#[]⟩ : ByteArray), negS (e.drop i), spS rs⟩ : S35)]) (wrap64 ((wrap64 (((i + m : Nat) : Int) - 1)) + 1))) (acc ++ ((⟨4, (⟨#[]⟩ : ByteArray), negS (e.drop i), spS rs⟩ : S35) :: compS n ((e.drop i).drop m)))
       rw [wm1' him him2, wk1 him3 he9, hz, List.drop_drop]
       have J := ih (i + m) (acc ++ [(⟨4, (⟨#[]⟩ : ByteArray), negS (e.drop i), spS rs⟩ : S35)]) (by omega) (by omega) (by rw [List.length_append]; simp only [List.length_singleton]; omega)
       rw [List.append_assoc] at J
       exact J
     ·
      rw [if_neg a3]
      exact Ev.step (fun k => by rw [E, if_neg a1, if_neg a2, if_neg a3]) (nx _)
  ·
   rw [List.drop_eq_nil_of_le (by omega)]
   refine ev_at1 fun k => ?_
   simp only [pattern_Compile.l0]
   rw [if_neg (lift_not_lt hlt), show compS (n + 1) [] = [] from rfl, List.append_nil]
theorem els_in (l : List S47) : InE (elsS l) := by
 intro x hx
 unfold elsS at hx
 obtain ⟨r, _, hr⟩ := List.mem_flatMap.mp hx
 unfold els at hr
 split at hr
 ·
  obtain ⟨c, hc, rfl⟩ := List.mem_map.mp hr
  exact bl_range r.f0 c hc
 ·
  cases hr
def patS (l : List S47) : List S35 := compS ((elsS l).length + 1) (elsS l)
theorem compile_ev (l : List S47) (hl : l.length ≤ 1000000) (hs : ∀ r ∈ l, r.f0.size ≤ 1000000) (ht : (elsS l).length ≤ 1000000) : Ev (fun k => pattern_Compile.f k l) (patS l) := by
 unfold pattern_Compile.f
 refine Ev.bind (elements_ev l hl hs (by omega)) ?_
 have J := comp_l0 (elsS l) ht (els_in l) ((elsS l).length + 1) 0 [] (Nat.zero_le _) (by omega) (by rw [List.length_nil]; omega)
 rw [List.drop_zero, List.nil_append] at J
 exact J
end Go.Proofs.Ytbekhjcnmifnnaa.Pure
