/- Plain lemmas for chapter 04: the reference's elements, classes, members and sets. No conditions beyond those written at each. -/
import Derived.Test.YtbekhjcnmifnnaaLem9
import Derived.Test.YtbekhjcnmifnnaaLemV
import Derived.Test.YtbekhjcnmifnnaaQ38
set_option linter.unusedVariables false
set_option linter.unusedSimpArgs false
namespace Go.Proofs.Ytbekhjcnmifnnaa.Pure
open Go.RowKit Go.Proofs.Ytbekhjcnmifnnaa.Q Go.Proofs.YtbekhjcnmifnnaaW.PrintWords Go.Proofs.YtbekhjcnmifnnaaW.PrintLast

def toR (x : S51) : S65 := ⟨x.f0, x.f1⟩
theorem rd65 (e : List S51) (i : Nat) (h : i < e.length) : rd_T65 (e.map toR) (i : Int) = toR e[i] := by
 unfold rd_T65
 rw [List.getD_eq_getElem?_getD]
 simp [h]
theorem rd86 (xs : List S86) (i : Nat) (h : i < xs.length) : rd_T86 xs (i : Int) = xs[i] := by
 unfold rd_T86
 rw [List.getD_eq_getElem?_getD]
 simp [h]
theorem lenR (e : List S51) : ((e.map toR).length : Int) = (e.length : Int) := by rw [List.length_map]
/-! ### elements -/
theorem rel_l1 (l : List S47) (i : Nat) (hi : i < l.length) (hl : l.length ≤ 1000000) (hs : l[i].f0.size ≤ 1000000) (R : List S65) (d : Nat) : ∀ (j : Nat) (acc : List S51), j + d = l[i].f0.size → acc.length + d ≤ 10000000 →
 Ev (fun k => jobshellref04_elements.l0 k l ((acc ++ ((bl l[i].f0).drop j).map (elOf (l[i].f1 != 1))).map toR) ((i + 1 : Nat) : Int)) R →
 Ev (fun k => jobshellref04_elements.l1 k l (acc.map toR) i j) R := by
 have hl12 : l.length ≤ 1000000000000 := by omega
 have hi' : i ≤ l.length := by omega
 have hs12 : l[i].f0.size ≤ 1000000000000 := by omega
 induction d with
 | zero =>
  intro j acc hj ha I
  have h : ¬ j < l[i].f0.size := by omega
  rw [bl_done _ _ (by omega), List.map_nil, List.append_nil] at I
  refine Ev.step (fun k => ?_) I
  simp only [jobshellref04_elements.l1]
  rw [if_pos (nn i), if_pos (lift_lt hi), rd47 l i hi, if_neg (lift_not_lt h), w64n hi' hl12]
 | succ d ih =>
  intro j acc hj ha I
  have h : j < l[i].f0.size := by omega
  have h' : j ≤ l[i].f0.size := by omega
  have hal : (acc.map toR).length < 70368744177664 := by rw [List.length_map]; omega
  have J := ih (j + 1) (acc ++ [elOf (l[i].f1 != 1) (bt l[i].f0 j)]) (by omega) (by rw [List.length_append]; simp only [List.length_singleton]; omega) (by
   rw [bl_drop _ _ h, List.map_cons] at I
   rw [List.append_assoc]
   exact I)
  rw [List.map_append] at J
  refine Ev.step (fun k => ?_) J
  simp only [jobshellref04_elements.l1]
  rw [if_pos (nn i), if_pos (lift_lt hi), rd47 l i hi, if_pos (lift_lt h), if_pos (nn j), if_pos hal, w64n h' hs12]
  rfl
theorem rel_l0 (l : List S47) (hl : l.length ≤ 1000000) (hs : ∀ r ∈ l, r.f0.size ≤ 1000000) (d : Nat) : ∀ (i : Nat) (acc : List S51), i + d = l.length → acc.length + (elsS (l.drop i)).length ≤ 10000000 →
 Ev (fun k => jobshellref04_elements.l0 k l (acc.map toR) i) ((acc ++ elsS (l.drop i)).map toR) := by
 have hl12 : l.length ≤ 1000000000000 := by omega
 induction d with
 | zero =>
  intro i acc hi ha
  have h : ¬ i < l.length := by omega
  have e : elsS (l.drop i) = [] := by rw [List.drop_eq_nil_of_le (by omega)]; rfl
  rw [e, List.append_nil]
  refine ev_at1 fun k => ?_
  simp only [jobshellref04_elements.l0]
  rw [if_neg (lift_not_lt h)]
 | succ d ih =>
  intro i acc hi ha
  have h : i < l.length := by omega
  have h' : i ≤ l.length := by omega
  have e : elsS (l.drop i) = els l[i] ++ elsS (l.drop (i + 1)) := by
   rw [List.drop_eq_getElem_cons h]
   rfl
  rw [e, List.length_append] at ha
  have hsz := hs _ (List.getElem_mem h)
  have T : ∀ b : Bool, els l[i] = [] → b = true → Ev (fun k => jobshellref04_elements.j1 k l (acc.map toR) i b) ((acc ++ elsS (l.drop i)).map toR) := by
   intro b hb e2
   subst e2
   have J := ih (i + 1) acc (by omega) (by omega)
   rw [e, hb, List.nil_append]
   refine Ev.step (fun k => ?_) J
   simp only [jobshellref04_elements.j1, if_true]
   rw [w64n h' hl12]
  have F : ∀ b : Bool, els l[i] = (bl l[i].f0).map (elOf (l[i].f1 != 1)) → b = false → Ev (fun k => jobshellref04_elements.j1 k l (acc.map toR) i b) ((acc ++ elsS (l.drop i)).map toR) := by
   intro b hb e2
   subst e2
   have J := ih (i + 1) (acc ++ els l[i]) (by omega) (by rw [List.length_append]; omega)
   have hlen : (els l[i]).length = l[i].f0.size := by rw [hb, List.length_map, bl_len]
   rw [e, ← List.append_assoc]
   refine Ev.step (fun k => ?_) (rel_l1 l i h hl hsz _ l[i].f0.size 0 acc (by omega) (by omega) (by rw [List.drop_zero, ← hb]; exact J))
   simp only [jobshellref04_elements.j1, Bool.false_eq_true, if_false]
   rfl
  have S : ∀ b : Bool, (∀ k, (if l[i].f1 = 0 then jobshellref04_elements.j1 k l (acc.map toR) i false else if l[i].f1 = 1 then jobshellref04_elements.j1 k l (acc.map toR) i false else jobshellref04_elements.j1 k l (acc.map toR) i (l[i].f1 != 2)) = jobshellref04_elements.j1 k l (acc.map toR) i b) →
   Ev (fun k => jobshellref04_elements.j1 k l (acc.map toR) i b) ((acc ++ elsS (l.drop i)).map toR) → Ev (fun k => jobshellref04_elements.l0 k l (acc.map toR) i) ((acc ++ elsS (l.drop i)).map toR) := by
   intro b hb hE
   refine Ev.step (fun k => ?_) hE
   simp only [jobshellref04_elements.l0]
   rw [if_pos (lift_lt h), if_pos (nn i), rd47 l i h]
   exact hb k
  by_cases h0 : l[i].f1 = 0
  ·
   exact S false (fun k => if_pos h0) (F false (if_pos (.inl h0)) rfl)
  ·
   by_cases h1 : l[i].f1 = 1
   ·
    exact S false (fun k => by rw [if_neg h0, if_pos h1]) (F false (if_pos (.inr (.inl h1))) rfl)
   ·
    by_cases h2 : l[i].f1 = 2
    ·
     have e2 : (l[i].f1 != 2) = false := bne_eq_false_iff_eq.mpr h2
     exact S (l[i].f1 != 2) (fun k => by rw [if_neg h0, if_neg h1]) (F _ (if_pos (.inr (.inr h2))) e2)
    ·
     have e2 : (l[i].f1 != 2) = true := bne_iff_ne.mpr h2
     exact S (l[i].f1 != 2) (fun k => by rw [if_neg h0, if_neg h1]) (T _ (if_neg (by rintro (h | h | h); exact h0 h; exact h1 h; exact h2 h)) e2)
theorem relements_ev (l : List S47) (hl : l.length ≤ 1000000) (hs : ∀ r ∈ l, r.f0.size ≤ 1000000) (ht : (elsS l).length ≤ 10000000) : Ev (fun k => jobshellref04_elements.f k l) ((elsS l).map toR) := by
 have := rel_l0 l hl hs l.length 0 [] (by omega) (by rw [List.drop_zero, List.length_nil]; omega)
 rw [List.drop_zero, List.nil_append] at this
 exact this
/-! ### is, says -/
def isR : List S51 → Int → Bool
 | x :: _, c => isA x c
 | [], _ => false
theorem ris_eq (e : List S51) (i : Nat) (c : Int) : jobshellref04_is.f (e.map toR) (i : Int) c = some (isR (e.drop i) c) := by
 unfold jobshellref04_is.f
 by_cases h : i < e.length
 ·
  rw [lenR, if_pos (lift_lt h), if_pos (nn i), rd65 e i h, List.drop_eq_getElem_cons h]
  show (if e[i].f1 = true then some (e[i].f0 == c) else some false) = some (e[i].f1 && (e[i].f0 == c))
  cases e[i].f1 <;> rfl
 ·
  rw [lenR, if_neg (lift_not_lt h), List.drop_eq_nil_of_le (by omega)]
  rfl
def saysS : List S51 → List Int → Bool
 | _, [] => true
 | x :: u, c :: cs => isA x c && saysS u cs
 | [], _ :: _ => false
theorem says_nil (u : List S51) : saysS u [] = true := by cases u <;> rfl
theorem says_l0 (e : List S51) (he : e.length ≤ 1000000) (i : Nat) (hi : i ≤ e.length) (t : ByteArray) (ht : t.size ≤ 1000) (d : Nat) : ∀ j : Nat, j + d = t.size →
 Ev (fun k => jobshellref04_says.l0 k (e.map toR) (i : Int) t (j : Int)) (saysS (e.drop (i + j)) ((bl t).drop j)) := by
 have hi9 : i ≤ 1000000000 := by omega
 have ht9 : t.size ≤ 1000000000 := by omega
 induction d with
 | zero =>
  intro j hj
  have h : ¬ j < t.size := by omega
  rw [bl_done t j (by omega)]
  refine ev_at1 fun k => ?_
  simp only [jobshellref04_says.l0]
  rw [if_neg (lift_not_lt h)]
  cases e.drop (i + j) <;> rfl
 | succ d ih =>
  intro j hj
  have h : j < t.size := by omega
  have hj1 : j ≤ 1000 := by omega
  have hj' : j ≤ t.size := by omega
  have J := ih (j + 1) (by omega)
  rw [bl_drop t j h]
  have E : ∀ k, jobshellref04_says.l0 (k + 1) (e.map toR) (i : Int) t (j : Int) = (if isR (e.drop (i + j)) (bt t j) = true then jobshellref04_says.l0 k (e.map toR) (i : Int) t ((j + 1 : Nat) : Int) else some false) := by
   intro k
   simp only [jobshellref04_says.l0]
   rw [if_pos (lift_lt h), if_pos (nn j), wk (Nat.le_refl i) hi9 hj1, ris_eq, Option.bind_some, wk1 hj' ht9]
  by_cases h2 : i + j < e.length
  ·
   have hd := List.drop_eq_getElem_cons h2
   rw [hd] at E ⊢
   by_cases ha : isA (e[i + j]'h2) (bt t j) = true
   ·
    have e1 : saysS (e[i + j] :: e.drop (i + j + 1)) (bt t j :: (bl t).drop (j + 1)) = saysS (e.drop (i + (j + 1))) ((bl t).drop (j + 1)) := by
     show (isA _ _ && _) = _
     rw [ha, Bool.true_and]
     rfl
    rw [e1]
    exact Ev.step (fun k => by rw [E, if_pos (show isR (e[i + j] :: _) (bt t j) = true from ha)]) J
   ·
    have e1 : saysS (e[i + j] :: e.drop (i + j + 1)) (bt t j :: (bl t).drop (j + 1)) = false := by
     show (isA _ _ && _) = _
     rw [Bool.eq_false_iff.mpr ha, Bool.false_and]
    rw [e1]
    exact ev_at1 fun k => by rw [E, if_neg (show ¬ isR (e[i + j] :: _) (bt t j) = true from ha)]
  ·
   rw [List.drop_eq_nil_of_le (by omega : e.length ≤ i + j)] at E ⊢
   exact ev_at1 fun k => by rw [E, if_neg (show ¬ isR [] (bt t j) = true by simp [isR])]; rfl
theorem says_ev (e : List S51) (he : e.length ≤ 1000000) (i : Nat) (hi : i ≤ e.length) (t : ByteArray) (ht : t.size ≤ 1000) : Ev (fun k => jobshellref04_says.f k (e.map toR) (i : Int) t) (saysS (e.drop i) (bl t)) := by
 have := says_l0 e he i hi t ht t.size 0 (by omega)
 exact this
/-! ### names -/
def fullS (n : ByteArray) : List Int := 91 :: 58 :: (bl n ++ [58, 93])
theorem nameL_says (u : List S51) : ∀ (a : ByteArray) (m : Nat) (n : ByteArray) (q : Nat), InE u → nameL u a m = some (n, q) → ∃ cs, bl n = bl a ++ cs ∧ q = m + cs.length + 2 ∧ saysS u (cs ++ [58, 93]) = true := by
 induction u with
 | nil => exact fun a m n q _ h => absurd h (by simp [nameL])
 | cons x u ih =>
  intro a m n q hE h
  cases u with
  | nil => exact absurd h (by simp [nameL])
  | cons y r =>
   unfold nameL at h
   by_cases h1 : x.f1 = true ∧ a.size < 6
   ·
    rw [if_pos h1] at h
    by_cases h2 : x.f0 = 58
    ·
     rw [if_pos h2] at h
     by_cases h3 : isA y 93 = true
     ·
      rw [if_pos h3] at h
      obtain ⟨rfl, rfl⟩ := Prod.mk.inj (Option.some.inj h)
      refine ⟨[], (List.append_nil _).symm, rfl, ?_⟩
      show (isA x 58 && (isA y 93 && saysS r [])) = true
      rw [h3, says_nil]
      unfold isA
      rw [h1.1, h2]
      rfl
     ·
      rw [if_neg h3] at h
      exact absurd h (by simp)
    ·
     rw [if_neg h2] at h
     have hx := hE x (List.mem_cons_self ..)
     obtain ⟨cs, e1, e2, e3⟩ := ih _ _ _ _ (fun z hz => hE z (List.mem_cons_of_mem _ hz)) h
     refine ⟨x.f0 :: cs, ?_, ?_, ?_⟩
     ·
      rw [e1, bl_append, bl_str1 _ hx.1 hx.2, List.append_assoc]
      rfl
     ·
      rw [e2, List.length_cons]
      omega
     ·
      show (isA x x.f0 && saysS (y :: r) (cs ++ [58, 93])) = true
      rw [e3]
      unfold isA
      rw [h1.1]
      simp
   ·
    rw [if_neg h1] at h
    exact absurd h (by simp)
theorem says_nameL (cs : List Int) : ∀ (u : List S51) (a : ByteArray) (m : Nat), (∀ c ∈ cs, 0 ≤ c ∧ c ≤ 255 ∧ c ≠ 58) → a.size + cs.length < 6 → saysS u (cs ++ [58, 93]) = true → ∃ n, nameL u a m = some (n, m + cs.length + 2) ∧ bl n = bl a ++ cs := by
 induction cs with
 | nil =>
  intro u a m _ ha h
  cases u with
  | nil => exact absurd h (by simp [saysS])
  | cons x u =>
   cases u with
   | nil => exact absurd h (by simp [saysS])
   | cons y r =>
    have h' : (isA x 58 && (isA y 93 && saysS r [])) = true := h
    rw [Bool.and_eq_true, Bool.and_eq_true] at h'
    have hx := h'.1
    unfold isA at hx
    rw [Bool.and_eq_true, beq_iff_eq] at hx
    refine ⟨a, ?_, (List.append_nil _).symm⟩
    unfold nameL
    rw [if_pos ⟨hx.1, by simpa using ha⟩, if_pos hx.2, if_pos h'.2.1]
    rfl
 | cons c cs ih =>
  intro u a m hc ha h
  have hcc := hc c (List.mem_cons_self ..)
  rw [List.length_cons] at ha
  cases u with
  | nil => exact absurd h (by simp [saysS])
  | cons x u =>
   have h' : (isA x c && saysS u (cs ++ [58, 93])) = true := h
   rw [Bool.and_eq_true] at h'
   have hx := h'.1
   unfold isA at hx
   rw [Bool.and_eq_true, beq_iff_eq] at hx
   cases u with
   | nil =>
    exfalso
    cases cs with
    | nil => exact absurd h'.2 (by simp [saysS])
    | cons c' cs => exact absurd h'.2 (by simp [saysS])
   | cons y r =>
    obtain ⟨n, e1, e2⟩ := ih (y :: r) (a ++ strOfNums [x.f0]) (m + 1) (fun z hz => hc z (List.mem_cons_of_mem _ hz)) (by rw [ByteArray.size_append, strOfNums_size, List.length_singleton]; omega) h'.2
    refine ⟨n, ?_, ?_⟩
    ·
     unfold nameL
     rw [if_pos ⟨hx.1, by omega⟩, if_neg (by rw [hx.2]; exact hcc.2.2), e1]
     rw [List.length_cons]
     congr 2
     omega
    ·
     rw [e2, bl_append, hx.2, bl_str1 c hcc.1 hcc.2.1, List.append_assoc]
     rfl
theorem says_name (u : List S51) (hE : InE u) (n : ByteArray) (hn : n.size < 6) (h58 : ∀ c ∈ bl n, c ≠ 58) : saysS u (fullS n) = true ↔ nameS u = some (n, n.size + 4) := by
 have hb := bl_len n
 constructor
 ·
  intro h
  cases u with
  | nil => exact absurd h (by simp [saysS, fullS])
  | cons x u =>
   cases u with
   | nil => exact absurd h (by simp [saysS, fullS])
   | cons y r =>
    have h' : (isA x 91 && (isA y 58 && saysS r (bl n ++ [58, 93]))) = true := h
    rw [Bool.and_eq_true, Bool.and_eq_true] at h'
    obtain ⟨n', e1, e2⟩ := says_nameL (bl n) r (⟨#[]⟩ : ByteArray) 2 (fun c hc => ⟨(bl_range n c hc).1, (bl_range n c hc).2, h58 c hc⟩) (by rw [hb]; show 0 + n.size < 6; omega) h'.2.2
    have : n' = n := bl_inj (by rw [e2]; rfl)
    subst this
    rw [nameS_cons, if_pos ⟨h'.1, h'.2.1⟩, e1, hb]
    congr 2
    omega
 ·
  intro h
  cases u with
  | nil => exact absurd h (by simp [nameS])
  | cons x u =>
   cases u with
   | nil => exact absurd h (by simp [nameS])
   | cons y r =>
    rw [nameS_cons] at h
    by_cases h1 : isA x 91 = true ∧ isA y 58 = true
    ·
     rw [if_pos h1] at h
     obtain ⟨cs, e1, e2, e3⟩ := nameL_says r _ _ _ _ (fun z hz => hE z (List.mem_cons_of_mem _ (List.mem_cons_of_mem _ hz))) h
     have : bl n = cs := e1
     show (isA x 91 && (isA y 58 && saysS r (bl n ++ [58, 93]))) = true
     rw [h1.1, h1.2, this, e3]
     rfl
    ·
     rw [if_neg h1] at h
     exact absurd h (by simp)
theorem nameS_size (u : List S51) (hE : InE u) (n : ByteArray) (q : Nat) (h : nameS u = some (n, q)) : q = n.size + 4 := by
 cases u with
 | nil => exact absurd h (by simp [nameS])
 | cons x u =>
  cases u with
  | nil => exact absurd h (by simp [nameS])
  | cons y r =>
   rw [nameS_cons] at h
   by_cases h1 : isA x 91 = true ∧ isA y 58 = true
   ·
    rw [if_pos h1] at h
    obtain ⟨cs, e1, e2, e3⟩ := nameL_says r _ _ _ _ (fun z hz => hE z (List.mem_cons_of_mem _ (List.mem_cons_of_mem _ hz))) h
    have : bl n = cs := e1
    rw [← bl_len n, this, e2]
    omega
   ·
    rw [if_neg h1] at h
    exact absurd h (by simp)
end Go.Proofs.Ytbekhjcnmifnnaa.Pure
