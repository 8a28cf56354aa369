/- Plain lemmas for chapter 04: the reference's members, sets, brackets and Compile come to compS, too. No conditions beyond those written at each. -/
import Derived.Test.YtbekhjcnmifnnaaLem10
set_option linter.unusedVariables false
set_option linter.unusedSimpArgs false
namespace Go.Proofs.Ytbekhjcnmifnnaa.Pure
open Go.RowKit Go.Proofs.Ytbekhjcnmifnnaa.Q Go.Proofs.YtbekhjcnmifnnaaW.PrintWords Go.Proofs.YtbekhjcnmifnnaaW.PrintLast

def classL : List S86 := [(⟨(⟨#[97, 108, 112, 104, 97]⟩ : ByteArray), (([(⟨65, 90⟩ : S58), (⟨97, 122⟩ : S58)] : List (S58)))⟩ : S86), (⟨(⟨#[100, 105, 103, 105, 116]⟩ : ByteArray), (([(⟨48, 57⟩ : S58)] : List (S58)))⟩ : S86), (⟨(⟨#[97, 108, 110, 117, 109]⟩ : ByteArray), (([(⟨48, 57⟩ : S58), (⟨65, 90⟩ : S58), (⟨97, 122⟩ : S58)] : List (S58)))⟩ : S86), (⟨(⟨#[117, 112, 112, 101, 114]⟩ : ByteArray), (([(⟨65, 90⟩ : S58)] : List (S58)))⟩ : S86), (⟨(⟨#[108, 111, 119, 101, 114]⟩ : ByteArray), (([(⟨97, 122⟩ : S58)] : List (S58)))⟩ : S86), (⟨(⟨#[115, 112, 97, 99, 101]⟩ : ByteArray), (([(⟨9, 13⟩ : S58), (⟨32, 32⟩ : S58)] : List (S58)))⟩ : S86), (⟨(⟨#[98, 108, 97, 110, 107]⟩ : ByteArray), (([(⟨9, 9⟩ : S58), (⟨32, 32⟩ : S58)] : List (S58)))⟩ : S86), (⟨(⟨#[112, 117, 110, 99, 116]⟩ : ByteArray), (([(⟨33, 47⟩ : S58), (⟨58, 64⟩ : S58), (⟨91, 96⟩ : S58), (⟨123, 126⟩ : S58)] : List (S58)))⟩ : S86)]
theorem classes_eq : jobshellref04_classes.f = some classL := rfl
def findC : List S86 → List S51 → Option (List S58 × Nat)
 | [], _ => none
 | c :: r, u => if saysS u (fullS c.f0) = true then some (c.f1, c.f0.size + 4) else findC r u
def rplainS : List S51 → List S58 × Nat
 | x :: y :: z :: _ => if isA y 45 = true ∧ ¬ isA z 93 = true then ((if x.f0 ≤ z.f0 then [⟨x.f0, z.f0⟩] else []), 3) else ([⟨x.f0, x.f0⟩], 1)
 | x :: _ => ([⟨x.f0, x.f0⟩], 1)
 | [] => ([], 1)
def memR (u : List S51) : List S58 × Nat := (findC classL u).getD (rplainS u)
theorem find_none (u : List S51) (cl : List S86) (h : ∀ c ∈ cl, ¬ saysS u (fullS c.f0) = true) : findC cl u = none := by
 induction cl with
 | nil => rfl
 | cons c cl ih =>
  unfold findC
  rw [if_neg (h c (List.mem_cons_self ..))]
  exact ih fun x hx => h x (List.mem_cons_of_mem _ hx)
theorem class_ok : ∀ c ∈ classL, c.f0.size < 6 ∧ (∀ b ∈ bl c.f0, b ≠ 58) := by decide
theorem says_lit (u : List S51) (hE : InE u) (nm : ByteArray) (q : Nat) (hn : nameS u = some (nm, q)) (n : ByteArray) (h1 : n.size < 6) (h2 : ∀ c ∈ bl n, c ≠ 58) (L : List UInt8) (hL : n.toList = L) : saysS u (fullS n) = true ↔ nm.toList = L := by
 rw [says_name u hE n h1 h2, hn]
 have hq := nameS_size u hE nm q hn
 constructor
 ·
  intro h
  obtain ⟨rfl, _⟩ := Prod.mk.inj (Option.some.inj h)
  exact hL
 ·
  intro h
  rw [← hL, Go.ByteArray.toList_eq, Go.ByteArray.toList_eq] at h
  have : nm = n := by
   cases nm; cases n
   congr
   exact Array.toList_inj.mp h
  subst this
  rw [hq]
theorem lit_toList (l : List UInt8) : (⟨l.toArray⟩ : ByteArray).toList = l := by
 rw [Go.ByteArray.toList_eq]
theorem or3 (a b c : Bool) : (a || (b || c)) = (b || (c || a)) := by cases a <;> cases b <;> cases c <;> rfl
theorem find_same (u : List S51) (hE : InE u) : (findC classL u = none ∧ clsS u = none) ∨ ∃ cs' cs m, findC classL u = some (cs', m) ∧ clsS u = some (cs, m) ∧ (∀ b, inS cs' b = inS cs b) ∧ cs'.length ≤ 4 := by
 cases hn : nameS u with
 | none =>
  left
  refine ⟨find_none u classL fun c hc h => ?_, by unfold clsS; rw [hn]; rfl⟩
  have h1 := class_ok c hc
  rw [says_name u hE c.f0 h1.1 h1.2, hn] at h
  cases h
 | some p =>
  obtain ⟨nm, q⟩ := p
  have hq := nameS_size u hE nm q hn
  have hc : clsS u = (rngS nm).map fun cs => (cs, q) := by unfold clsS; rw [hn]; rfl
  have L : ∀ c ∈ classL, ∀ l : List UInt8, c.f0.toList = l → (saysS u (fullS c.f0) = true ↔ nm.toList = l) := fun c hc l hl => says_lit u hE nm q hn c.f0 (class_ok c hc).1 (class_ok c hc).2 l hl
  have s0 := L classL[0] (List.getElem_mem _) [97, 108, 112, 104, 97] (lit_toList _)
  have s1 := L classL[1] (List.getElem_mem _) [100, 105, 103, 105, 116] (lit_toList _)
  have s2 := L classL[2] (List.getElem_mem _) [97, 108, 110, 117, 109] (lit_toList _)
  have s3 := L classL[3] (List.getElem_mem _) [117, 112, 112, 101, 114] (lit_toList _)
  have s4 := L classL[4] (List.getElem_mem _) [108, 111, 119, 101, 114] (lit_toList _)
  have s5 := L classL[5] (List.getElem_mem _) [115, 112, 97, 99, 101] (lit_toList _)
  have s6 := L classL[6] (List.getElem_mem _) [98, 108, 97, 110, 107] (lit_toList _)
  have s7 := L classL[7] (List.getElem_mem _) [112, 117, 110, 99, 116] (lit_toList _)
  have hsz : ∀ l : List UInt8, nm.toList = l → nm.size = l.length := by
   intro l h
   rw [← h, Go.ByteArray.toList_eq, Array.length_toList]
   rfl
  have F : findC classL u = (if saysS u (fullS classL[0].f0) = true then some (classL[0].f1, classL[0].f0.size + 4) else if saysS u (fullS classL[1].f0) = true then some (classL[1].f1, classL[1].f0.size + 4) else if saysS u (fullS classL[2].f0) = true then some (classL[2].f1, classL[2].f0.size + 4) else if saysS u (fullS classL[3].f0) = true then some (classL[3].f1, classL[3].f0.size + 4) else if saysS u (fullS classL[4].f0) = true then some (classL[4].f1, classL[4].f0.size + 4) else if saysS u (fullS classL[5].f0) = true then some (classL[5].f1, classL[5].f0.size + 4) else if saysS u (fullS classL[6].f0) = true then some (classL[6].f1, classL[6].f0.size + 4) else if saysS u (fullS classL[7].f0) = true then some (classL[7].f1, classL[7].f0.size + 4) else none) := rfl
  have same : ∀ (cs' cs : List S58) (z : Nat), findC classL u = some (cs', z + 4) → rngS nm = some cs → nm.size = z → (∀ b, inS cs' b = inS cs b) → cs'.length ≤ 4 → ((findC classL u = none ∧ clsS u = none) ∨ ∃ cs' cs m, findC classL u = some (cs', m) ∧ clsS u = some (cs, m) ∧ (∀ b, inS cs' b = inS cs b) ∧ cs'.length ≤ 4) := by
   intro cs' cs z h1 h2 h3 h4 h5
   refine .inr ⟨cs', cs, z + 4, h1, ?_, h4, h5⟩
   rw [hc, h2, hq, h3]
   rfl
  rw [F]
  rw [F] at same
  by_cases c0 : nm.toList = ([97, 108, 112, 104, 97] : List UInt8)
  ·
   exact same _ _ 5 (if_pos (s0.mpr c0)) (if_pos c0) (hsz _ c0) (fun b => rfl) (by decide)
  rw [if_neg (fun h => c0 (s0.mp h))] at same ⊢
  by_cases c1 : nm.toList = ([100, 105, 103, 105, 116] : List UInt8)
  ·
   exact same _ _ 5 (if_pos (s1.mpr c1)) ((if_neg c0).trans (if_pos c1)) (hsz _ c1) (fun b => rfl) (by decide)
  rw [if_neg (fun h => c1 (s1.mp h))] at same ⊢
  by_cases c2 : nm.toList = ([97, 108, 110, 117, 109] : List UInt8)
  ·
   refine same _ _ 5 (if_pos (s2.mpr c2)) ((if_neg c0).trans ((if_neg c1).trans (if_pos c2))) (hsz _ c2) (fun b => ?_) (by decide)
   show (_ || (_ || (_ || false))) = (_ || (_ || (_ || false)))
   rw [Bool.or_false, Bool.or_false]
   exact or3 _ _ _
  rw [if_neg (fun h => c2 (s2.mp h))] at same ⊢
  by_cases c3 : nm.toList = ([117, 112, 112, 101, 114] : List UInt8)
  ·
   exact same _ _ 5 (if_pos (s3.mpr c3)) ((if_neg c0).trans ((if_neg c1).trans ((if_neg c2).trans (if_pos c3)))) (hsz _ c3) (fun b => rfl) (by decide)
  rw [if_neg (fun h => c3 (s3.mp h))] at same ⊢
  by_cases c4 : nm.toList = ([108, 111, 119, 101, 114] : List UInt8)
  ·
   exact same _ _ 5 (if_pos (s4.mpr c4)) ((if_neg c0).trans ((if_neg c1).trans ((if_neg c2).trans ((if_neg c3).trans (if_pos c4))))) (hsz _ c4) (fun b => rfl) (by decide)
  rw [if_neg (fun h => c4 (s4.mp h))] at same ⊢
  by_cases c5 : nm.toList = ([115, 112, 97, 99, 101] : List UInt8)
  ·
   exact same _ _ 5 (if_pos (s5.mpr c5)) ((if_neg c0).trans ((if_neg c1).trans ((if_neg c2).trans ((if_neg c3).trans ((if_neg c4).trans (if_pos c5)))))) (hsz _ c5) (fun b => rfl) (by decide)
  rw [if_neg (fun h => c5 (s5.mp h))] at same ⊢
  by_cases c6 : nm.toList = ([98, 108, 97, 110, 107] : List UInt8)
  ·
   exact same _ _ 5 (if_pos (s6.mpr c6)) ((if_neg c0).trans ((if_neg c1).trans ((if_neg c2).trans ((if_neg c3).trans ((if_neg c4).trans ((if_neg c5).trans (if_pos c6))))))) (hsz _ c6) (fun b => rfl) (by decide)
  rw [if_neg (fun h => c6 (s6.mp h))] at same ⊢
  by_cases c7 : nm.toList = ([112, 117, 110, 99, 116] : List UInt8)
  ·
   exact same _ _ 5 (if_pos (s7.mpr c7)) ((if_neg c0).trans ((if_neg c1).trans ((if_neg c2).trans ((if_neg c3).trans ((if_neg c4).trans ((if_neg c5).trans ((if_neg c6).trans (if_pos c7)))))))) (hsz _ c7) (fun b => rfl) (by decide)
  rw [if_neg (fun h => c7 (s7.mp h))] at same ⊢
  refine .inl ⟨rfl, ?_⟩
  rw [hc, show rngS nm = none from (if_neg c0).trans ((if_neg c1).trans ((if_neg c2).trans ((if_neg c3).trans ((if_neg c4).trans ((if_neg c5).trans ((if_neg c6).trans (if_neg c7)))))))]
  rfl
theorem plain_same (u : List S51) : (rplainS u).2 = (plainS u).2 ∧ (∀ b, inS (rplainS u).1 b = inS (plainS u).1 b) ∧ (rplainS u).1.length ≤ 4 := by
 cases u with
 | nil => exact ⟨rfl, fun _ => rfl, by decide⟩
 | cons x u =>
  cases u with
  | nil => exact ⟨rfl, fun _ => rfl, by show 1 ≤ 4; decide⟩
  | cons y u =>
   cases u with
   | nil => exact ⟨rfl, fun _ => rfl, by show 1 ≤ 4; decide⟩
   | cons z u =>
    rw [show rplainS (x :: y :: z :: u) = (if isA y 45 = true ∧ ¬ isA z 93 = true then ((if x.f0 ≤ z.f0 then [⟨x.f0, z.f0⟩] else []), 3) else ([⟨x.f0, x.f0⟩], 1)) from rfl, show plainS (x :: y :: z :: u) = (if isA y 45 = true ∧ ¬ isA z 93 = true then ([⟨x.f0, z.f0⟩], 3) else ([⟨x.f0, x.f0⟩], 1)) from rfl]
    by_cases h : isA y 45 = true ∧ ¬ isA z 93 = true
    ·
     rw [if_pos h, if_pos h]
     by_cases h2 : x.f0 ≤ z.f0
     ·
      rw [if_pos h2]
      exact ⟨rfl, fun _ => rfl, by show 1 ≤ 4; decide⟩
     ·
      rw [if_neg h2]
      refine ⟨rfl, fun b => ?_, by show 0 ≤ 4; decide⟩
      show inS [] b = inS [_] b
      rw [inS_one]
      show false = _
      symm
      rw [Bool.and_eq_false_iff, decide_eq_false_iff_not, decide_eq_false_iff_not]
      omega
    ·
     rw [if_neg h, if_neg h]
     exact ⟨rfl, fun _ => rfl, by show 1 ≤ 4; decide⟩
theorem mem_same (u : List S51) (hE : InE u) : (memR u).2 = (memS u).2 ∧ (∀ b, inS (memR u).1 b = inS (memS u).1 b) ∧ (memR u).1.length ≤ 4 := by
 unfold memR memS
 rcases find_same u hE with ⟨h1, h2⟩ | ⟨cs', cs, m, h1, h2, h3, h4⟩
 ·
  rw [h1, h2]
  exact plain_same u
 ·
  rw [h1, h2]
  exact ⟨rfl, h3, h4⟩
/-! ### member -/
theorem rplain_ev (e : List S51) (he : e.length ≤ 1000000) (i : Nat) (hi : i < e.length) (cl : List S86) : Ev (fun k => jobshellref04_member.l0 k (e.map toR) (i : Int) cl (cl.length : Int)) ((rplainS (e.drop i)).1, ((i + (rplainS (e.drop i)).2 : Nat) : Int)) := by
 have he9 : e.length ≤ 1000000000 := by omega
 have hi' : i ≤ e.length := by omega
 have hd := List.drop_eq_getElem_cons hi
 have hmm : ¬ ((cl.length : Int) < (cl.length : Int)) := Int.lt_irrefl _
 have one : Ev (fun k => jobshellref04_member.j1 k (e.map toR) (i : Int) (e[i]'hi).f0 false) ([(⟨(e[i]'hi).f0, (e[i]'hi).f0⟩ : S58)], ((i + 1 : Nat) : Int)) := ev_at1 fun k => by
  simp only [jobshellref04_member.j1, Bool.false_eq_true, if_false]
  rw [wk1 hi' he9]
 have E : ∀ k, jobshellref04_member.l0 (k + 1) (e.map toR) (i : Int) cl (cl.length : Int) = (if isR (e.drop (i + 1)) 45 = true then (if ((i + 2 : Nat) : Int) < (e.length : Int) then (jobshellref04_member.j1 k (e.map toR) (i : Int) (e[i]'hi).f0 (!isR (e.drop (i + 2)) 93)) else (jobshellref04_member.j1 k (e.map toR) (i : Int) (e[i]'hi).f0 false)) else (jobshellref04_member.j1 k (e.map toR) (i : Int) (e[i]'hi).f0 false)) := by
  intro k
  simp only [jobshellref04_member.l0]
  rw [if_neg hmm, if_pos (nn i), lenR, if_pos (lift_lt hi), wk1 hi' he9, ris_eq, Option.bind_some, wk2 hi' he9, ris_eq, Option.bind_some, rd65 e i hi]
  rfl
 by_cases h2 : i + 2 < e.length
 ·
  have h1 : i + 1 < e.length := by omega
  have hd1 := List.drop_eq_getElem_cons h1
  have hd2 := List.drop_eq_getElem_cons h2
  have hp : rplainS (e.drop i) = if isA (e[i + 1]'h1) 45 = true ∧ ¬ isA (e[i + 2]'h2) 93 = true then ((if (e[i]'hi).f0 ≤ (e[i + 2]'h2).f0 then [⟨(e[i]'hi).f0, (e[i + 2]'h2).f0⟩] else []), 3) else ([⟨(e[i]'hi).f0, (e[i]'hi).f0⟩], 1) := by
   rw [hd, hd1, hd2]
   rfl
  have r1 : isR (e.drop (i + 1)) 45 = isA (e[i + 1]'h1) 45 := by rw [hd1]; rfl
  have r2 : isR (e.drop (i + 2)) 93 = isA (e[i + 2]'h2) 93 := by rw [hd2]; rfl
  rw [r1, r2] at E
  by_cases a1 : isA (e[i + 1]'h1) 45 = true
  ·
   by_cases a2 : isA (e[i + 2]'h2) 93 = true
   ·
    rw [if_neg (fun h => h.2 a2)] at hp
    rw [hp]
    exact Ev.step (fun k => by rw [E, if_pos a1, if_pos (lift_lt h2), a2]; rfl) one
   ·
    rw [if_pos ⟨a1, a2⟩] at hp
    rw [hp]
    refine Ev.step (fun k => by rw [E, if_pos a1, if_pos (lift_lt h2), Bool.eq_false_iff.mpr a2]) (ev_at1 (g := fun k => jobshellref04_member.j1 k (e.map toR) (i : Int) (e[i]'hi).f0 (!false)) fun k => ?_)
    simp only [jobshellref04_member.j1, Bool.not_false, if_true]
    rw [wk2 hi' he9, if_pos (nn _), lenR, if_pos (lift_lt h2), rd65 e _ h2, wk3 hi' he9]
    show (if (e[i]'hi).f0 ≤ (e[i + 2]'h2).f0 then _ else _) = _
    split <;> rfl
  ·
   rw [if_neg (fun h => a1 h.1)] at hp
   rw [hp]
   exact Ev.step (fun k => by rw [E, if_neg a1]) one
 ·
  have hp : rplainS (e.drop i) = ([⟨(e[i]'hi).f0, (e[i]'hi).f0⟩], 1) := by
   rw [hd]
   by_cases h1 : i + 1 < e.length
   ·
    rw [List.drop_eq_getElem_cons h1, List.drop_eq_nil_of_le (by omega)]
    rfl
   ·
    rw [List.drop_eq_nil_of_le (by omega)]
    rfl
  rw [hp]
  refine Ev.step (fun k => ?_) one
  rw [E, if_neg (lift_not_lt h2)]
  split <;> rfl
theorem full_eq (n : ByteArray) : bl (((⟨#[91, 58]⟩ : ByteArray) ++ n) ++ (⟨#[58, 93]⟩ : ByteArray)) = fullS n := by
 rw [bl_append, bl_append]
 rfl
theorem full_size (n : ByteArray) : (((⟨#[91, 58]⟩ : ByteArray) ++ n) ++ (⟨#[58, 93]⟩ : ByteArray)).size = n.size + 4 := by
 rw [ByteArray.size_append, ByteArray.size_append]
 show 2 + n.size + 2 = _
 omega
theorem mem_l0 (e : List S51) (he : e.length ≤ 1000000) (i : Nat) (hi : i < e.length) (cl : List S86) (hc : ∀ c ∈ cl, c.f0.size < 6) (hcl : cl.length ≤ 100) (d : Nat) : ∀ j : Nat, j + d = cl.length →
 Ev (fun k => jobshellref04_member.l0 k (e.map toR) (i : Int) cl (j : Int)) (((findC (cl.drop j) (e.drop i)).getD (rplainS (e.drop i))).1, ((i + ((findC (cl.drop j) (e.drop i)).getD (rplainS (e.drop i))).2 : Nat) : Int)) := by
 have hi' : i ≤ e.length := by omega
 have he9 : e.length ≤ 1000000000 := by omega
 have hcl9 : cl.length ≤ 1000000000 := by omega
 induction d with
 | zero =>
  intro j hj
  obtain rfl : j = cl.length := by omega
  rw [List.drop_length]
  exact rplain_ev e he i hi cl
 | succ d ih =>
  intro j hj
  have h : j < cl.length := by omega
  have h' : j ≤ cl.length := by omega
  have hsz := hc _ (List.getElem_mem h)
  have J := ih (j + 1) (by omega)
  have q1 : 2 + (cl[j]'h).f0.size ≤ 9223372036854775807 := by omega
  have q2 : ((⟨#[91, 58]⟩ : ByteArray) ++ (cl[j]'h).f0).size + 2 ≤ 9223372036854775807 := by
   rw [ByteArray.size_append]
   show 2 + (cl[j]'h).f0.size + 2 ≤ _
   omega
  have S := says_ev e he i hi' (((⟨#[91, 58]⟩ : ByteArray) ++ (cl[j]'h).f0) ++ (⟨#[58, 93]⟩ : ByteArray)) (by rw [full_size]; omega)
  have hsz4 : (cl[j]'h).f0.size + 4 ≤ 1000 := by omega
  rw [full_eq] at S
  rw [List.drop_eq_getElem_cons h]
  refine Ev.step (fun k => ?_) (Ev.bind S (f := fun k t411 => (if t411 = true then (some ((cl[j]'h).f1, ((i + ((cl[j]'h).f0.size + 4) : Nat) : Int))) else (jobshellref04_member.l0 k (e.map toR) (i : Int) cl ((j + 1 : Nat) : Int)))) ?_)
  ·
   simp only [jobshellref04_member.l0]
   rw [if_pos (lift_lt h), if_pos (nn j), rd86 cl j h, if_pos q1, if_pos q2, full_size, wk hi' he9 hsz4, wk1 h' hcl9]
  ·
   cases hs : saysS (e.drop i) (fullS (cl[j]'h).f0) with
   | true =>
    have e1 : findC (cl[j] :: cl.drop (j + 1)) (e.drop i) = some ((cl[j]'h).f1, (cl[j]'h).f0.size + 4) := if_pos hs
    rw [e1]
    simp only [if_true]
    exact ev_const
   | false =>
    have e1 : findC (cl[j] :: cl.drop (j + 1)) (e.drop i) = findC (cl.drop (j + 1)) (e.drop i) := if_neg (by rw [hs]; decide)
    rw [e1]
    simp only [Bool.false_eq_true, if_false]
    exact J
theorem member_ev (e : List S51) (he : e.length ≤ 1000000) (i : Nat) (hi : i < e.length) : Ev (fun k => jobshellref04_member.f k (e.map toR) (i : Int)) ((memR (e.drop i)).1, ((i + (memR (e.drop i)).2 : Nat) : Int)) := by
 unfold jobshellref04_member.f
 rw [classes_eq]
 simp only [Option.bind_some]
 have J := mem_l0 e he i hi classL (fun c hc => (class_ok c hc).1) (by decide) 8 0 (by decide)
 rw [List.drop_zero] at J
 exact J
/-! ### set -/
theorem spA_congr (P Q : Nat → Bool) (d : Nat) : ∀ (b : Nat) (o : Option Nat), b + d = 256 → (∀ c, c < 256 → P c = Q c) → spA P d b o = spA Q d b o := by
 induction d with
 | zero => intro b o _ _; cases o <;> rfl
 | succ d ih =>
  intro b o hb h
  have e := h b (by omega)
  cases o with
  | none => unfold spA; rw [e, ih _ _ (by omega) h, ih _ _ (by omega) h]
  | some s => unfold spA; rw [e, ih _ _ (by omega) h, ih _ _ (by omega) h]
theorem spS_congr (a b : List S58) (h : ∀ c, inS a c = inS b c) : spS a = spS b := spA_congr _ _ 256 0 none (by decide) fun c _ => h (c : Int)
def Apart (acc : List S58) (b : Nat) : Prop := acc = [] ∨ ∃ a0 y, acc = a0 ++ [y] ∧ 0 ≤ y.f1 ∧ y.f1 + 1 < (b : Int) ∧ y.f1 ≤ 255
theorem last58 (a0 : List S58) (y : S58) : rd_T58 (a0 ++ [y]) (a0.length : Int) = y := by
 rw [rd58 (a0 ++ [y]) a0.length (by rw [List.length_append, List.length_singleton]; omega)]
 simp
theorem len1 (a0 : List S58) (y : S58) (h : a0.length ≤ 100000) : wrap64 (((a0 ++ [y]).length : Int) - 1) = (a0.length : Int) := by
 rw [List.length_append, List.length_singleton]
 exact wmn (by omega)
theorem set_l (rs : List S58) (hr : rs.length ≤ 100000) (d : Nat) :
 (∀ (b : Nat) (acc : List S58), b + d = 256 → acc.length + d ≤ 1000 → Apart acc b → Ev (fun k => jobshellref04_set.l0 k rs acc (b : Int)) (acc ++ spA (fun b => inS rs (b : Int)) d b none)) ∧
 (∀ (b s : Nat) (acc : List S58), b + d = 256 → s < b → acc.length + d ≤ 999 → Ev (fun k => jobshellref04_set.l0 k rs (acc ++ [⟨(s : Int), (b : Int) - 1⟩]) (b : Int)) (acc ++ spA (fun b => inS rs (b : Int)) d b (some s))) := by
 induction d with
 | zero =>
  have Z : ∀ acc : List S58, Ev (fun k => jobshellref04_set.l0 k rs acc ((256 : Nat) : Int)) acc := fun acc => ev_at1 fun k => by
   simp only [jobshellref04_set.l0]
   rw [if_neg (show ¬ ((256 : Nat) : Int) < 256 by decide)]
  refine ⟨fun b acc h1 h2 h3 => ?_, fun b s acc h1 h2 h3 => ?_⟩
  ·
   obtain rfl : b = 256 := by omega
   rw [show spA (fun b => inS rs (b : Int)) 0 256 none = [] from rfl, List.append_nil]
   exact Z acc
  ·
   obtain rfl : b = 256 := by omega
   exact Z _
 | succ d ih =>
  obtain ⟨IA, IB⟩ := ih
  refine ⟨fun b acc h1 h2 h3 => ?_, fun b s acc h1 h2 h3 => ?_⟩
  ·
   have hb : b < 256 := by omega
   have hb' : b ≤ 256 := by omega
   have hal : acc.length < 70368744177664 := by omega
   have N := in_ev (b : Int) rs hr
   have push : Ev (fun k => jobshellref04_set.l0 k rs (acc ++ [⟨(b : Int), (b : Int)⟩]) ((b + 1 : Nat) : Int)) (acc ++ spA (fun b => inS rs (b : Int)) d (b + 1) (some b)) := by
    have J := IB (b + 1) b acc (by omega) (by omega) (by omega)
    have e : ((b + 1 : Nat) : Int) - 1 = (b : Int) := by omega
    rw [e] at J
    exact J
   have skip : Ev (fun k => jobshellref04_set.l0 k rs acc ((b + 1 : Nat) : Int)) (acc ++ spA (fun b => inS rs (b : Int)) d (b + 1) none) := by
    refine IA (b + 1) acc (by omega) (by omega) ?_
    rcases h3 with h | ⟨a0, y, h, y0, y1, y2⟩
    ·
     exact .inl h
    ·
     exact .inr ⟨a0, y, h, y0, by omega, y2⟩
   have B : Ev (fun k => (jobshellref04_in.f k rs (b : Int)).bind fun t => if t = true then jobshellref04_set.l0 k rs (acc ++ [⟨(b : Int), (b : Int)⟩]) ((b + 1 : Nat) : Int) else jobshellref04_set.l0 k rs acc ((b + 1 : Nat) : Int)) (acc ++ spA (fun b => inS rs (b : Int)) (d + 1) b none) := by
    refine Ev.bind N ?_
    show Ev _ (acc ++ (if inS rs (b : Int) = true then _ else _))
    by_cases hp : inS rs (b : Int) = true
    ·
     rw [if_pos hp]
     exact Ev.congr (fun k => if_pos hp) push
    ·
     rw [if_neg hp]
     exact Ev.congr (fun k => if_neg hp) skip
   rcases h3 with h | ⟨a0, y, h, y0, y1, y2⟩
   ·
    subst h
    refine Ev.step (fun k => ?_) B
    simp only [jobshellref04_set.l0]
    rw [if_pos (lt256 hb), m256 hb, wk1 hb' (by decide), if_neg (show ¬ (([] : List S58).length : Int) > 0 by decide), if_pos hal]
   ·
    subst h
    have hpos : ((a0 ++ [y]).length : Int) > 0 := by rw [List.length_append, List.length_singleton]; omega
    have hl0 : a0.length ≤ 100000 := by rw [List.length_append] at h2; omega
    have hlt : (a0.length : Int) < ((a0 ++ [y]).length : Int) := by rw [List.length_append, List.length_singleton]; omega
    have hne : ¬ wrap64 (wrap64 y.f1 + 1) = (b : Int) := by
     rw [w8 y0 y2, w8s y0 y2]
     omega
    refine Ev.step (fun k => ?_) B
    simp only [jobshellref04_set.l0]
    rw [if_pos (lt256 hb), m256 hb, wk1 hb' (by decide), if_pos hpos, len1 a0 y hl0, if_pos (nn _), if_pos hlt, last58, if_neg hne, if_pos hal]
  ·
   have hb : b < 256 := by omega
   have hb' : b ≤ 256 := by omega
   have N := in_ev (b : Int) rs hr
   have y0 : 0 ≤ (b : Int) - 1 := by omega
   have y2 : (b : Int) - 1 ≤ 255 := by omega
   have ext : Ev (fun k => jobshellref04_set.l0 k rs (acc ++ [⟨(s : Int), (b : Int)⟩]) ((b + 1 : Nat) : Int)) (acc ++ spA (fun b => inS rs (b : Int)) d (b + 1) (some s)) := by
    have J := IB (b + 1) s acc (by omega) (by omega) (by omega)
    have e : ((b + 1 : Nat) : Int) - 1 = (b : Int) := by omega
    rw [e] at J
    exact J
   have skip : Ev (fun k => jobshellref04_set.l0 k rs (acc ++ [⟨(s : Int), (b : Int) - 1⟩]) ((b + 1 : Nat) : Int)) (acc ++ (⟨(s : Int), (b : Int) - 1⟩ :: spA (fun b => inS rs (b : Int)) d (b + 1) none)) := by
    have J := IA (b + 1) (acc ++ [⟨(s : Int), (b : Int) - 1⟩]) (by omega) (by rw [List.length_append, List.length_singleton]; omega) (.inr ⟨acc, _, rfl, y0, by show (b : Int) - 1 + 1 < ((b + 1 : Nat) : Int); omega, y2⟩)
    rw [List.append_assoc] at J
    exact J
   have B : Ev (fun k => (jobshellref04_in.f k rs (b : Int)).bind fun t => if t = true then jobshellref04_set.l0 k rs (acc ++ [⟨(s : Int), (b : Int)⟩]) ((b + 1 : Nat) : Int) else jobshellref04_set.l0 k rs (acc ++ [⟨(s : Int), (b : Int) - 1⟩]) ((b + 1 : Nat) : Int)) (acc ++ spA (fun b => inS rs (b : Int)) (d + 1) b (some s)) := by
    refine Ev.bind N ?_
    show Ev _ (acc ++ (if inS rs (b : Int) = true then _ else _))
    by_cases hp : inS rs (b : Int) = true
    ·
     rw [if_pos hp]
     exact Ev.congr (fun k => if_pos hp) ext
    ·
     rw [if_neg hp]
     exact Ev.congr (fun k => if_neg hp) skip
   have hpos : ((acc ++ [(⟨(s : Int), (b : Int) - 1⟩ : S58)]).length : Int) > 0 := by rw [List.length_append, List.length_singleton]; omega
   have hl0 : acc.length ≤ 100000 := by omega
   have hlt : (acc.length : Int) < ((acc ++ [(⟨(s : Int), (b : Int) - 1⟩ : S58)]).length : Int) := by rw [List.length_append, List.length_singleton]; omega
   have heq : wrap64 (wrap64 ((b : Int) - 1) + 1) = (b : Int) := by
    rw [w8 y0 y2, w8s y0 y2]
    omega
   have hset : (acc ++ [(⟨(s : Int), (b : Int) - 1⟩ : S58)]).set acc.length ⟨(s : Int), (b : Int)⟩ = acc ++ [⟨(s : Int), (b : Int)⟩] := by
    rw [List.set_append_right _ _ (Nat.le_refl _), Nat.sub_self]
    rfl
   refine Ev.step (fun k => ?_) B
   simp only [jobshellref04_set.l0]
   rw [if_pos (lt256 hb), m256 hb, wk1 hb' (by decide), if_pos hpos, len1 acc _ hl0, if_pos (nn _), if_pos hlt, last58]
   simp only
   rw [if_pos heq, Int.toNat_natCast, hset]
theorem set_ev (rs : List S58) (hr : rs.length ≤ 100000) : Ev (fun k => jobshellref04_set.f k rs) (spS rs) := by
 have := (set_l rs hr 256).1 0 [] (by decide) (by decide) (.inl rfl)
 exact this
end Go.Proofs.Ytbekhjcnmifnnaa.Pure
