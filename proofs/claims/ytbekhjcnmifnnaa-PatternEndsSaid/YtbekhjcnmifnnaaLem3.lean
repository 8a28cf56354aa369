/- Plain lemmas for chapter 04: Prefix and Suffix, and the bounds of the laws' patterns. No conditions beyond those written at each. -/
import Derived.Test.YtbekhjcnmifnnaaLem2
import Derived.Test.YtbekhjcnmifnnaaLemA
import Derived.Test.YtbekhjcnmifnnaaQ17
import Derived.Test.YtbekhjcnmifnnaaQ20
import Derived.Test.YtbekhjcnmifnnaaQ26
set_option linter.unusedVariables false
set_option linter.unusedSimpArgs false
namespace Go.Proofs.Ytbekhjcnmifnnaa.Pure
open Go.RowKit Go.Proofs.Ytbekhjcnmifnnaa.Q Go.Proofs.YtbekhjcnmifnnaaW.PrintWords Go.Proofs.YtbekhjcnmifnnaaW.PrintLast

theorem wsub {a b : Nat} (h : b ≤ a) (ha : a ≤ 1000000000000) : wrap64 ((a : Int) - (b : Int)) = ((a - b : Nat) : Int) := by
  rw [w64 (by omega) (by omega)]
  omega
theorem le_i {a b : Nat} (h : a ≤ b) : (a : Int) ≤ (b : Int) := Int.ofNat_le.mpr h
theorem not_le_i {a b : Nat} (h : ¬ a ≤ b) : ¬ (a : Int) ≤ (b : Int) := fun e => h (Int.ofNat_le.mp e)

/-- The first of d numbers from i on of which P holds. -/
def findS (P : Nat → Bool) : Nat → Nat → Option Nat
  | 0, _ => none
  | d + 1, i => if P i = true then some i else findS P d (i + 1)
def cutN (n : Nat) (lo : Bool) (i : Nat) : Nat := if lo = true then n - i else i
def cutT (t : List Int) (su : Bool) (m : Nat) : List Int := if su = true then t.drop (t.length - m) else t.take m
def partR (n : Nat) (lo : Bool) : Option Nat → Int × Bool
  | some i => ((cutN n lo i : Nat), true)
  | none => (0, false)
def partS (p : List S35) (t : List Int) (lo su : Bool) : Int × Bool :=
  if p.all validS = true then partR t.length lo (findS (fun i => M p (cutT t su (cutN t.length lo i))) (t.length + 1) 0) else (0, false)
theorem cutN_le {n : Nat} {lo : Bool} {i : Nat} (h : i ≤ n) : cutN n lo i ≤ n := by
  unfold cutN
  split <;> omega
theorem bl_pre (s : ByteArray) (m : Nat) : bl (s.extract 0 m) = (bl s).take m := by
  rw [bl_extract, List.drop_zero, Nat.sub_zero]
theorem bl_suf (s : ByteArray) (m : Nat) (h : m ≤ s.size) : bl (s.extract (s.size - m) s.size) = (bl s).drop (s.size - m) := by
  rw [bl_extract]
  apply List.take_of_length_le
  rw [List.length_drop, bl_len]
  omega
theorem ext_le (s : ByteArray) (a b : Nat) (n : Nat) (h : s.size ≤ n) : (s.extract a b).size ≤ n := by
  rw [← bl_len, bl_extract, List.length_take, List.length_drop, bl_len]
  omega
theorem part_j1 (p : List S35) (s : ByteArray) (hp : Good p) (hv : p.all validS = true) (hn : s.size ≤ 1000000) (lo su : Bool) (i m : Nat) (hm : m ≤ s.size) (hi : i ≤ s.size) (R : Int × Bool)
    (I : Ev (fun k => pattern_part.l0 k p s lo su ((i + 1 : Nat) : Int)) R) :
    Ev (fun k => pattern_part.j1 k p s lo su i m) (if M p (cutT (bl s) su m) = true then ((m : Int), true) else R) := by
  have hs12 : s.size ≤ 1000000000000 := Nat.le_trans hn (by decide)
  have hb := bl_len s
  have B : ∀ x : ByteArray, x.size ≤ 1000000 → Ev (fun k => (pattern_matches.f k p x).bind fun t => if t = true then some ((m : Int), true) else pattern_part.l0 k p s lo su ((i + 1 : Nat) : Int)) (if M p (bl x) = true then ((m : Int), true) else R) := by
    intro x hx
    refine Ev.bind (matches_ev p x hp (all_one hv) hx) ?_
    cases M p (bl x) with
    | true => simpa using ev_const
    | false => simpa using I
  cases su with
  | true =>
    have e : cutT (bl s) true m = bl (s.extract (s.size - m) s.size) := by
      rw [bl_suf s m hm]
      unfold cutT
      rw [if_pos rfl, hb]
    rw [e]
    refine Ev.step (fun k => ?_) (B _ (ext_le s _ _ _ hn))
    simp only [pattern_part.j1, wsub hm hs12, if_true]
    rw [if_pos (nn m), if_pos (le_i hm), if_pos (nn _), if_pos (le_i (Nat.sub_le _ _)), w64n hi hs12, Int.toNat_natCast]
  | false =>
    have e : cutT (bl s) false m = bl (s.extract 0 m) := by
      rw [bl_pre]
      unfold cutT
      rw [if_neg (by decide)]
    rw [e]
    refine Ev.step (fun k => ?_) (B _ (ext_le s _ _ _ hn))
    simp only [pattern_part.j1, Bool.false_eq_true, if_false]
    rw [if_pos (nn m), if_pos (le_i hm), w64n hi hs12, Int.toNat_natCast]
theorem part_l0 (p : List S35) (s : ByteArray) (hp : Good p) (hv : p.all validS = true) (hn : s.size ≤ 1000000) (lo su : Bool) (d : Nat) : ∀ i : Nat, i + d = s.size + 1 →
    Ev (fun k => pattern_part.l0 k p s lo su i) (partR s.size lo (findS (fun i => M p (cutT (bl s) su (cutN s.size lo i))) d i)) := by
  have hs12 : s.size ≤ 1000000000000 := Nat.le_trans hn (by decide)
  induction d with
  | zero =>
    intro i hi
    have h : ¬ i ≤ s.size := by omega
    refine ev_at1 fun k => ?_
    simp only [pattern_part.l0, findS, partR]
    rw [if_neg (not_le_i h)]
  | succ d ih =>
    intro i hi
    have h : i ≤ s.size := by omega
    have J := part_j1 p s hp hv hn lo su i (cutN s.size lo i) (cutN_le h) h _ (ih (i + 1) (by omega))
    have e : partR s.size lo (findS (fun i => M p (cutT (bl s) su (cutN s.size lo i))) (d + 1) i) = (if M p (cutT (bl s) su (cutN s.size lo i)) = true then (((cutN s.size lo i : Nat) : Int), true) else partR s.size lo (findS (fun i => M p (cutT (bl s) su (cutN s.size lo i))) d (i + 1))) := by
      by_cases hh : M p (cutT (bl s) su (cutN s.size lo i)) = true
      · rw [if_pos hh]; exact congrArg (partR s.size lo) (if_pos hh)
      · rw [if_neg hh]; exact congrArg (partR s.size lo) (if_neg hh)
    rw [e]
    refine Ev.step (fun k => ?_) J
    simp only [pattern_part.l0]
    rw [if_pos (le_i h)]
    cases lo with
    | true => rw [if_pos rfl, wsub h hs12]; rfl
    | false => rw [if_neg (by decide)]; rfl
theorem part_ev (p : List S35) (s : ByteArray) (hp : Good p) (hn : s.size ≤ 1000000) (lo su : Bool) : Ev (fun k => pattern_part.f k p s lo su) (partS p (bl s) lo su) := by
  unfold pattern_part.f partS
  refine Ev.bind (allValid_ev p hp) ?_
  cases hv : p.all validS with
  | true =>
    simp only [if_true]
    rw [bl_len]
    exact part_l0 p s hp hv hn lo su (s.size + 1) 0 (by omega)
  | false =>
    simp only [Bool.false_eq_true, if_false]
    exact ev_const
theorem prefix_ev (p : List S35) (s : ByteArray) (hp : Good p) (hn : s.size ≤ 1000000) (lo : Bool) : Ev (fun k => pattern_Prefix.f k p s lo) (partS p (bl s) lo false) := by
  unfold pattern_Prefix.f
  exact Ev.bind (part_ev p s hp hn lo false) ev_const
theorem suffix_ev (p : List S35) (s : ByteArray) (hp : Good p) (hn : s.size ≤ 1000000) (lo : Bool) : Ev (fun k => pattern_Suffix.f k p s lo) (partS p (bl s) lo true) := by
  unfold pattern_Suffix.f
  exact Ev.bind (part_ev p s hp hn lo true) ev_const

/-! ### findS -/
theorem findS_some {P : Nat → Bool} {d i j : Nat} (h : findS P d i = some j) : i ≤ j ∧ j < i + d ∧ P j = true ∧ ∀ m, i ≤ m → m < j → P m = false := by
  induction d generalizing i with
  | zero => exact absurd h (by simp [findS])
  | succ d ih =>
    unfold findS at h
    by_cases hp : P i = true
    · rw [if_pos hp] at h
      obtain rfl := Option.some.inj h
      exact ⟨Nat.le_refl _, by omega, hp, fun m h1 h2 => absurd h2 (by omega)⟩
    · rw [if_neg hp] at h
      obtain ⟨a, b, c, e⟩ := ih h
      refine ⟨by omega, by omega, c, fun m h1 h2 => ?_⟩
      by_cases hm : m = i
      · subst hm; exact Bool.eq_false_iff.mpr hp
      · exact e m (by omega) h2
theorem findS_none {P : Nat → Bool} {d i : Nat} (h : findS P d i = none) : ∀ m, i ≤ m → m < i + d → P m = false := by
  induction d generalizing i with
  | zero => exact fun m h1 h2 => absurd h2 (by omega)
  | succ d ih =>
    unfold findS at h
    by_cases hp : P i = true
    · rw [if_pos hp] at h
      exact absurd h (by simp)
    · rw [if_neg hp] at h
      intro m h1 h2
      by_cases hm : m = i
      · subst hm; exact Bool.eq_false_iff.mpr hp
      · exact ih h m (by omega) (by omega)

/-! ### the bounds -/
theorem few_l0 (p : List S35) (q : Nat) (hq : q ≤ 1000) (d : Nat) : ∀ j : Nat, j ≤ q + 1 → q + 1 - j ≤ d → (∀ i, ∀ h : i < p.length, i < j → (p[i]'h).f3.length ≤ 40 ∧ (p[i]'h).f1.size ≤ 40) →
    ∃ b, Ev (fun k => jobshellref04_Few.l0 k p (q : Int) j) b ∧ (b = true → p.length ≤ q ∧ ∀ x ∈ p, x.f3.length ≤ 40 ∧ x.f1.size ≤ 40) := by
  have stop : ∀ j : Nat, (p.length ≤ j ∨ q < j) → (∀ i, ∀ h : i < p.length, i < j → (p[i]'h).f3.length ≤ 40 ∧ (p[i]'h).f1.size ≤ 40) → ∃ b, Ev (fun k => jobshellref04_Few.l0 k p (q : Int) j) b ∧ (b = true → p.length ≤ q ∧ ∀ x ∈ p, x.f3.length ≤ 40 ∧ x.f1.size ≤ 40) := by
    intro j hj ha
    refine ⟨decide ((p.length : Int) ≤ (q : Int)), ?_, fun h => ?_⟩
    · have h1 : Ev (fun k => jobshellref04_Few.j1 k p (q : Int) j false) (decide ((p.length : Int) ≤ (q : Int))) := ev_at1 fun k => by
        simp only [jobshellref04_Few.j1, Bool.false_eq_true, if_false]
      refine Ev.step (fun k => ?_) h1
      simp only [jobshellref04_Few.l0]
      by_cases h2 : (j : Int) < (p.length : Int)
      · have h3 : decide ((j : Int) ≤ (q : Int)) = false := decide_eq_false (by omega)
        rw [if_pos h2, h3]
      · rw [if_neg h2]
    · have h1 : (p.length : Int) ≤ (q : Int) := of_decide_eq_true h
      refine ⟨by omega, fun s hs => ?_⟩
      obtain ⟨i, hi, rfl⟩ := List.mem_iff_getElem.mp hs
      exact ha i hi (by omega)
  induction d with
  | zero => exact fun j hj hd ha => stop j (.inr (by omega)) ha
  | succ d ih =>
    intro j hj hd ha
    by_cases h : p.length ≤ j ∨ q < j
    · exact stop j h ha
    · have hlt : j < p.length := by omega
      have h12 : decide ((j : Int) ≤ (q : Int)) = true := decide_eq_true (by omega)
      have hq12 : q ≤ 1000000000000 := by omega
      have hjq : j ≤ q := by omega
      have S : ∀ b, Ev (fun k => jobshellref04_Few.j1 k p (q : Int) j true) b → Ev (fun k => jobshellref04_Few.l0 k p (q : Int) j) b := by
        intro b hb
        refine Ev.step (fun k => ?_) hb
        simp only [jobshellref04_Few.l0]
        rw [if_pos (lift_lt hlt), h12]
      by_cases hb : (p[j]'hlt).f3.length > 40
      · refine ⟨false, S _ (ev_at1 fun k => ?_), fun h => by simp at h⟩
        have hb' : ((p[j]'hlt).f3.length : Int) > 40 := by omega
        simp only [jobshellref04_Few.j1, if_true]
        rw [if_pos (nn j), if_pos (lift_lt hlt), rd35 p j hlt, if_pos hb']
      · have hb' : ¬ ((p[j]'hlt).f3.length : Int) > 40 := by omega
        by_cases hc : (p[j]'hlt).f1.size > 40
        · refine ⟨false, S _ (ev_at1 fun k => ?_), fun h => by simp at h⟩
          have hc' : ((p[j]'hlt).f1.size : Int) > 40 := by omega
          simp only [jobshellref04_Few.j1, if_true]
          rw [if_pos (nn j), if_pos (lift_lt hlt), rd35 p j hlt, if_neg hb', if_pos hc']
        · have hc' : ¬ ((p[j]'hlt).f1.size : Int) > 40 := by omega
          obtain ⟨b, h1, h2⟩ := ih (j + 1) (by omega) (by omega) (by
            intro i hi hij
            by_cases e : i = j
            · subst e; omega
            · exact ha i hi (by omega))
          refine ⟨b, S _ (Ev.step (fun k => ?_) h1), h2⟩
          simp only [jobshellref04_Few.j1, if_true]
          rw [if_pos (nn j), if_pos (lift_lt hlt), rd35 p j hlt, if_neg hb', if_neg hc', w64n hjq hq12]
theorem few_ev (p : List S35) (q : Nat) (hq : q ≤ 1000) : ∃ b, Ev (fun k => jobshellref04_Few.f k p (q : Int)) b ∧ (b = true → p.length ≤ q ∧ ∀ x ∈ p, x.f3.length ≤ 40 ∧ x.f1.size ≤ 40) := by
  unfold jobshellref04_Few.f
  exact few_l0 p q hq (q + 1) 0 (Nat.zero_le _) (Nat.le_refl _) fun i _ h => absurd h (Nat.not_lt_zero i)
theorem wf8 {x : Int} (h : (Lit.int .u8 x).wf = true) : 0 ≤ x ∧ x ≤ 255 := by
  have h := Bool.and_eq_true_iff.mp h
  have e1 : IntKind.u8.min = 0 := by decide
  have e2 : IntKind.u8.max = 255 := by decide
  have h1 := of_decide_eq_true h.1
  have h2 := of_decide_eq_true h.2
  rw [e1] at h1
  rw [e2] at h2
  exact ⟨h1, h2⟩
end Go.Proofs.Ytbekhjcnmifnnaa.Pure
