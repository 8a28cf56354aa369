/- Plain lemmas for chapter 04: bracket expressions, in pattern: what className, class, add, spans and bracket come to. No conditions beyond those written at each. -/
import Derived.Test.YtbekhjcnmifnnaaLem7
set_option linter.unusedVariables false
set_option linter.unusedSimpArgs false
namespace Go.Proofs.Ytbekhjcnmifnnaa.Pure
open Go.RowKit Go.Proofs.Ytbekhjcnmifnnaa.Q Go.Proofs.YtbekhjcnmifnnaaW.PrintWords Go.Proofs.YtbekhjcnmifnnaaW.PrintLast

def isA (x : S51) (c : Int) : Bool := x.f1 && (x.f0 == c)
theorem is_eq (x : S51) (c : Int) : pattern_element_is.f x.f0 x.f1 c = some (isA x c) := by
 unfold pattern_element_is.f isA
 cases x.f1 <;> rfl
theorem wk {i c n : Nat} (h : i ≤ n) (hn : n ≤ 1000000000) (hc : c ≤ 1000) : wrap64 ((i : Int) + (c : Int)) = ((i + c : Nat) : Int) := by
 rw [w64 (by omega) (by omega)]
 omega
theorem wk1 {i n : Nat} (h : i ≤ n) (hn : n ≤ 1000000000) : wrap64 ((i : Int) + 1) = ((i + 1 : Nat) : Int) := wk (c := 1) h hn (by decide)
theorem wk2 {i n : Nat} (h : i ≤ n) (hn : n ≤ 1000000000) : wrap64 ((i : Int) + 2) = ((i + 2 : Nat) : Int) := wk (c := 2) h hn (by decide)
theorem wk3 {i n : Nat} (h : i ≤ n) (hn : n ≤ 1000000000) : wrap64 ((i : Int) + 3) = ((i + 3 : Nat) : Int) := wk (c := 3) h hn (by decide)

/-! ### the names of classes -/
def nameL : List S51 → ByteArray → Nat → Option (ByteArray × Nat)
 | x :: y :: r, a, m => if x.f1 = true ∧ a.size < 6 then (if x.f0 = 58 then (if isA y 93 = true then some (a, m + 2) else none) else nameL (y :: r) (a ++ strOfNums [x.f0]) (m + 1)) else none
 | _, _, _ => none
def nameS : List S51 → Option (ByteArray × Nat)
 | x :: y :: r => if isA x 91 = true ∧ isA y 58 = true then nameL r (⟨#[]⟩ : ByteArray) 2 else none
 | _ => none
theorem nameS_cons (x y : S51) (r : List S51) : nameS (x :: y :: r) = if isA x 91 = true ∧ isA y 58 = true then nameL r (⟨#[]⟩ : ByteArray) 2 else none := rfl
theorem nameL_len (u : List S51) : ∀ (a : ByteArray) (m : Nat) (n : ByteArray) (q : Nat), nameL u a m = some (n, q) → m + 2 ≤ q ∧ q ≤ m + u.length := by
 induction u with
 | nil => exact fun a m n q h => absurd h (by simp [nameL])
 | cons x u ih =>
  intro a m n q h
  cases u with
  | nil => exact absurd h (by simp [nameL])
  | cons y r =>
   unfold nameL at h
   by_cases h1 : x.f1 = true ∧ a.size < 6
   ·
    rw [if_pos h1] at h
    by_cases h2 : x.f0 = 58
    ·
     rw [if_pos h2] at h
     by_cases h3 : isA y 93 = true
     ·
      rw [if_pos h3] at h
      obtain ⟨rfl, rfl⟩ := Prod.mk.inj (Option.some.inj h)
      simp only [List.length_cons]
      omega
     ·
      rw [if_neg h3] at h
      exact absurd h (by simp)
    ·
     rw [if_neg h2] at h
     have := ih _ _ _ _ h
     simp only [List.length_cons] at this ⊢
     omega
   ·
    rw [if_neg h1] at h
    exact absurd h (by simp)
theorem nameS_len (u : List S51) (n : ByteArray) (q : Nat) (h : nameS u = some (n, q)) : 4 ≤ q ∧ q ≤ u.length := by
 cases u with
 | nil => exact absurd h (by simp [nameS])
 | cons x u =>
  cases u with
  | nil => exact absurd h (by simp [nameS])
  | cons y r =>
   rw [nameS_cons] at h
   by_cases h1 : isA x 91 = true ∧ isA y 58 = true
   ·
    rw [if_pos h1] at h
    have := nameL_len r _ _ _ _ h
    simp only [List.length_cons]
    omega
   ·
    rw [if_neg h1] at h
    exact absurd h (by simp)
def nameR (i : Nat) : Option (ByteArray × Nat) → ByteArray × Int
 | some (n, m) => (n, ((i + m : Nat) : Int))
 | none => ((⟨#[]⟩ : ByteArray), 0)
theorem name_l0 (e : List S51) (he : e.length ≤ 1000000) (i : Nat) (d : Nat) : ∀ (m : Nat) (a : ByteArray), i + m ≤ e.length → e.length - (i + m) = d → a.size ≤ 6 →
 Ev (fun k => pattern_className.l0 k e a ((i + m : Nat) : Int)) (nameR i (nameL (e.drop (i + m)) a m)) := by
 have he9 : e.length ≤ 1000000000 := by omega
 have F : ∀ (a : ByteArray) (x : Nat), Ev (fun k => pattern_className.j2 k e a (x : Int) false) ((⟨#[]⟩ : ByteArray), 0) := fun a x => ev_at1 fun k => by
  simp only [pattern_className.j2, Bool.false_eq_true, if_false]
 induction d with
 | zero =>
  intro m a h1 h2 h3
  rw [List.drop_eq_nil_of_le (by omega)]
  have q : ¬ i + m + 1 < e.length := by omega
  refine Ev.step (fun k => ?_) (F a (i + m))
  simp only [pattern_className.l0]
  rw [wk1 h1 he9, if_neg (lift_not_lt q)]
 | succ d ih =>
  intro m a h1 h2 h3
  have hlt : i + m < e.length := by omega
  have hd := List.drop_eq_getElem_cons hlt
  by_cases h4 : i + m + 1 < e.length
  ·
   have hd2 := List.drop_eq_getElem_cons h4
   rw [hd, hd2]
   by_cases h5 : (e[i + m]'hlt).f1 = true
   ·
    by_cases h6 : a.size < 6
    ·
     have hdec : decide ((a.size : Int) < 6) = true := decide_eq_true (by omega)
     have J := ih (m + 1) (a ++ strOfNums [(e[i + m]'hlt).f0]) (by omega) (by omega) (by rw [ByteArray.size_append, strOfNums_size, List.length_singleton]; omega)
     have L : Ev (fun k => pattern_className.j2 k e a ((i + m : Nat) : Int) true) (nameR i (nameL (e[i + m] :: e[i + m + 1] :: e.drop (i + m + 1 + 1)) a m)) := by
      unfold nameL
      rw [if_pos ⟨h5, h6⟩]
      by_cases h7 : (e[i + m]'hlt).f0 = 58
      ·
       rw [if_pos h7]
       have E : ∀ k, pattern_className.j2 (k + 1) e a ((i + m : Nat) : Int) true = (if isA (e[i + m + 1]'h4) 93 = true then some (a, ((i + m + 2 : Nat) : Int)) else some ((⟨#[]⟩ : ByteArray), 0)) := by
        intro k
        simp only [pattern_className.j2, if_true]
        rw [if_pos (nn _), if_pos (lift_lt hlt), rd51 e _ hlt, if_pos h7, wk1 h1 he9, if_pos (nn _), if_pos (lift_lt h4), rd51 e _ h4, is_eq, Option.bind_some, wk2 h1 he9]
       by_cases h8 : isA (e[i + m + 1]'h4) 93 = true
       ·
        rw [if_pos h8]
        exact ev_at1 fun k => by rw [E, if_pos h8]; rfl
       ·
        rw [if_neg h8]
        exact ev_at1 fun k => by rw [E, if_neg h8]; rfl
      ·
       rw [if_neg h7, ← hd2]
       have hsz : a.size + (strOfNums [(e[i + m]'hlt).f0]).size ≤ 9223372036854775807 := by rw [strOfNums_size, List.length_singleton]; omega
       refine Ev.step (fun k => ?_) J
       simp only [pattern_className.j2, if_true]
       rw [if_pos (nn _), if_pos (lift_lt hlt), rd51 e _ hlt, if_neg h7, Option.bind_some, if_pos hsz, wk1 h1 he9]
       rfl
     refine Ev.step (fun k => ?_) L
     simp only [pattern_className.l0]
     rw [wk1 h1 he9, if_pos (lift_lt h4), if_pos (nn _), if_pos (lift_lt hlt), rd51 e _ hlt, if_pos h5, hdec]
    ·
     have hdec : decide ((a.size : Int) < 6) = false := decide_eq_false (by omega)
     unfold nameL
     rw [if_neg (fun h => h6 h.2)]
     refine Ev.step (fun k => ?_) (F a (i + m))
     simp only [pattern_className.l0]
     rw [wk1 h1 he9, if_pos (lift_lt h4), if_pos (nn _), if_pos (lift_lt hlt), rd51 e _ hlt, if_pos h5, hdec]
   ·
    unfold nameL
    rw [if_neg (fun h => h5 h.1)]
    refine Ev.step (fun k => ?_) (F a (i + m))
    simp only [pattern_className.l0]
    rw [wk1 h1 he9, if_pos (lift_lt h4), if_pos (nn _), if_pos (lift_lt hlt), rd51 e _ hlt, if_neg h5]
  ·
   rw [hd, List.drop_eq_nil_of_le (by omega)]
   refine Ev.step (fun k => ?_) (F a (i + m))
   simp only [pattern_className.l0]
   rw [wk1 h1 he9, if_neg (lift_not_lt h4)]
theorem name_ev (e : List S51) (he : e.length ≤ 1000000) (i : Nat) (hi : i < e.length) : Ev (fun k => pattern_className.f k e (i : Int)) (nameR i (nameS (e.drop i))) := by
 have he9 : e.length ≤ 1000000000 := by omega
 have hi' : i ≤ e.length := by omega
 have hd := List.drop_eq_getElem_cons hi
 have T : Ev (fun k => pattern_className.j0 k e (i : Int) true) ((⟨#[]⟩ : ByteArray), 0) := ev_at1 fun k => by simp only [pattern_className.j0, if_true]
 unfold pattern_className.f
 simp only [wk1 hi' he9]
 by_cases h4 : i + 1 < e.length
 ·
  have q : ¬ (((i + 1 : Nat) : Int) ≥ (e.length : Int)) := by omega
  have hd2 := List.drop_eq_getElem_cons h4
  rw [hd, hd2]
  simp only [if_neg q, if_pos (nn i), if_pos (lift_lt hi), rd51 e i hi, is_eq, Option.bind_some]
  rw [nameS_cons]
  by_cases h5 : isA (e[i]'hi) 91 = true
  ·
   simp only [if_pos h5, if_pos (nn (i + 1)), if_pos (lift_lt h4), rd51 e _ h4, is_eq, Option.bind_some]
   by_cases h6 : isA (e[i + 1]'h4) 58 = true
   ·
    rw [if_pos ⟨h5, h6⟩]
    simp only [h6, Bool.not_true]
    have J := name_l0 e he i _ 2 (⟨#[]⟩ : ByteArray) (by omega) rfl (Nat.zero_le _)
    refine Ev.step (fun k => ?_) J
    simp only [pattern_className.j0, Bool.false_eq_true, if_false]
    rw [wk2 hi' he9]
   ·
    rw [if_neg (fun h => h6 h.2)]
    simp only [Bool.eq_false_iff.mpr h6, Bool.not_false]
    exact T
  ·
   rw [if_neg (fun h => h5 h.1)]
   simp only [if_neg h5]
   exact T
 ·
  have q : ((i + 1 : Nat) : Int) ≥ (e.length : Int) := by omega
  simp only [if_pos q]
  rw [hd, List.drop_eq_nil_of_le (by omega)]
  exact T

/-! ### sets of bytes -/
def SetIs (s : ByteArray) (rs : List S58) : Prop := ∀ b : Nat, b < 256 → setHas s b = inS rs (b : Int)
theorem inS_app (a b : List S58) (c : Int) : inS (a ++ b) c = (inS a c || inS b c) := by
 unfold inS
 rw [List.any_append]
theorem inS_one (lo hi c : Int) : inS [(⟨lo, hi⟩ : S58)] c = (decide (lo ≤ c) && decide (c ≤ hi)) := by simp [inS]
theorem add_l0 (hi : Int) (hh : hi ≤ 255) (d : Nat) : ∀ (k : Nat) (s : ByteArray) (c : Nat), (hi + 1 - (c : Int)).toNat = d → c ≤ 256 → d < k →
 ∃ t, pattern_bytes_add.l0 k s hi (c : Int) = some t ∧ ∀ b : Nat, b < 256 → setHas t b = (setHas s b || (decide ((c : Int) ≤ (b : Int)) && decide ((b : Int) ≤ hi))) := by
 induction d with
 | zero =>
  intro k s c hd hc hk
  obtain ⟨k, rfl⟩ : ∃ m, k = m + 1 := ⟨k - 1, by omega⟩
  have h : ¬ (c : Int) ≤ hi := by omega
  refine ⟨s, by simp only [pattern_bytes_add.l0]; rw [if_neg h], fun b hb => ?_⟩
  have : (decide ((c : Int) ≤ (b : Int)) && decide ((b : Int) ≤ hi)) = false := by
   rw [Bool.and_eq_false_iff, decide_eq_false_iff_not, decide_eq_false_iff_not]
   omega
  rw [this, Bool.or_false]
 | succ d ih =>
  intro k s c hd hc hk
  obtain ⟨k, rfl⟩ : ∃ m, k = m + 1 := ⟨k - 1, by omega⟩
  have h : (c : Int) ≤ hi := by omega
  have hc2 : c < 256 := by omega
  obtain ⟨t, h1, h2⟩ := ih k (s.push (UInt8.ofNat c)) (c + 1) (by omega) (by omega) (by omega)
  refine ⟨t, ?_, fun b hb => ?_⟩
  ·
   simp only [pattern_bytes_add.l0]
   rw [if_pos h, Int.toNat_natCast, wk1 hc (by decide)]
   exact h1
  ·
   rw [h2 b hb, setHas_push s c b hc2 hb, Bool.or_assoc]
   congr 1
   rw [Bool.eq_iff_iff]
   simp only [Bool.or_eq_true, Bool.and_eq_true, decide_eq_true_eq]
   omega
theorem add_ev (s : ByteArray) (rs : List S58) (lo hi : Int) (hS : SetIs s rs) (h0 : 0 ≤ lo) (h1 : lo ≤ 255) (h2 : 0 ≤ hi) (h3 : hi ≤ 255) : ∃ t, pattern_bytes_add.f s lo hi = some t ∧ SetIs t (rs ++ [⟨lo, hi⟩]) := by
 obtain ⟨c, rfl⟩ : ∃ c : Nat, lo = (c : Int) := ⟨lo.toNat, by omega⟩
 obtain ⟨t, e1, e2⟩ := add_l0 hi h3 _ 257 s c rfl (by omega) (by omega)
 refine ⟨t, ?_, fun b hb => ?_⟩
 ·
  unfold pattern_bytes_add.f
  rw [if_pos ⟨h0, by omega, h2, by omega⟩]
  exact e1
 ·
  rw [e2 b hb, hS b hb, inS_app, inS_one]
def rngS (n : ByteArray) : Option (List S58) :=
 if n.toList = ([97, 108, 112, 104, 97] : List UInt8) then some [⟨65, 90⟩, ⟨97, 122⟩] else
 if n.toList = ([100, 105, 103, 105, 116] : List UInt8) then some [⟨48, 57⟩] else
 if n.toList = ([97, 108, 110, 117, 109] : List UInt8) then some [⟨65, 90⟩, ⟨97, 122⟩, ⟨48, 57⟩] else
 if n.toList = ([117, 112, 112, 101, 114] : List UInt8) then some [⟨65, 90⟩] else
 if n.toList = ([108, 111, 119, 101, 114] : List UInt8) then some [⟨97, 122⟩] else
 if n.toList = ([115, 112, 97, 99, 101] : List UInt8) then some [⟨9, 13⟩, ⟨32, 32⟩] else
 if n.toList = ([98, 108, 97, 110, 107] : List UInt8) then some [⟨9, 9⟩, ⟨32, 32⟩] else
 if n.toList = ([112, 117, 110, 99, 116] : List UInt8) then some [⟨33, 47⟩, ⟨58, 64⟩, ⟨91, 96⟩, ⟨123, 126⟩] else none
theorem class_ev (s n : ByteArray) (rs : List S58) (hS : SetIs s rs) :
 (∃ cs t, rngS n = some cs ∧ pattern_bytes_class.f s n = some (true, t) ∧ SetIs t (rs ++ cs)) ∨ (rngS n = none ∧ pattern_bytes_class.f s n = some (false, s)) := by
 have A1 : ∀ lo hi, 0 ≤ lo → lo ≤ 255 → 0 ≤ hi → hi ≤ 255 → ∃ t, ((pattern_bytes_add.f s lo hi).bind fun s1 => some (true, s1)) = some (true, t) ∧ SetIs t (rs ++ [⟨lo, hi⟩]) := by
  intro lo hi h0 h1 h2 h3
  obtain ⟨t, e, e2⟩ := add_ev s rs lo hi hS h0 h1 h2 h3
  exact ⟨t, by rw [e]; rfl, e2⟩
 have A2 : ∀ lo hi lo2 hi2, 0 ≤ lo → lo ≤ 255 → 0 ≤ hi → hi ≤ 255 → 0 ≤ lo2 → lo2 ≤ 255 → 0 ≤ hi2 → hi2 ≤ 255 → ∃ t, ((pattern_bytes_add.f s lo hi).bind fun s1 => (pattern_bytes_add.f s1 lo2 hi2).bind fun s2 => some (true, s2)) = some (true, t) ∧ SetIs t (rs ++ [⟨lo, hi⟩, ⟨lo2, hi2⟩]) := by
  intro lo hi lo2 hi2 h0 h1 h2 h3 h4 h5 h6 h7
  obtain ⟨t, e, e2⟩ := add_ev s rs lo hi hS h0 h1 h2 h3
  obtain ⟨t2, e3, e4⟩ := add_ev t _ lo2 hi2 e2 h4 h5 h6 h7
  exact ⟨t2, by rw [e, Option.bind_some, e3]; rfl, by rw [List.append_assoc] at e4; exact e4⟩
 unfold rngS pattern_bytes_class.f
 by_cases c0 : n.toList = ([97, 108, 112, 104, 97] : List UInt8)
 ·
  left
  obtain ⟨t, e, e2⟩ := A2 65 90 97 122 (by decide) (by decide) (by decide) (by decide) (by decide) (by decide) (by decide) (by decide)
  exact ⟨_, t, if_pos c0, by rw [if_pos c0]; exact e, e2⟩
 rw [if_neg c0, if_neg c0]
 by_cases c1 : n.toList = ([100, 105, 103, 105, 116] : List UInt8)
 ·
  left
  obtain ⟨t, e, e2⟩ := A1 48 57 (by decide) (by decide) (by decide) (by decide)
  exact ⟨_, t, if_pos c1, by rw [if_pos c1]; exact e, e2⟩
 rw [if_neg c1, if_neg c1]
 by_cases c2 : n.toList = ([97, 108, 110, 117, 109] : List UInt8)
 ·
  left
  obtain ⟨t, e, e2⟩ := add_ev s rs 65 90 hS (by decide) (by decide) (by decide) (by decide)
  obtain ⟨t2, e3, e4⟩ := add_ev t _ 97 122 e2 (by decide) (by decide) (by decide) (by decide)
  obtain ⟨t3, e5, e6⟩ := add_ev t2 _ 48 57 e4 (by decide) (by decide) (by decide) (by decide)
  refine ⟨_, t3, if_pos c2, by rw [if_pos c2, e, Option.bind_some, e3, Option.bind_some, e5, Option.bind_some], ?_⟩
  rw [List.append_assoc, List.append_assoc] at e6
  exact e6
 rw [if_neg c2, if_neg c2]
 by_cases c3 : n.toList = ([117, 112, 112, 101, 114] : List UInt8)
 ·
  left
  obtain ⟨t, e, e2⟩ := A1 65 90 (by decide) (by decide) (by decide) (by decide)
  exact ⟨_, t, if_pos c3, by rw [if_pos c3]; exact e, e2⟩
 rw [if_neg c3, if_neg c3]
 by_cases c4 : n.toList = ([108, 111, 119, 101, 114] : List UInt8)
 ·
  left
  obtain ⟨t, e, e2⟩ := A1 97 122 (by decide) (by decide) (by decide) (by decide)
  exact ⟨_, t, if_pos c4, by rw [if_pos c4]; exact e, e2⟩
 rw [if_neg c4, if_neg c4]
 by_cases c5 : n.toList = ([115, 112, 97, 99, 101] : List UInt8)
 ·
  left
  obtain ⟨t, e, e2⟩ := A2 9 13 32 32 (by decide) (by decide) (by decide) (by decide) (by decide) (by decide) (by decide) (by decide)
  exact ⟨_, t, if_pos c5, by rw [if_pos c5]; exact e, e2⟩
 rw [if_neg c5, if_neg c5]
 by_cases c6 : n.toList = ([98, 108, 97, 110, 107] : List UInt8)
 ·
  left
  obtain ⟨t, e, e2⟩ := A2 9 9 32 32 (by decide) (by decide) (by decide) (by decide) (by decide) (by decide) (by decide) (by decide)
  exact ⟨_, t, if_pos c6, by rw [if_pos c6]; exact e, e2⟩
 rw [if_neg c6, if_neg c6]
 by_cases c7 : n.toList = ([112, 117, 110, 99, 116] : List UInt8)
 ·
  left
  obtain ⟨t, e, e2⟩ := add_ev s rs 33 47 hS (by decide) (by decide) (by decide) (by decide)
  obtain ⟨t2, e3, e4⟩ := add_ev t _ 58 64 e2 (by decide) (by decide) (by decide) (by decide)
  obtain ⟨t3, e5, e6⟩ := add_ev t2 _ 91 96 e4 (by decide) (by decide) (by decide) (by decide)
  obtain ⟨t4, e7, e8⟩ := add_ev t3 _ 123 126 e6 (by decide) (by decide) (by decide) (by decide)
  refine ⟨_, t4, if_pos c7, by rw [if_pos c7, e, Option.bind_some, e3, Option.bind_some, e5, Option.bind_some, e7, Option.bind_some], ?_⟩
  rw [List.append_assoc, List.append_assoc, List.append_assoc] at e8
  exact e8
 rw [if_neg c7, if_neg c7]
 exact .inr ⟨rfl, rfl⟩

/-! ### spans -/
def spA (P : Nat → Bool) : Nat → Nat → Option Nat → List S58
 | 0, _, none => []
 | 0, b, some s => [⟨(s : Int), (b : Int) - 1⟩]
 | d + 1, b, none => if P b = true then spA P d (b + 1) (some b) else spA P d (b + 1) none
 | d + 1, b, some s => if P b = true then spA P d (b + 1) (some s) else ⟨(s : Int), (b : Int) - 1⟩ :: spA P d (b + 1) none
def spS (rs : List S58) : List S58 := spA (fun b => inS rs (b : Int)) 256 0 none
theorem has_eq (s : ByteArray) (c : Nat) (h : c < 256) : pattern_bytes_has.f s (c : Int) = some (setHas s c) := by
 unfold pattern_bytes_has.f
 rw [if_pos ⟨nn c, by omega⟩, Int.toNat_natCast]
theorem m256 {c : Nat} (h : c < 256) : (c : Int) % 256 = (c : Int) := by omega
theorem wc256 {c : Nat} (h : c ≤ 256) : wrap64 ((c : Int) + 1) = ((c + 1 : Nat) : Int) := wk1 h (by decide)
theorem lt256 {c : Nat} (h : c < 256) : (c : Int) < 256 := by omega
theorem lt255 {c : Nat} (h : c < 255) : (c : Int) < 255 := by omega
theorem spans_l (s : ByteArray) (P : Nat → Bool) (hP : ∀ b, b < 256 → setHas s b = P b) (d : Nat) :
 (∀ (c k : Nat) (acc : List S58), c + d = 256 → 2 * d + 1 ≤ k → acc.length + d ≤ 1000 → pattern_bytes_spansK.l0 k s acc (c : Int) = some (acc ++ spA P d c none)) ∧
 (∀ (c f k : Nat) (acc : List S58), c + 1 + d = 256 → f ≤ c → 2 * d + 2 ≤ k → acc.length + d ≤ 999 → pattern_bytes_spansK.l1 k s acc (c : Int) (f : Int) = some (acc ++ spA P d (c + 1) (some f))) := by
 induction d with
 | zero =>
  have L0 : ∀ (k : Nat) (acc : List S58), 1 ≤ k → pattern_bytes_spansK.l0 k s acc ((256 : Nat) : Int) = some acc := by
   intro k acc hk
   obtain ⟨k, rfl⟩ : ∃ m, k = m + 1 := ⟨k - 1, by omega⟩
   simp only [pattern_bytes_spansK.l0]
   rw [if_neg (show ¬ ((256 : Nat) : Int) < 256 by decide)]
  refine ⟨fun c k acc h1 h2 h3 => ?_, fun c f k acc h1 hf h2 h3 => ?_⟩
  ·
   obtain rfl : c = 256 := by omega
   rw [show spA P 0 256 none = [] from rfl, List.append_nil]
   exact L0 k acc (by omega)
  ·
   obtain rfl : c = 255 := by omega
   obtain ⟨k, rfl⟩ : ∃ m, k = m + 1 := ⟨k - 1, by omega⟩
   have hl : acc.length < 70368744177664 := by omega
   have hfm : (f : Int) % 256 = (f : Int) := m256 (by omega)
   have hcm : ((255 : Nat) : Int) % 256 = ((255 + 1 : Nat) : Int) - 1 := by decide
   simp only [pattern_bytes_spansK.l1]
   rw [if_neg (show ¬ ((255 : Nat) : Int) < 255 by decide), if_pos hl, wc256 (by decide), hfm, hcm]
   exact L0 k _ (by omega)
 | succ d ih =>
  obtain ⟨I0, I1⟩ := ih
  refine ⟨fun c k acc h1 h2 h3 => ?_, fun c f k acc h1 hf h2 h3 => ?_⟩
  ·
   obtain ⟨k, rfl⟩ : ∃ m, k = m + 1 := ⟨k - 1, by omega⟩
   have hc : c < 256 := by omega
   have hc' : c ≤ 256 := by omega
   simp only [pattern_bytes_spansK.l0]
   rw [if_pos (lt256 hc), has_eq s c hc, Option.bind_some, hP c hc]
   by_cases hp : P c = true
   ·
    rw [if_pos hp, I1 c c k acc (by omega) (Nat.le_refl _) (by omega) (by omega)]
    show _ = some (acc ++ if P c = true then _ else _)
    rw [if_pos hp]
   ·
    rw [if_neg hp, wc256 hc', I0 (c + 1) k acc (by omega) (by omega) (by omega)]
    show _ = some (acc ++ if P c = true then _ else _)
    rw [if_neg hp]
  ·
   obtain ⟨k, rfl⟩ : ∃ m, k = m + 1 := ⟨k - 1, by omega⟩
   have hc : c < 255 := by omega
   have hc' : c ≤ 256 := by omega
   have hc1 : c + 1 < 256 := by omega
   have hc2 : c + 1 ≤ 256 := by omega
   have hl : acc.length < 70368744177664 := by omega
   have hfm : (f : Int) % 256 = (f : Int) := m256 (by omega)
   have hcm : (c : Int) % 256 = ((c + 1 : Nat) : Int) - 1 := by omega
   simp only [pattern_bytes_spansK.l1]
   rw [if_pos (lt255 hc), wc256 hc', has_eq s (c + 1) hc1, Option.bind_some, hP (c + 1) hc1]
   by_cases hp : P (c + 1) = true
   ·
    rw [if_pos hp, I1 (c + 1) f k acc (by omega) (by omega) (by omega) (by omega)]
    show _ = some (acc ++ if P (c + 1) = true then _ else _)
    rw [if_pos hp]
   ·
    rw [if_neg hp, if_pos hl, hfm, hcm]
    obtain ⟨k, rfl⟩ : ∃ m, k = m + 1 := ⟨k - 1, by omega⟩
    simp only [pattern_bytes_spansK.l0]
    rw [if_pos (lt256 hc1), has_eq s (c + 1) hc1, Option.bind_some, hP (c + 1) hc1, if_neg hp, wc256 hc2, I0 (c + 1 + 1) k _ (by omega) (by omega) (by rw [List.length_append]; simp only [List.length_singleton]; omega)]
    show _ = some (acc ++ if P (c + 1) = true then _ else _)
    rw [if_neg hp, List.append_assoc]
    rfl
theorem spans_ev (s : ByteArray) (rs : List S58) (hS : SetIs s rs) : pattern_bytes_spans.f s = some (spS rs) := by
 have := (spans_l s (fun b => inS rs (b : Int)) hS 256).1 0 1000 [] (by decide) (by decide) (by decide)
 exact this
end Go.Proofs.Ytbekhjcnmifnnaa.Pure
