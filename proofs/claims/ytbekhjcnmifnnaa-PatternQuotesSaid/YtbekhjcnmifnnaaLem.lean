/- Plain lemmas for chapter 04: what a valid pattern matches (M), and that the program's matching with backtracking comes to it. No conditions beyond those written at each. -/
import Derived.Test.YtbekhjcnmifnnaaQ16
set_option linter.unusedVariables false
set_option linter.unusedSimpArgs false
namespace Go.Proofs.Ytbekhjcnmifnnaa.Pure
open Go.RowKit Go.Proofs.Ytbekhjcnmifnnaa.Q Go.Proofs.YtbekhjcnmifnnaaW.PrintWords Go.Proofs.YtbekhjcnmifnnaaW.PrintLast

theorem ev_at1 {α : Type} {g : Nat → Option α} {r : α} (h : ∀ k, g (k + 1) = some r) : Ev g r := ⟨1, fun k hk => by
  obtain ⟨m, rfl⟩ : ∃ m, k = m + 1 := ⟨k - 1, by omega⟩
  exact h m⟩
theorem ev_const {α : Type} {r : α} : Ev (fun _ => some r) r := ⟨0, fun _ _ => rfl⟩
theorem ev_eq {α : Type} {g : Nat → Option α} {r r' : α} (h : Ev g r) (e : r = r') : Ev g r' := e ▸ h
theorem w64 {x : Int} (h0 : -9223372036854775808 ≤ x) (h1 : x ≤ 9223372036854775807) : wrap64 x = x := by
  unfold wrap64
  omega
theorem w64n {i n : Nat} (h : i ≤ n) (hn : n ≤ 1000000000000) : wrap64 ((i : Int) + 1) = ((i + 1 : Nat) : Int) := by
  rw [w64 (by omega) (by omega)]
  omega

/-- The bytes of a string as numbers. -/
def bl (s : ByteArray) : List Int := s.data.toList.map (fun b => (b.toNat : Int))
theorem bl_len (s : ByteArray) : (bl s).length = s.size := by
  unfold bl
  rw [List.length_map, Array.length_toList]
  rfl
theorem bl_get (s : ByteArray) (i : Nat) (h : i < s.size) : (bl s)[i]'(by rw [bl_len]; exact h) = bt s i := by
  simp [bl, bt, h]
  rfl
theorem bl_drop (s : ByteArray) (i : Nat) (h : i < s.size) : (bl s).drop i = bt s i :: (bl s).drop (i + 1) := by
  rw [List.drop_eq_getElem_cons (by rw [bl_len]; exact h), bl_get s i h]
theorem bl_done (s : ByteArray) (i : Nat) (h : s.size ≤ i) : (bl s).drop i = [] := List.drop_eq_nil_of_le (by rw [bl_len]; exact h)
theorem bl_append (a b : ByteArray) : bl (a ++ b) = bl a ++ bl b := by simp [bl, ByteArray.data_append]
theorem bl_extract (s : ByteArray) (a b : Nat) : bl (s.extract a b) = ((bl s).drop a).take (b - a) := by
  simp [bl, ByteArray.data_extract, List.extract_eq_take_drop, List.map_take, List.map_drop]
theorem bl_inj {a b : ByteArray} (h : bl a = bl b) : a = b := by
  have h2 : a.data.toList = b.data.toList := by
    unfold bl at h
    refine List.map_inj_right (f := fun b : UInt8 => (b.toNat : Int)) ?_ |>.mp h
    intro x y e
    exact UInt8.toNat_inj.mp (by omega)
  cases a; cases b
  congr
  exact Array.toList_inj.mp h2
theorem bt_range (s : ByteArray) (i : Int) : 0 ≤ bt s i ∧ bt s i < 256 := by
  unfold bt
  split
  · rename_i h
    have := (s[i.toNat]'h).toNat_lt
    omega
  · omega

/-! reading -/
theorem rd35 (xs : List S35) (i : Nat) (h : i < xs.length) : rd_T35 xs (i : Int) = xs[i] := by
  unfold rd_T35
  rw [List.getD_eq_getElem?_getD]
  simp [h]
theorem rd58 (xs : List S58) (i : Nat) (h : i < xs.length) : rd_T58 xs (i : Int) = xs[i] := by
  unfold rd_T58
  rw [List.getD_eq_getElem?_getD]
  simp [h]

/-! what a pattern matches -/
def inS (l : List S58) (c : Int) : Bool := l.any fun s => decide (s.f0 ≤ c) && decide (c ≤ s.f1)
def oneS (x : S35) (c : Int) : Bool := if x.f0 = 1 then bt x.f1 0 == c else if x.f0 = 2 then true else (inS x.f3 c != x.f2)
def stars (f : List Int → Bool) : List Int → Bool
  | [] => f []
  | c :: t => f (c :: t) || stars f t
def oneThen (x : S35) (f : List Int → Bool) : List Int → Bool
  | [] => false
  | c :: t => oneS x c && f t
def M : List S35 → List Int → Bool
  | [], t => t.isEmpty
  | x :: p, t => if x.f0 = 3 then stars (M p) t else oneThen x (M p) t
theorem M_star (x : S35) (p : List S35) (t : List Int) (h : x.f0 = 3) : M (x :: p) t = (M p t || (match t with | [] => false | _ :: t' => M (x :: p) t')) := by
  have e : ∀ t, M (x :: p) t = stars (M p) t := fun t => if_pos h
  cases t with
  | nil => simp [e, stars]
  | cons c t' => simp [e, stars]
theorem M_one (x : S35) (p : List S35) (c : Int) (t : List Int) (h : x.f0 ≠ 3) : M (x :: p) (c :: t) = (oneS x c && M p t) := if_neg h
theorem M_none (x : S35) (p : List S35) (h : x.f0 ≠ 3) : M (x :: p) [] = false := if_neg h
/-- A pattern that begins with a star matches whatever has a matching end. -/
theorem M_more (x : S35) (p : List S35) (h : x.f0 = 3) (a t : List Int) (hm : M (x :: p) t = true) : M (x :: p) (a ++ t) = true := by
  induction a with
  | nil => exact hm
  | cons c a ih =>
    rw [List.cons_append, M_star x p _ h]
    simp [ih]
/-- Items that are no stars match as many bytes as they are. -/
theorem M_cut (q r : List S35) (hq : ∀ x ∈ q, x.f0 ≠ 3) : ∀ t, M (q ++ r) t = true → q.length ≤ t.length ∧ M r (t.drop q.length) = true := by
  induction q with
  | nil => exact fun t h => ⟨Nat.zero_le _, h⟩
  | cons x q ih =>
    intro t h
    have hx := hq x (List.mem_cons_self ..)
    cases t with
    | nil =>
      rw [List.cons_append, M_none x _ hx] at h
      exact absurd h (by simp)
    | cons c t =>
      rw [List.cons_append, M_one x _ c t hx, Bool.and_eq_true] at h
      obtain ⟨h1, h2⟩ := ih (fun y hy => hq y (List.mem_cons_of_mem _ hy)) t h.2
      exact ⟨by simp only [List.length_cons]; omega, h2⟩

/-- The sizes that the walks ask for. -/
structure Good (p : List S35) : Prop where
  len : p.length ≤ 100000
  each : ∀ x ∈ p, x.f3.length ≤ 100000 ∧ ∀ s ∈ x.f3, 0 ≤ s.f0 ∧ s.f0 ≤ 255 ∧ 0 ≤ s.f1 ∧ s.f1 ≤ 255

theorem one_l0 (c : Int) (l : List S58) (b : Bool) (y0 : Int) (y1 : ByteArray) (hl : l.length ≤ 100000) (d : Nat) : ∀ i : Nat, i ≤ l.length → l.length - i = d →
    Ev (fun k => pattern_one.l0 k c l (l.length : Int) i y0 y1 b l) (inS (l.drop i) c != b) := by
  induction d with
  | zero =>
    intro i hi hd
    obtain rfl : i = l.length := by omega
    refine ev_at1 fun k => ?_
    simp only [pattern_one.l0]
    rw [if_neg (by omega), List.drop_length]
    cases b <;> rfl
  | succ d ih =>
    intro i hi hd
    have hlt : i < l.length := by omega
    have q0 : (i : Int) < (l.length : Int) := by omega
    have q1 : (0 : Int) ≤ (i : Int) := by omega
    have I := ih (i + 1) hlt (by omega)
    rw [List.drop_eq_getElem_cons hlt]
    have hin : inS (l[i] :: l.drop (i + 1)) c = ((decide (l[i].f0 ≤ c) && decide (c ≤ l[i].f1)) || inS (l.drop (i + 1)) c) := rfl
    have z := w64n hi (by omega)
    rw [hin]
    by_cases h1 : l[i].f0 ≤ c
    · by_cases h2 : c ≤ l[i].f1
      · refine ev_at1 fun k => ?_
        simp only [pattern_one.l0]
        rw [if_pos q0, if_pos q1, if_pos q0, rd58 l i hlt, if_pos h1, if_pos h2]
        simp [h1, h2]
      · refine ev_eq (Ev.step (fun k => ?_) I) (by simp [h2])
        simp only [pattern_one.l0]
        rw [if_pos q0, if_pos q1, if_pos q0, rd58 l i hlt, if_pos h1, if_neg h2, z]
    · refine ev_eq (Ev.step (fun k => ?_) I) (by simp [h1])
      simp only [pattern_one.l0]
      rw [if_pos q0, if_pos q1, if_pos q0, rd58 l i hlt, if_neg h1, z]
theorem one_ev (x : S35) (c : Int) (h1 : x.f0 = 1 → 0 < x.f1.size) (hl : x.f3.length ≤ 100000) : Ev (fun k => pattern_one.f k x.f0 x.f1 x.f2 x.f3 c) (oneS x c) := by
  unfold pattern_one.f oneS
  by_cases e1 : x.f0 = 1
  · simp only [if_pos e1]
    have : 0 < (x.f1.size : Int) := by have := h1 e1; omega
    rw [if_pos this]
    exact ev_const
  · simp only [if_neg e1]
    by_cases e2 : x.f0 = 2
    · simp only [if_pos e2]
      exact ev_const
    · simp only [if_neg e2]
      exact one_l0 c x.f3 x.f2 x.f0 x.f1 hl _ 0 (Nat.zero_le _) rfl

/-- What the program's matching comes to, in the midst of it. -/
def altS (p : List S35) (t : List Int) : Option Nat → Nat → Bool
  | none, _ => false
  | some j, f => decide (f < t.length) && M (p.drop j) (t.drop (f + 1))
def vS (p : List S35) (t : List Int) (i k : Nat) (st : Option Nat) (f : Nat) : Bool := M (p.drop i) (t.drop k) || altS p t st f
def stI : Option Nat → Int
  | none => -1
  | some j => (j : Int)
structure MInv (p : List S35) (t : List Int) (i k : Nat) (st : Option Nat) (f : Nat) : Prop where
  hi : i ≤ p.length
  hk : k ≤ t.length
  hf : f ≤ k
  hs : ∀ j, st = some j → j < i ∧ (∃ h : j < p.length, (p[j]'h).f0 = 3) ∧ k = f + (i - j - 1) ∧ ∀ m, j < m → m < i → ∀ h : m < p.length, (p[m]'h).f0 ≠ 3
/-- The elder star is not needed where a new one is met. -/
theorem old_star (p : List S35) (t : List Int) (i k f j : Nat) (h : MInv p t i k (some j) f) (hlt : i < p.length) (h3 : (p[i]'hlt).f0 = 3) (hf : f < t.length) (hm : M (p.drop j) (t.drop (f + 1)) = true) : M (p.drop i) (t.drop k) = true := by
  obtain ⟨hj, ⟨hjl, hj3⟩, hk, hn⟩ := h.hs j rfl
  -- some end of the rest is matched by what stands behind the elder star
  have E : ∃ g, f + 1 ≤ g ∧ M (p.drop (j + 1)) (t.drop g) = true := by
    rw [List.drop_eq_getElem_cons hjl] at hm
    have key : ∀ u : List Int, M (p[j] :: p.drop (j + 1)) u = true → ∃ g, M (p.drop (j + 1)) (u.drop g) = true := by
      intro u
      induction u with
      | nil =>
        intro hu
        rw [M_star _ _ _ hj3] at hu
        exact ⟨0, by simpa using hu⟩
      | cons c u ih =>
        intro hu
        rw [M_star _ _ _ hj3, Bool.or_eq_true] at hu
        rcases hu with hu | hu
        · exact ⟨0, hu⟩
        · obtain ⟨g, hg⟩ := ih hu
          exact ⟨g + 1, hg⟩
    obtain ⟨g, hg⟩ := key _ hm
    exact ⟨f + 1 + g, by omega, by rwa [List.drop_drop] at hg⟩
  obtain ⟨g, hg1, hg2⟩ := E
  have hsplit : p.drop (j + 1) = (p.drop (j + 1)).take (i - j - 1) ++ p.drop i := by
    have h1 := (List.take_append_drop (i - j - 1) (p.drop (j + 1))).symm
    rw [List.drop_drop] at h1
    have h2 : j + 1 + (i - j - 1) = i := by omega
    rw [h2] at h1
    exact h1
  have hlen : ((p.drop (j + 1)).take (i - j - 1)).length = i - j - 1 := by
    rw [List.length_take, List.length_drop]
    omega
  rw [hsplit] at hg2
  obtain ⟨h1, h2⟩ := M_cut _ _ (by
    intro x hx
    obtain ⟨m, hm1, rfl⟩ := List.mem_iff_getElem.mp hx
    rw [hlen] at hm1
    simp only [List.getElem_take, List.getElem_drop]
    exact hn _ (by omega) (by omega) _) _ hg2
  rw [hlen, List.drop_drop] at h2
  have h4 : t.drop k = (t.drop k).take (g + (i - j - 1) - k) ++ t.drop (g + (i - j - 1)) := by
    have h5 := (List.take_append_drop (g + (i - j - 1) - k) (t.drop k)).symm
    rw [List.drop_drop] at h5
    have h6 : k + (g + (i - j - 1) - k) = g + (i - j - 1) := by omega
    rw [h6] at h5
    exact h5
  rw [List.drop_eq_getElem_cons hlt] at h2 ⊢
  rw [h4]
  exact M_more _ _ h3 _ _ h2

/-- Behind a star: what is left of it and what stands behind it are the star itself. -/
theorem star_pair (p : List S35) (t : List Int) (j g : Nat) (hjl : j < p.length) (hj3 : (p[j]'hjl).f0 = 3) (hg : g ≤ t.length) : vS p t (j + 1) g (some j) g = M (p.drop j) (t.drop g) := by
  show (M (p.drop (j + 1)) (t.drop g) || (decide (g < t.length) && M (p.drop j) (t.drop (g + 1)))) = _
  rw [List.drop_eq_getElem_cons hjl]
  by_cases h : g < t.length
  · rw [decide_eq_true h, Bool.true_and, List.drop_eq_getElem_cons h]
    exact (M_star _ _ _ hj3).symm
  · rw [decide_eq_false h, Bool.false_and, List.drop_eq_nil_of_le (by omega : t.length ≤ g)]
    exact (M_star _ _ _ hj3).symm
theorem inv_star {p : List S35} {t : List Int} {j g : Nat} (hjl : j < p.length) (hj3 : (p[j]'hjl).f0 = 3) (hg : g ≤ t.length) : MInv p t (j + 1) g (some j) g :=
  ⟨hjl, hg, Nat.le_refl _, fun j' e => by
    obtain rfl : j = j' := Option.some.inj e
    exact ⟨by omega, ⟨hjl, hj3⟩, by omega, fun m h2 h3 => by omega⟩⟩
theorem stI_none : ¬ (stI none ≥ 0) := by decide
theorem stI_some (j : Nat) : stI (some j) ≥ 0 := Int.natCast_nonneg j
theorem stI_next {j n : Nat} (h : j ≤ n) (hn : n ≤ 1000000000000) : wrap64 (stI (some j) + 1) = ((j + 1 : Nat) : Int) := w64n h hn
theorem lift_lt {a b : Nat} (h : a < b) : (a : Int) < (b : Int) := Int.ofNat_lt.mpr h
theorem lift_not_lt {a b : Nat} (h : ¬ a < b) : ¬ (a : Int) < (b : Int) := fun e => h (Int.ofNat_lt.mp e)
theorem lift_eq {a b : Nat} (h : a = b) : (a : Int) = (b : Int) := congrArg _ h
theorem lift_ne {a b : Nat} (h : ¬ a = b) : ¬ (a : Int) = (b : Int) := fun e => h (Int.ofNat_inj.mp e)
theorem nn (a : Nat) : (0 : Int) ≤ (a : Int) := Int.natCast_nonneg a
/-- Where nothing goes on but the star. -/
theorem back_ev (p : List S35) (s : ByteArray) (hp : Good p) (hn : s.size ≤ 1000000) (i k : Nat) (st : Option Nat) (f : Nat) (h : MInv p (bl s) i k st f)
    (ih : ∀ j, st = some j → f < s.size → MInv p (bl s) (j + 1) (f + 1) (some j) (f + 1) → Ev (fun n => pattern_matches.l0 n p s ((j + 1 : Nat) : Int) ((f + 1 : Nat) : Int) (stI (some j)) ((f + 1 : Nat) : Int)) (vS p (bl s) (j + 1) (f + 1) (some j) (f + 1)))
    (hm : M (p.drop i) ((bl s).drop k) = false) : Ev (fun n => pattern_matches.j3 n p s (stI st) f false) (vS p (bl s) i k st f) := by
  have hb := bl_len s
  have hl12 : p.length ≤ 1000000000000 := Nat.le_trans hp.len (by decide)
  have hs12 : s.size ≤ 1000000000000 := Nat.le_trans hn (by decide)
  have hfs : f ≤ s.size := by
    have h1 := h.hf
    have h2 := h.hk
    omega
  have ev : vS p (bl s) i k st f = altS p (bl s) st f := by
    unfold vS
    rw [hm, Bool.false_or]
  rw [ev]
  clear ev
  cases st with
  | none =>
    refine ev_at1 fun n => ?_
    simp only [pattern_matches.j3, Bool.false_eq_true, if_false]
    rw [if_neg stI_none]
    rfl
  | some j =>
    obtain ⟨hj, ⟨hjl, hj3⟩, hkf, hn3⟩ := h.hs j rfl
    clear hn3
    show Ev _ (decide (f < (bl s).length) && M (p.drop j) ((bl s).drop (f + 1)))
    by_cases hfn : f < s.size
    · have hfl : f + 1 ≤ (bl s).length := by rw [hb]; exact hfn
      have I := ih j rfl hfn (inv_star hjl hj3 hfl)
      rw [star_pair p (bl s) j (f + 1) hjl hj3 hfl] at I
      rw [hb, decide_eq_true hfn, Bool.true_and]
      refine Ev.step (fun n => ?_) I
      simp only [pattern_matches.j3, stI_next (Nat.le_of_lt hjl) hl12, w64n hfs hs12, Bool.false_eq_true, if_false]
      rw [if_pos (stI_some j), if_pos (lift_lt hfn)]
    · rw [hb, decide_eq_false hfn, Bool.false_and]
      refine ev_at1 fun n => ?_
      simp only [pattern_matches.j3, Bool.false_eq_true, if_false]
      rw [if_pos (stI_some j), if_neg (lift_not_lt hfn)]
theorem back2_ev (p : List S35) (s : ByteArray) (i k : Nat) (st : Option Nat) (f : Nat) (hi : i ≤ p.length) (hk : k ≤ s.size)
    (B : M (p.drop i) ((bl s).drop k) = false → Ev (fun n => pattern_matches.j3 n p s (stI st) f false) (vS p (bl s) i k st f))
    (hm : M (p.drop i) ((bl s).drop k) = (decide (k = s.size) && decide (i = p.length))) : Ev (fun n => pattern_matches.j2 n p s i k (stI st) f false) (vS p (bl s) i k st f) := by
  by_cases hks : k = s.size
  · have q1 : (k : Int) = (s.size : Int) := lift_eq hks
    by_cases hip : i = p.length
    · have ht : vS p (bl s) i k st f = true := by
        unfold vS
        rw [hm, decide_eq_true hks, decide_eq_true hip]
        rfl
      rw [ht]
      have q2 : ((i : Int) == (p.length : Int)) = true := beq_iff_eq.mpr (lift_eq hip)
      refine Ev.step (fun n => ?_) (ev_at1 (g := fun n => pattern_matches.j3 n p s (stI st) f true) fun n => ?_)
      · simp only [pattern_matches.j2, Bool.false_eq_true, if_false]
        rw [if_pos q1, q2]
      · simp only [pattern_matches.j3, if_true]
    · have q2 : ((i : Int) == (p.length : Int)) = false := beq_eq_false_iff_ne.mpr (lift_ne hip)
      refine Ev.step (fun n => ?_) (B (by rw [hm, decide_eq_false hip, Bool.and_false]))
      simp only [pattern_matches.j2, Bool.false_eq_true, if_false]
      rw [if_pos q1, q2]
  · have q1 : ¬ (k : Int) = (s.size : Int) := lift_ne hks
    refine Ev.step (fun n => ?_) (B (by rw [hm, decide_eq_false hks, Bool.false_and]))
    simp only [pattern_matches.j2, Bool.false_eq_true, if_false]
    rw [if_neg q1]
theorem inv_on {p : List S35} {t : List Int} {i k : Nat} {st : Option Nat} {f : Nat} (h : MInv p t i k st f) (hlt : i < p.length) (hk : k < t.length) (h3 : (p[i]'hlt).f0 ≠ 3) : MInv p t (i + 1) (k + 1) st f := by
  have hf := h.hf
  refine ⟨hlt, hk, by omega, fun j e => ?_⟩
  obtain ⟨a, b, c, d⟩ := h.hs j e
  refine ⟨by omega, b, by omega, fun m h2 h3' h4 => ?_⟩
  by_cases e2 : m = i
  · subst e2; exact h3
  · exact d m h2 (by omega) h4
theorem new_star {p : List S35} {t : List Int} {i k : Nat} {st : Option Nat} {f : Nat} (h : MInv p t i k st f) (hlt : i < p.length) (h3 : (p[i]'hlt).f0 = 3) : vS p t (i + 1) k (some i) k = vS p t i k st f := by
  rw [star_pair p t i k hlt h3 h.hk]
  unfold vS altS
  cases st with
  | none => rw [Bool.or_false]
  | some j =>
    simp only
    by_cases hmm : (decide (f < t.length) && M (p.drop j) (t.drop (f + 1))) = true
    · rw [Bool.and_eq_true, decide_eq_true_eq] at hmm
      rw [old_star p t i k f j h hlt h3 hmm.1 hmm.2, Bool.true_or]
    · rw [Bool.eq_false_iff.mpr hmm, Bool.or_false]
def mst (p : List S35) : Option Nat → Nat
  | none => p.length + 1
  | some j => p.length - j
theorem step_ev (p : List S35) (s : ByteArray) (hp : Good p) (h1 : ∀ x ∈ p, x.f0 = 1 → 0 < x.f1.size) (hn : s.size ≤ 1000000) (i k : Nat) (st : Option Nat) (f : Nat) (h : MInv p (bl s) i k st f)
    (ihS : ∀ hlt : i < p.length, (p[i]'hlt).f0 = 3 → Ev (fun n => pattern_matches.l0 n p s ((i + 1 : Nat) : Int) (k : Int) (stI (some i)) (k : Int)) (vS p (bl s) (i + 1) k (some i) k))
    (ihO : i < p.length → MInv p (bl s) (i + 1) (k + 1) st f → Ev (fun n => pattern_matches.l0 n p s ((i + 1 : Nat) : Int) ((k + 1 : Nat) : Int) (stI st) (f : Int)) (vS p (bl s) (i + 1) (k + 1) st f))
    (ihB : ∀ j, st = some j → f < s.size → MInv p (bl s) (j + 1) (f + 1) (some j) (f + 1) → Ev (fun n => pattern_matches.l0 n p s ((j + 1 : Nat) : Int) ((f + 1 : Nat) : Int) (stI (some j)) ((f + 1 : Nat) : Int)) (vS p (bl s) (j + 1) (f + 1) (some j) (f + 1))) :
    Ev (fun n => pattern_matches.l0 n p s i k (stI st) f) (vS p (bl s) i k st f) := by
  have hb := bl_len s
  have hl12 : p.length ≤ 1000000000000 := Nat.le_trans hp.len (by decide)
  have hs12 : s.size ≤ 1000000000000 := Nat.le_trans hn (by decide)
  have hi := h.hi
  have hk : k ≤ s.size := by
    have := h.hk
    omega
  have back2 := back2_ev p s i k st f hi hk (back_ev p s hp hn i k st f h ihB)
  by_cases hlt : i < p.length
  · have hmem := List.getElem_mem hlt
    by_cases h3 : (p[i]'hlt).f0 = 3
    · have I := ihS hlt h3
      rw [new_star h hlt h3] at I
      refine Ev.step (fun n => ?_) (Ev.step (g := fun n => pattern_matches.j1 n p s i k (stI st) f true) (fun n => ?_) I)
      · simp only [pattern_matches.l0]
        rw [if_pos (lift_lt hlt), if_pos (nn i), rd35 p i hlt, h3]
        rfl
      · simp only [pattern_matches.j1, w64n hi hl12, if_true]
        rfl
    · have hne : ((p[i]'hlt).f0 == 3) = false := beq_eq_false_iff_ne.mpr h3
      have hd := List.drop_eq_getElem_cons hlt
      have hip : ¬ i = p.length := Nat.ne_of_lt hlt
      by_cases hks : k < s.size
      · have hkn : ¬ k = s.size := Nat.ne_of_lt hks
        have O := one_ev (p[i]'hlt) (bt s k) (h1 _ hmem) (hp.each _ hmem).1
        have hd2 := bl_drop s k hks
        have hmv : M (p.drop i) ((bl s).drop k) = (oneS (p[i]'hlt) (bt s k) && M (p.drop (i + 1)) ((bl s).drop (k + 1))) := by
          rw [hd, hd2, M_one _ _ _ _ h3]
        have R : Ev (fun n => pattern_matches.j2 n p s i k (stI st) f (oneS (p[i]'hlt) (bt s k))) (vS p (bl s) i k st f) := by
          cases ho : oneS (p[i]'hlt) (bt s k) with
          | true =>
            have I := ihO hlt (inv_on h hlt (by rw [hb]; exact hks) h3)
            have e : vS p (bl s) (i + 1) (k + 1) st f = vS p (bl s) i k st f := by
              unfold vS
              rw [hmv, ho, Bool.true_and]
            rw [e] at I
            refine Ev.step (fun n => ?_) I
            simp only [pattern_matches.j2, w64n hi hl12, w64n hk hs12, if_true]
          | false =>
            refine back2 ?_
            rw [hmv, ho, Bool.false_and, decide_eq_false hkn, Bool.false_and]
        refine Ev.step (fun n => ?_) (Ev.step (g := fun n => pattern_matches.j1 n p s i k (stI st) f false) (fun n => ?_) (Ev.bind O R))
        · simp only [pattern_matches.l0]
          rw [if_pos (lift_lt hlt), if_pos (nn i), rd35 p i hlt, hne]
        · simp only [pattern_matches.j1, Bool.false_eq_true, if_false]
          rw [if_pos (lift_lt hks), if_pos (lift_lt hlt), if_pos (nn i), if_pos (nn k), rd35 p i hlt]
      · have R := back2 (by rw [hd, bl_done s k (Nat.le_of_not_lt hks), M_none _ _ h3, decide_eq_false hip, Bool.and_false])
        refine Ev.step (fun n => ?_) (Ev.step (g := fun n => pattern_matches.j1 n p s i k (stI st) f false) (fun n => ?_) R)
        · simp only [pattern_matches.l0]
          rw [if_pos (lift_lt hlt), if_pos (nn i), rd35 p i hlt, hne]
        · simp only [pattern_matches.j1, Bool.false_eq_true, if_false]
          rw [if_neg (lift_not_lt hks)]
  · have hip : i = p.length := Nat.le_antisymm hi (Nat.le_of_not_lt hlt)
    have R := back2 (by
      rw [List.drop_eq_nil_of_le (Nat.le_of_not_lt hlt), decide_eq_true hip, Bool.and_true]
      by_cases hks : k = s.size
      · rw [bl_done s k (Nat.le_of_eq hks.symm), decide_eq_true hks]
        rfl
      · rw [bl_drop s k (Nat.lt_of_le_of_ne hk hks), decide_eq_false hks]
        rfl)
    refine Ev.step (fun n => ?_) (Ev.step (g := fun n => pattern_matches.j1 n p s i k (stI st) f false) (fun n => ?_) R)
    · simp only [pattern_matches.l0]
      rw [if_neg (lift_not_lt hlt)]
    · simp only [pattern_matches.j1, Bool.false_eq_true, if_false]
      by_cases hks : k < s.size
      · rw [if_pos (lift_lt hks), if_neg (lift_not_lt hlt)]
      · rw [if_neg (lift_not_lt hks)]
theorem mst_new {p : List S35} {t : List Int} {i k : Nat} {st : Option Nat} {f A : Nat} (h : MInv p t i k st f) (hlt : i < p.length) (hA : mst p st ≤ A + 1) : mst p (some i) ≤ A := by
  cases st with
  | none => simp only [mst] at hA ⊢; omega
  | some j =>
    obtain ⟨hj, _⟩ := h.hs j rfl
    simp only [mst] at hA ⊢; omega
theorem mst_pos {p : List S35} {t : List Int} {i k : Nat} {st : Option Nat} {f : Nat} (h : MInv p t i k st f) (hA : mst p st ≤ 0) : False := by
  cases st with
  | none => simp only [mst] at hA; omega
  | some j =>
    obtain ⟨_, ⟨hjl, _⟩, _⟩ := h.hs j rfl
    simp only [mst] at hA; omega
theorem dec1 {n f B : Nat} (h : n - f ≤ B + 1) : n - (f + 1) ≤ B := by omega
theorem dec0 {n f : Nat} (h : n - f ≤ 0) (h2 : f < n) : False := by omega
theorem matches_l0 (p : List S35) (s : ByteArray) (hp : Good p) (h1 : ∀ x ∈ p, x.f0 = 1 → 0 < x.f1.size) (hn : s.size ≤ 1000000) (A : Nat) : ∀ (B C : Nat) (i k : Nat) (st : Option Nat) (f : Nat), mst p st ≤ A → s.size - f ≤ B → p.length - i ≤ C → MInv p (bl s) i k st f →
    Ev (fun n => pattern_matches.l0 n p s i k (stI st) f) (vS p (bl s) i k st f) := by
  induction A with
  | zero => exact fun B C i k st f hA _ _ h => (mst_pos h hA).elim
  | succ A ihA =>
    intro B
    induction B with
    | zero =>
      intro C
      induction C with
      | zero => exact fun i k st f hA hB hC h => step_ev p s hp h1 hn i k st f h (fun hlt h3 => ihA _ _ _ _ _ _ (mst_new h hlt hA) (Nat.le_refl _) (Nat.le_refl _) (inv_star hlt h3 h.hk)) (fun hlt => (dec0 hC hlt).elim) (fun j e hf => (dec0 hB hf).elim)
      | succ C ihC => exact fun i k st f hA hB hC h => step_ev p s hp h1 hn i k st f h (fun hlt h3 => ihA _ _ _ _ _ _ (mst_new h hlt hA) (Nat.le_refl _) (Nat.le_refl _) (inv_star hlt h3 h.hk)) (fun hlt hI => ihC _ _ _ _ hA hB (dec1 hC) hI) (fun j e hf => (dec0 hB hf).elim)
    | succ B ihB =>
      intro C
      induction C with
      | zero => exact fun i k st f hA hB hC h => step_ev p s hp h1 hn i k st f h (fun hlt h3 => ihA _ _ _ _ _ _ (mst_new h hlt hA) (Nat.le_refl _) (Nat.le_refl _) (inv_star hlt h3 h.hk)) (fun hlt => (dec0 hC hlt).elim) (fun j e hf hI => ihB _ _ _ _ _ (by rw [← e]; exact hA) (dec1 hB) (Nat.le_refl _) hI)
      | succ C ihC => exact fun i k st f hA hB hC h => step_ev p s hp h1 hn i k st f h (fun hlt h3 => ihA _ _ _ _ _ _ (mst_new h hlt hA) (Nat.le_refl _) (Nat.le_refl _) (inv_star hlt h3 h.hk)) (fun hlt hI => ihC _ _ _ _ hA hB (dec1 hC) hI) (fun j e hf hI => ihB _ _ _ _ _ (by rw [← e]; exact hA) (dec1 hB) (Nat.le_refl _) hI)
theorem matches_ev (p : List S35) (s : ByteArray) (hp : Good p) (h1 : ∀ x ∈ p, x.f0 = 1 → 0 < x.f1.size) (hn : s.size ≤ 1000000) : Ev (fun n => pattern_matches.f n p s) (M p (bl s)) := by
  have I := matches_l0 p s hp h1 hn _ _ _ 0 0 none 0 (Nat.le_refl _) (Nat.le_refl _) (Nat.le_refl _) ⟨Nat.zero_le _, Nat.zero_le _, Nat.le_refl _, fun j e => by simp at e⟩
  have e : vS p (bl s) 0 0 none 0 = M p (bl s) := by simp [vS, altS]
  rw [e] at I
  exact I
end Go.Proofs.Ytbekhjcnmifnnaa.Pure
