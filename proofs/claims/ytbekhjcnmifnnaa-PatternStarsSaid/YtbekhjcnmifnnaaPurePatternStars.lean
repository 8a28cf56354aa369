/- The pure statement of PatternStars: the shortest and the longest matching prefix match, and a star put behind matches what has a matching prefix. Conditions: none beyond the statement's. -/
import Derived.Test.YtbekhjcnmifnnaaSayPatternStars
import Derived.Test.YtbekhjcnmifnnaaLem3
import Derived.Test.YtbekhjcnmifnnaaLemM
set_option linter.unusedVariables false
set_option linter.unusedSimpArgs false
namespace Go.Proofs.Ytbekhjcnmifnnaa.Pure
open Go.RowKit Go.Proofs.Ytbekhjcnmifnnaa.Q Go.Proofs.YtbekhjcnmifnnaaW.PrintWords Go.Proofs.YtbekhjcnmifnnaaW.PrintLast

def starX : S35 := ⟨3, (⟨#[]⟩ : ByteArray), false, ([] : List S58)⟩
theorem M_starX (u : List Int) : M [starX] u = true := by
  rw [show M [starX] u = stars (M []) u from if_pos rfl, stars_iff]
  exact ⟨u.length, Nat.le_refl _, by rw [List.drop_length]; rfl⟩
theorem M_behind (p : List S35) (t : List Int) : M (p ++ [starX]) t = true ↔ ∃ i, i ≤ t.length ∧ M p (t.take i) = true := by
  rw [M_app]
  constructor
  · rintro ⟨i, hi, h1, _⟩; exact ⟨i, hi, h1⟩
  · rintro ⟨i, hi, h1⟩; exact ⟨i, hi, h1, M_starX _⟩
theorem valid_starX : validS starX = true := by decide
theorem cutT_pre (t : List Int) (m : Nat) : cutT t false m = t.take m := if_neg (by decide)
/-- Whether there is a matching prefix. -/
theorem part_ok (p : List S35) (t : List Int) (lo : Bool) (hv : p.all validS = true) : (partS p t lo false).2 = true ↔ ∃ i, i ≤ t.length ∧ M p (t.take i) = true := by
  unfold partS
  rw [if_pos hv]
  cases h : findS (fun i => M p (cutT t false (cutN t.length lo i))) (t.length + 1) 0 with
  | some j =>
    obtain ⟨_, h2, h3, _⟩ := findS_some h
    rw [cutT_pre] at h3
    exact ⟨fun _ => ⟨_, cutN_le (by omega), h3⟩, fun _ => rfl⟩
  | none =>
    have h2 := findS_none h
    constructor
    · exact fun h => absurd h (by simp [partR])
    · rintro ⟨i, hi, h3⟩
      exfalso
      cases lo with
      | true =>
        have h4 := h2 (t.length - i) (Nat.zero_le _) (by omega)
        rw [cutT_pre] at h4
        have : cutN t.length true (t.length - i) = i := by simp [cutN]; omega
        rw [this, h3] at h4
        exact absurd h4 (by simp)
      | false =>
        have h4 := h2 i (Nat.zero_le _) (by omega)
        rw [cutT_pre] at h4
        have : cutN t.length false i = i := by simp [cutN]
        rw [this, h3] at h4
        exact absurd h4 (by simp)
/-- The number told is that of a matching prefix, the first or the last. -/
theorem part_num (p : List S35) (t : List Int) (lo : Bool) (hv : p.all validS = true) (h : (partS p t lo false).2 = true) :
    ∃ m : Nat, partS p t lo false = ((m : Int), true) ∧ m ≤ t.length ∧ M p (t.take m) = true ∧ ∀ i, i ≤ t.length → M p (t.take i) = true → if lo = true then i ≤ m else m ≤ i := by
  unfold partS at h ⊢
  rw [if_pos hv] at h ⊢
  cases hf : findS (fun i => M p (cutT t false (cutN t.length lo i))) (t.length + 1) 0 with
  | none =>
    rw [hf] at h
    exact absurd h (by simp [partR])
  | some j =>
    obtain ⟨_, h2, h3, h4⟩ := findS_some hf
    rw [cutT_pre] at h3
    refine ⟨cutN t.length lo j, rfl, cutN_le (by omega), h3, fun i hi hm => ?_⟩
    cases lo with
    | true =>
      rw [if_pos rfl]
      rcases Nat.lt_or_ge (cutN t.length true j) i with hlt | hge
      · exfalso
        have e : cutN t.length true (t.length - i) = i := by simp [cutN]; omega
        have e2 : t.length - i < j := by simp [cutN] at hlt; omega
        have h5 := h4 (t.length - i) (Nat.zero_le _) e2
        rw [cutT_pre, e, hm] at h5
        exact absurd h5 (by simp)
      · exact hge
    | false =>
      rw [if_neg (by decide)]
      rcases Nat.lt_or_ge i (cutN t.length false j) with hlt | hge
      · exfalso
        have e : cutN t.length false i = i := by simp [cutN]
        have e2 : i < j := by simp [cutN] at hlt; omega
        have h5 := h4 i (Nat.zero_le _) e2
        rw [cutT_pre, e, hm] at h5
        exact absurd h5 (by simp)
      · exact hge
theorem part_inv (p : List S35) (t : List Int) (lo su : Bool) (hv : ¬ p.all validS = true) : partS p t lo su = (0, false) := if_neg hv

theorem stars_j1 (p : List S35) (s t : ByteArray) (hp : Good p) (hl : p.length ≤ 1000) (hs : s.size ≤ 30) (ht : t.size ≤ 30) : Ev (fun k => jobshelllaw04_PatternStars.j1 k p s t false) true := by
  have hg : Good (p ++ [starX]) := ⟨by rw [List.length_append]; have : [starX].length = 1 := rfl; omega, fun x hx => by
    rcases List.mem_append.mp hx with h | h
    · exact hp.each x h
    · rw [List.mem_singleton.mp h]
      exact ⟨Nat.zero_le _, fun s hs => by cases hs⟩⟩
  have hst : (s ++ t).size ≤ 1000000 := by rw [ByteArray.size_append]; omega
  have A := match_ev (p ++ [starX]) (s ++ t) hg hst
  have B := prefix_ev p (s ++ t) hp hst false
  have E : matchS (p ++ [starX]) (bl (s ++ t)) = (partS p (bl (s ++ t)) false false).2 := by
    unfold matchS
    rw [List.all_append, show ([starX].all validS) = true from by simp [valid_starX], Bool.and_true]
    by_cases hv : p.all validS = true
    · rw [hv, Bool.true_and, Bool.eq_iff_iff, M_behind, part_ok p _ _ hv]
    · rw [part_inv p _ _ _ hv, Bool.eq_false_iff.mpr hv, Bool.false_and]
  have q1 : ([] : List S35).length + p.length < 2513169434916 := by rw [List.length_nil]; omega
  have q2 : ([] ++ p : List S35).length < 2513169434916 := by rw [List.nil_append]; omega
  have q3 : s.size + t.size ≤ 9223372036854775807 := by omega
  refine Ev.step (fun k => ?_) (Ev.bind A (f := fun k t349 => (jobshelllaw04_prefixes.f k p (s ++ t)).bind fun t350 => (if (t349 == t350) = true then ((jobshelllaw04_awake.f k).bind fun t351 => (some t351)) else (none))) ?_)
  · simp only [jobshelllaw04_PatternStars.j1, Bool.false_eq_true, if_false, Option.bind_some]
    rw [if_pos q1, if_pos q2, if_pos q3]
    rfl
  · unfold jobshelllaw04_prefixes.f
    refine Ev.bind (Ev.bind B ev_const) ?_
    rw [E]
    simp only [beq_self_eq_true, if_true]
    exact awake_some

theorem PatternStars : PatternStarsPure := by
  intro p s t hp hs ht
  refine Ev.rounds ?_
  unfold jobshelllaw04_PatternStars.f
  have J0 : Ev (fun k => jobshelllaw04_PatternStars.j0 k p s t true) true := Ev.step (fun k => by simp only [jobshelllaw04_PatternStars.j0, if_true]) awake_some
  obtain ⟨b, hb1, hb2⟩ := few_ev p 10 (by decide)
  refine Ev.bind hb1 ?_
  cases b with
  | false =>
    simp only [Bool.false_eq_true, if_false]
    exact J0
  | true =>
    simp only [if_true]
    obtain ⟨hl, he⟩ := hb2 rfl
    by_cases h1 : (s.size : Int) > 30
    · simp only [if_pos h1]
      exact J0
    · simp only [if_neg h1]
      by_cases h2 : (t.size : Int) > 30
      · simp only [decide_eq_true h2]
        exact J0
      · simp only [decide_eq_false h2]
        have hs' : s.size ≤ 30 := by omega
        have ht' : t.size ≤ 30 := by omega
        have hg : Good p := ⟨by omega, fun x hx => ⟨by have := (he x hx).1; omega, fun y hy => by
          have h3 := ((hp.1 x hx).2.2.2.1 y hy)
          exact ⟨(wf8 h3.1).1, (wf8 h3.1).2, (wf8 h3.2).1, (wf8 h3.2).2⟩⟩⟩
        have J1 := stars_j1 p s t hg (by omega) hs' ht'
        have P0 := prefix_ev p s hg (by omega) false
        have P1 := prefix_ev p s hg (by omega) true
        refine Ev.step (fun k => by simp only [jobshelllaw04_PatternStars.j0, Bool.false_eq_true, if_false]; rfl) (Ev.bind P0 (Ev.bind P1 ?_))
        by_cases hv : p.all validS = true
        · by_cases hx : ∃ i, i ≤ (bl s).length ∧ M p ((bl s).take i) = true
          · obtain ⟨n, e0, n1, n2, n3⟩ := part_num p (bl s) false hv ((part_ok p _ _ hv).mpr hx)
            obtain ⟨m, e1, m1, m2, m3⟩ := part_num p (bl s) true hv ((part_ok p _ _ hv).mpr hx)
            rw [bl_len] at n1 m1
            have hnm := m3 n (by rw [bl_len]; exact n1) n2
            rw [if_pos rfl] at hnm
            have E0 : matchS p (bl (s.extract 0 n)) = true := by unfold matchS; rw [bl_pre, hv, n2]; rfl
            have E1 : matchS p (bl (s.extract 0 m)) = true := by unfold matchS; rw [bl_pre, hv, m2]; rfl
            have A0 := match_ev p (s.extract 0 n) hg (ext_le s _ _ _ (by omega))
            have A1 := match_ev p (s.extract 0 m) hg (ext_le s _ _ _ (by omega))
            rw [E0] at A0
            rw [E1] at A1
            have k1 : ¬ ((n : Int) > (m : Int)) := by omega
            have k2 : ¬ ((n : Int) < 0) := by omega
            have k3 : ¬ ((m : Int) > (s.size : Int)) := by omega
            rw [e0, e1]
            simp only [bne_self_eq_false, Bool.false_eq_true, if_false, if_neg k1, if_neg k2, if_neg k3, if_true, if_pos (nn n), if_pos (nn m), if_pos (le_i n1), if_pos (le_i m1), Int.toNat_natCast]
            refine Ev.bind A0 ?_
            simp only [if_true]
            refine Ev.bind A1 ?_
            exact J1
          · have o0 : (partS p (bl s) false false).2 = false := Bool.eq_false_iff.mpr fun h => hx ((part_ok p _ _ hv).mp h)
            have o1 : (partS p (bl s) true false).2 = false := Bool.eq_false_iff.mpr fun h => hx ((part_ok p _ _ hv).mp h)
            have Z : ∀ lo, (partS p (bl s) lo false).2 = false → partS p (bl s) lo false = (0, false) := by
              intro lo h
              unfold partS at h ⊢
              rw [if_pos hv] at h ⊢
              cases hf : findS (fun i => M p (cutT (bl s) false (cutN (bl s).length lo i))) ((bl s).length + 1) 0 with
              | none => rfl
              | some j =>
                rw [hf] at h
                exact absurd h (by simp [partR])
            rw [Z _ o0, Z _ o1]
            have k3 : ¬ ((0 : Int) > (s.size : Int)) := by omega
            simp only [bne_self_eq_false, Bool.false_eq_true, if_false, if_neg (show ¬ ((0 : Int) > 0) by decide), if_neg (show ¬ ((0 : Int) < 0) by decide), if_neg k3]
            exact J1
        · rw [part_inv p _ _ _ hv, part_inv p _ _ _ hv]
          have k3 : ¬ ((0 : Int) > (s.size : Int)) := by omega
          simp only [bne_self_eq_false, Bool.false_eq_true, if_false, if_neg (show ¬ ((0 : Int) > 0) by decide), if_neg (show ¬ ((0 : Int) < 0) by decide), if_neg k3]
          exact J1
end Go.Proofs.Ytbekhjcnmifnnaa.Pure
