/- The pure statement of PatternEnds: Prefix and Suffix and the reference's come to the same. Conditions: none beyond the statement's. -/
import Derived.Test.YtbekhjcnmifnnaaSayPatternEnds
import Derived.Test.YtbekhjcnmifnnaaLem5
import Derived.Test.YtbekhjcnmifnnaaLem6
set_option linter.unusedVariables false
set_option linter.unusedSimpArgs false
namespace Go.Proofs.Ytbekhjcnmifnnaa.Pure
open Go.RowKit Go.Proofs.Ytbekhjcnmifnnaa.Q Go.Proofs.YtbekhjcnmifnnaaW.PrintWords Go.Proofs.YtbekhjcnmifnnaaW.PrintLast

/-- The reference's way: the lengths in ascending order. -/
def prefL (P : Nat → Bool) (lo : Bool) : Nat → Nat → Int × Bool → Int × Bool
  | 0, _, r => r
  | d + 1, j, r => if P j = true ∧ (lo = true ∨ r.2 = false) then prefL P lo d (j + 1) ((j : Int), true) else prefL P lo d (j + 1) r
theorem prefL_none (P : Nat → Bool) (lo : Bool) (d : Nat) : ∀ (j : Nat) (r : Int × Bool), (∀ m, j ≤ m → m < j + d → P m = false) → prefL P lo d j r = r := by
  induction d with
  | zero => exact fun _ _ _ => rfl
  | succ d ih =>
    intro j r h
    unfold prefL
    rw [if_neg (by rw [h j (Nat.le_refl _) (by omega)]; simp)]
    exact ih (j + 1) r fun m h1 h2 => h m (by omega) (by omega)
theorem prefL_done (P : Nat → Bool) (d : Nat) : ∀ (j : Nat) (r : Int × Bool), r.2 = true → prefL P false d j r = r := by
  induction d with
  | zero => exact fun _ _ _ => rfl
  | succ d ih =>
    intro j r h
    unfold prefL
    rw [if_neg (by rw [h]; simp)]
    exact ih (j + 1) r h
theorem prefL_first (P : Nat → Bool) (m : Nat) (hm : P m = true) (d : Nat) : ∀ (j : Nat) (r : Int × Bool), r.2 = false → j ≤ m → m < j + d → (∀ i, j ≤ i → i < m → P i = false) → prefL P false d j r = ((m : Int), true) := by
  induction d with
  | zero => exact fun j _ _ h1 h2 => absurd h2 (by omega)
  | succ d ih =>
    intro j r hr h1 h2 h3
    unfold prefL
    by_cases e : j = m
    · subst e
      rw [if_pos ⟨hm, .inr hr⟩]
      exact prefL_done P d _ _ rfl
    · rw [if_neg (by rw [h3 j (Nat.le_refl _) (by omega)]; simp)]
      exact ih (j + 1) r hr (by omega) (by omega) fun i h4 h5 => h3 i (by omega) h5
theorem prefL_last (P : Nat → Bool) (m : Nat) (hm : P m = true) (d : Nat) : ∀ (j : Nat) (r : Int × Bool), j ≤ m → m < j + d → (∀ i, m < i → i < j + d → P i = false) → prefL P true d j r = ((m : Int), true) := by
  induction d with
  | zero => exact fun j _ h1 h2 => absurd h2 (by omega)
  | succ d ih =>
    intro j r h1 h2 h3
    unfold prefL
    by_cases e : j = m
    · subst e
      rw [if_pos ⟨hm, .inl rfl⟩]
      exact prefL_none P true d _ _ fun i h4 h5 => h3 i (by omega) (by omega)
    · split
      · exact ih (j + 1) _ (by omega) (by omega) fun i h4 h5 => h3 i h4 (by omega)
      · exact ih (j + 1) _ (by omega) (by omega) fun i h4 h5 => h3 i h4 (by omega)
theorem prefL_eq (P : Nat → Bool) (n : Nat) (lo : Bool) : prefL P lo (n + 1) 0 (0, false) = partR n lo (findS (fun i => P (cutN n lo i)) (n + 1) 0) := by
  cases h : findS (fun i => P (cutN n lo i)) (n + 1) 0 with
  | none =>
    have h2 := findS_none h
    refine prefL_none P lo _ _ _ fun m h3 h4 => ?_
    cases lo with
    | true =>
      have := h2 (n - m) (Nat.zero_le _) (by omega)
      have e : cutN n true (n - m) = m := by simp [cutN]; omega
      rwa [e] at this
    | false => exact h2 m (Nat.zero_le _) (by omega)
  | some j =>
    obtain ⟨_, h2, h3, h4⟩ := findS_some h
    show _ = (((cutN n lo j : Nat) : Int), true)
    have h5 : cutN n lo j ≤ n := cutN_le (by omega)
    cases lo with
    | true =>
      refine prefL_last P _ h3 _ _ _ (Nat.zero_le _) (by omega) fun i h6 h7 => ?_
      have e2 : n - i < j := by simp [cutN] at h6; omega
      have := h4 (n - i) (Nat.zero_le _) e2
      have e : cutN n true (n - i) = i := by simp [cutN]; omega
      rwa [e] at this
    | false =>
      refine prefL_first P _ h3 _ _ _ rfl (Nat.zero_le _) (by omega) fun i h6 h7 => ?_
      have e2 : i < j := by simp [cutN] at h7; omega
      exact h4 i (Nat.zero_le _) e2
theorem rprefix_l0 (s : ByteArray) (hn : s.size ≤ 1000000) (P : Nat → Bool) (lo : Bool) (d : Nat) : ∀ (j : Nat) (r : Int × Bool), j + d = s.size + 1 →
    Ev (fun k => jobshellref04_Prefix.l0 k s lo (rowT P s.size (s.size + 1)) r.1 r.2 j) (prefL P lo d j r) := by
  have hs12 : s.size ≤ 1000000000000 := Nat.le_trans hn (by decide)
  induction d with
  | zero =>
    intro j r hj
    have h : ¬ j ≤ s.size := by omega
    refine ev_at1 fun k => ?_
    simp only [jobshellref04_Prefix.l0]
    rw [if_neg (not_le_i h)]
    rfl
  | succ d ih =>
    intro j r hj
    have h : j ≤ s.size := by omega
    have h' : j < s.size + 1 := by omega
    have q : (j : Int) < ((rowT P s.size (s.size + 1)).length : Int) := by rw [rowT_len]; exact lift_lt h'
    have J0 := ih (j + 1) r (by omega)
    have J1 := ih (j + 1) ((j : Int), true) (by omega)
    have hr : rdOf false (rowT P s.size (s.size + 1)) (j : Int) = P j := by rw [rowT_rd _ _ _ _ h, decide_eq_true h', Bool.true_and]
    unfold prefL
    by_cases hp : P j = true
    · by_cases hl : lo = true
      · rw [if_pos ⟨hp, .inl hl⟩]
        refine Ev.step (fun k => ?_) J1
        simp only [jobshellref04_Prefix.l0]
        rw [if_pos (le_i h), if_pos (nn j), if_pos q, hr, if_pos hp, if_pos hl, w64n h hs12]
      · by_cases hr2 : r.2 = true
        · rw [if_neg (by rw [hr2]; simp [hl])]
          refine Ev.step (fun k => ?_) J0
          simp only [jobshellref04_Prefix.l0]
          rw [if_pos (le_i h), if_pos (nn j), if_pos q, hr, if_pos hp, if_neg hl, if_pos hr2, w64n h hs12]
        · rw [if_pos ⟨hp, .inr (Bool.eq_false_iff.mpr hr2)⟩]
          refine Ev.step (fun k => ?_) J1
          simp only [jobshellref04_Prefix.l0]
          rw [if_pos (le_i h), if_pos (nn j), if_pos q, hr, if_pos hp, if_neg hl, if_neg hr2, w64n h hs12]
    · rw [if_neg fun e => hp e.1]
      refine Ev.step (fun k => ?_) J0
      simp only [jobshellref04_Prefix.l0]
      rw [if_pos (le_i h), if_pos (nn j), if_pos q, hr, if_neg hp, w64n h hs12]
theorem rprefix_ev (p : List S35) (s : ByteArray) (hp : Good p) (hn : s.size ≤ 1000000) (lo : Bool) : Ev (fun k => jobshellref04_Prefix.f k p s lo) (partS p (bl s) lo false) := by
  unfold jobshellref04_Prefix.f partS
  refine Ev.bind (rvalid_ev p hp) ?_
  cases hv : p.all validS with
  | true =>
    simp only [if_true]
    refine Ev.bind (ends_ev p s hp hv hn) ?_
    have J := rprefix_l0 s hn (fun j => M p ((bl s).take j)) lo (s.size + 1) 0 (0, false) (by omega)
    rw [prefL_eq] at J
    rw [bl_len]
    refine ev_eq J ?_
    congr 2
  | false =>
    simp only [Bool.false_eq_true, if_false]
    exact ev_const
theorem rsuffix_l0 (p : List S35) (s : ByteArray) (hp : Good p) (hn : s.size ≤ 1000000) (lo : Bool) (d : Nat) : ∀ (j : Nat) (r : Int × Bool), j + d = s.size + 1 →
    Ev (fun k => jobshellref04_Suffix.l0 k p s lo r.1 r.2 j) (prefL (fun j => matchS p ((bl s).drop (s.size - j))) lo d j r) := by
  have hs12 : s.size ≤ 1000000000000 := Nat.le_trans hn (by decide)
  induction d with
  | zero =>
    intro j r hj
    have h : ¬ j ≤ s.size := by omega
    refine ev_at1 fun k => ?_
    simp only [jobshellref04_Suffix.l0]
    rw [if_neg (not_le_i h)]
    rfl
  | succ d ih =>
    intro j r hj
    have h : j ≤ s.size := by omega
    have J0 := ih (j + 1) r (by omega)
    have J1 := ih (j + 1) ((j : Int), true) (by omega)
    have E := rmatch_ev p (s.extract (s.size - j) s.size) hp (ext_le s _ _ _ hn)
    rw [bl_suf s j h] at E
    have B : Ev (fun k => (jobshellref04_Match.f k p (s.extract (s.size - j) s.size)).bind fun t => if t = true then jobshellref04_Suffix.l0 k p s lo j true ((j + 1 : Nat) : Int) else jobshellref04_Suffix.l0 k p s lo r.1 r.2 ((j + 1 : Nat) : Int))
        (if matchS p ((bl s).drop (s.size - j)) = true then prefL (fun j => matchS p ((bl s).drop (s.size - j))) lo d (j + 1) ((j : Int), true) else prefL (fun j => matchS p ((bl s).drop (s.size - j))) lo d (j + 1) r) := by
      refine Ev.bind E ?_
      cases matchS p ((bl s).drop (s.size - j)) with
      | true => simpa using J1
      | false => simpa using J0
    unfold prefL
    by_cases hl : lo = true
    · have e : ((matchS p ((bl s).drop (s.size - j)) = true ∧ (lo = true ∨ r.2 = false)) ↔ matchS p ((bl s).drop (s.size - j)) = true) := ⟨fun h => h.1, fun h => ⟨h, .inl hl⟩⟩
      simp only [e]
      refine Ev.step (fun k => ?_) B
      simp only [jobshellref04_Suffix.l0, wsub h hs12]
      rw [if_pos (le_i h), if_pos hl, if_pos (nn _), if_pos (le_i (Nat.sub_le _ _)), w64n h hs12, Int.toNat_natCast]
    · by_cases hr2 : r.2 = true
      · rw [if_neg (by rw [hr2]; simp [hl])]
        refine Ev.step (fun k => ?_) J0
        simp only [jobshellref04_Suffix.l0]
        rw [if_pos (le_i h), if_neg hl, if_pos hr2, w64n h hs12]
      · have e : ((matchS p ((bl s).drop (s.size - j)) = true ∧ (lo = true ∨ r.2 = false)) ↔ matchS p ((bl s).drop (s.size - j)) = true) := ⟨fun h => h.1, fun h => ⟨h, .inr (Bool.eq_false_iff.mpr hr2)⟩⟩
        simp only [e]
        refine Ev.step (fun k => ?_) B
        simp only [jobshellref04_Suffix.l0, wsub h hs12]
        rw [if_pos (le_i h), if_neg hl, if_neg hr2, if_pos (nn _), if_pos (le_i (Nat.sub_le _ _)), w64n h hs12, Int.toNat_natCast]
theorem rsuffix_ev (p : List S35) (s : ByteArray) (hp : Good p) (hn : s.size ≤ 1000000) (lo : Bool) : Ev (fun k => jobshellref04_Suffix.f k p s lo) (partS p (bl s) lo true) := by
  have J := rsuffix_l0 p s hp hn lo (s.size + 1) 0 (0, false) (by omega)
  rw [prefL_eq] at J
  refine ev_eq J ?_
  unfold partS matchS
  by_cases hv : p.all validS = true
  · rw [if_pos hv, hv, bl_len]
    simp only [Bool.true_and]
    congr 2
    funext i
    unfold cutT
    rw [if_pos rfl, bl_len]
  · rw [if_neg hv, Bool.eq_false_iff.mpr hv]
    simp only [Bool.false_and]
    have : ∀ d i, findS (fun _ => false) d i = none := by
      intro d
      induction d with
      | zero => exact fun _ => rfl
      | succ d ih => intro i; unfold findS; rw [if_neg (by decide)]; exact ih _
    rw [this]
    rfl
theorem PatternEnds : PatternEndsPure := by
  intro p s lo hp hs
  refine Ev.rounds ?_
  unfold jobshelllaw04_PatternEnds.f
  have J0 : Ev (fun k => jobshelllaw04_PatternEnds.j0 k p s lo true) true := Ev.step (fun k => by simp only [jobshelllaw04_PatternEnds.j0, if_true]) awake_some
  obtain ⟨b, hb1, hb2⟩ := few_ev p 12 (by decide)
  refine Ev.bind hb1 ?_
  cases b with
  | false =>
    simp only [Bool.false_eq_true, if_false]
    exact J0
  | true =>
    simp only [if_true]
    obtain ⟨hl, he⟩ := hb2 rfl
    by_cases h1 : (s.size : Int) > 40
    · simp only [decide_eq_true h1]
      exact J0
    · simp only [decide_eq_false h1]
      have hg := good_few p 12 (by decide) hl he hp.1
      have hn : s.size ≤ 1000000 := by omega
      refine Ev.step (fun k => by simp only [jobshelllaw04_PatternEnds.j0, Bool.false_eq_true, if_false]; rfl) (Ev.bind (prefix_ev p s hg hn lo) (Ev.bind (rprefix_ev p s hg hn lo) (Ev.bind (suffix_ev p s hg hn lo) (Ev.bind (rsuffix_ev p s hg hn lo) ?_))))
      simp only [beq_self_eq_true, if_true]
      exact awake_some
end Go.Proofs.Ytbekhjcnmifnnaa.Pure
