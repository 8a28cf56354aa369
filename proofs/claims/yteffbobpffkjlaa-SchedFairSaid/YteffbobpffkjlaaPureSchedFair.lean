/- The pure statement of SchedFair: n consecutive picks of a fair schedule over n ready processes choose each once. Conditions: none beyond the statement's. -/
import Derived.Test.YteffbobpffkjlaaSaySchedFair
import Derived.Test.YteffbobpffkjlaaLem2
set_option linter.unusedVariables false
set_option linter.unusedSimpArgs false
namespace Go.Proofs.Yteffbobpffkjlaa.Pure
open Go.RowKit Go.Proofs.Yteffbobpffkjlaa.Q Go.Proofs.YteffbobpffkjlaaW.PrintWords Go.Proofs.YteffbobpffkjlaaW.PrintLast

theorem find_at {p : Int → Bool} : ∀ (l : List Int) (i : Nat) (h : i < l.length), p l[i] = true → (∀ j (hj : j < i), p (l[j]'(by omega)) = false) → l.find? p = some l[i]
  | [], i, h, _, _ => by simp at h
  | a :: l, 0, h, hp, _ => by simpa using List.find?_cons_of_pos hp
  | a :: l, i + 1, h, hp, hn => by
    have h0 := hn 0 (by omega)
    rw [List.find?_cons_of_neg (by simpa using h0)]
    have := find_at l i (by simpa using h) (by simpa using hp) (fun j hj => by simpa using hn (j + 1) (by omega))
    simpa using this

theorem rd_nat (l : List Int) (i : Nat) (h : i < l.length) : rd l i = l[i] := by
  simp [rd, List.getD_eq_getElem?_getD, List.getElem?_eq_getElem h]

theorem asc_mono (l : List Int) (ha : ascS l = true) : ∀ d i : Nat, i + d + 1 < l.length → rd l i < rd l ((i + d + 1 : Nat) : Int)
  | 0, i, h => by
    have := (((ascS_iff l).1 ha).2 (i + 1) (by omega)).2 (by omega)
    rw [show (((i + 1 : Nat) : Int) - 1) = (i : Int) by omega] at this
    exact this
  | d + 1, i, h => by
    have h1 := asc_mono l ha d i (by omega)
    have h2 := (((ascS_iff l).1 ha).2 (i + (d + 1) + 1) (by omega)).2 (by omega)
    rw [show (((i + (d + 1) + 1 : Nat) : Int) - 1) = ((i + d + 1 : Nat) : Int) by omega] at h2
    exact Int.lt_trans h1 h2
theorem asc_lt (l : List Int) (ha : ascS l = true) (i j : Nat) (hij : i < j) (hj : j < l.length) : rd l i < rd l j := by
  have := asc_mono l ha (j - i - 1) i (by omega)
  rwa [show i + (j - i - 1) + 1 = j by omega] at this
theorem asc_inj (l : List Int) (ha : ascS l = true) (i j : Nat) (hi : i < l.length) (hj : j < l.length) (h : rd l i = rd l j) : i = j := by
  rcases Nat.lt_trichotomy i j with h1 | h1 | h1
  · have := asc_lt l ha i j h1 hj
    omega
  · exact h1
  · have := asc_lt l ha j i h1 hi
    omega

/-- The choice behind process number m: the next; behind the last: the first. -/
theorem fair_next (l : List Int) (ha : ascS l = true) (m : Nat) (hm : m < l.length) : fairS (rd l m) l = rd l ((if m + 1 < l.length then m + 1 else 0 : Nat) : Int) := by
  unfold fairS
  split
  · rename_i h
    rw [find_at l (m + 1) h]
    · rw [Option.getD_some, rd_nat l (m + 1) h]
    · rw [← rd_nat l (m + 1) h]
      have := asc_lt l ha m (m + 1) (by omega) h
      simpa using this
    · intro j hj
      rw [← rd_nat l j (by omega)]
      have : rd l j ≤ rd l m := by
        rcases Nat.eq_or_lt_of_le (show j ≤ m by omega) with rfl | h2
        · exact Int.le_refl _
        · exact Int.le_of_lt (asc_lt l ha j m h2 hm)
      simpa using this
  · rename_i h
    have : l.find? (fun p => decide (rd l m < p)) = none := by
      rw [List.find?_eq_none]
      intro x hx
      obtain ⟨j, hj, rfl⟩ := List.mem_iff_getElem.1 hx
      rw [← rd_nat l j hj]
      have : rd l j ≤ rd l m := by
        rcases Nat.eq_or_lt_of_le (show j ≤ m by omega) with rfl | h2
        · exact Int.le_refl _
        · exact Int.le_of_lt (asc_lt l ha j m h2 hm)
      simpa using this
    rw [this]
    rfl
theorem fair_some (turn : Int) (l : List Int) (h : 0 < l.length) : ∃ s, s < l.length ∧ fairS turn l = rd l (s : Int) := by
  obtain ⟨s, hs, he⟩ := List.mem_iff_getElem.1 (fair_mem turn l h)
  exact ⟨s, hs, by rw [rd_nat l s hs, he]⟩

/-- The number of the process that is chosen at pick j, the first being s. -/
def at_ (n s j : Nat) : Nat := if s + j < n then s + j else s + j - n
theorem at_lt (n s j : Nat) (hs : s < n) (hj : j < n) : at_ n s j < n := by
  unfold at_
  split <;> omega
theorem at_inj (n s i j : Nat) (hs : s < n) (hi : i < n) (hj : j < n) (h : at_ n s i = at_ n s j) : i = j := by
  unfold at_ at h
  split at h <;> split at h <;> omega
theorem at_succ (n s j : Nat) (hs : s < n) (hj : j + 1 < n) : (if at_ n s j + 1 < n then at_ n s j + 1 else 0) = at_ n s (j + 1) := by
  unfold at_
  split <;> split <;> split <;> omega
theorem at_zero (n s : Nat) (hs : s < n) : at_ n s 0 = s := by
  unfold at_
  rw [if_pos (by omega)]
  rfl

def metS (l : List Int) (s i : Nat) : List Int := (List.range i).map fun j => rd l (at_ l.length s j : Nat)

theorem pick_fair (turn : Int) (l : List Int) (ht : 0 ≤ turn) (ha : ascS l = true) : pickS 1 turn 0 [] l = (fairS turn l, 1, fairS turn l, 0, [], 0) := by
  unfold pickS
  have hv : vS 1 turn ([] : List Int).length = 0 := by
    rw [vS_zero]
    simp
    exact ht
  rw [if_neg (fun h => h hv), if_neg (by simp [ha])]
  simp
theorem pick_none (turn : Int) (l : List Int) (ht : 0 ≤ turn) (ha : ascS l = false) : pickS 1 turn 0 [] l = (0, 0, 0, 0, [], 1) := by
  unfold pickS
  have hv : vS 1 turn ([] : List Int).length = 0 := by
    rw [vS_zero]
    simp
    exact ht
  rw [if_neg (fun h => h hv), if_pos ha]

theorem fair_l1 (l met : List Int) (hn : l.length ≤ 100) (hmn : met.length ≤ 100) (hm : ∀ x ∈ l, x ∈ met) : ∀ d i : Nat, l.length - i = d → i ≤ l.length → Ev (fun k => jobshelllaw32_SchedFair.l1 k l met i) true := by
  intro d
  induction d with
  | zero =>
    intro i hd hi
    refine ev_succ ?_
    simp only [jobshelllaw32_SchedFair.l1]
    have h : ¬ (i : Int) < (l.length : Int) := by omega
    simp only [h, if_false]
    exact awake_true
  | succ d ih =>
    intro i hd hi
    refine ev_succ ?_
    have h : (i : Int) < (l.length : Int) := by omega
    have h0 : 0 ≤ (i : Int) := by omega
    have hw : wrap64 ((i : Int) + 1) = ((i + 1 : Nat) : Int) := by rw [w64 (by omega) (by omega)]; rfl
    simp only [jobshelllaw32_SchedFair.l1, h, h0, if_true, hw]
    refine Ev.bind (has_ev met _ (by omega)) ?_
    have hx := hm _ (rd_mem l i h0 h)
    simp only [hx, decide_true, if_true]
    exact ih (i + 1) (by omega) (by omega)

theorem met_len (l : List Int) (s i : Nat) : (metS l s i).length = i := by simp [metS]
theorem met_not (l : List Int) (ha : ascS l = true) (s i : Nat) (hs : s < l.length) (hi : i < l.length) : rd l (at_ l.length s i : Nat) ∉ metS l s i := by
  intro h
  obtain ⟨j, hj, he⟩ := List.mem_map.1 h
  have hj' : j < i := List.mem_range.1 hj
  have := at_inj l.length s j i hs (by omega) hi (asc_inj l ha _ _ (at_lt _ _ _ hs (by omega)) (at_lt _ _ _ hs hi) he)
  omega
theorem met_snoc (l : List Int) (s i : Nat) : metS l s i ++ [rd l (at_ l.length s i : Nat)] = metS l s (i + 1) := by
  simp [metS, List.range_succ]
theorem met_all (l : List Int) (s : Nat) (hs : s < l.length) : ∀ x ∈ l, x ∈ metS l s l.length := by
  intro x hx
  obtain ⟨q, hq, rfl⟩ := List.mem_iff_getElem.1 hx
  rw [← rd_nat l q hq]
  refine List.mem_map.2 ⟨if s ≤ q then q - s else q + l.length - s, List.mem_range.2 (by split <;> omega), ?_⟩
  have : at_ l.length s (if s ≤ q then q - s else q + l.length - s) = q := by
    unfold at_
    split <;> split <;> omega
  rw [this]

theorem fair_loop (l : List Int) (ha : ascS l = true) (hn : l.length ≤ 100) (s : Nat) (hs : s < l.length) : ∀ d i : Nat, l.length - i = d → i ≤ l.length → 1 ≤ i →
    Ev (fun k => jobshelllaw32_SchedFair.l0 k l (metS l s i) i 1 (rd l (at_ l.length s (i - 1) : Nat)) 0 []) true := by
  intro d
  induction d with
  | zero =>
    intro i hd hi h1
    have hi' : i = l.length := by omega
    subst hi'
    refine ev_succ ?_
    simp only [jobshelllaw32_SchedFair.l0]
    have h : ¬ (l.length : Int) < (l.length : Int) := by omega
    simp only [h, if_false]
    exact fair_l1 l _ hn (by rw [met_len]; exact hn) (met_all l s hs) l.length 0 rfl (by omega)
  | succ d ih =>
    intro i hd hi h1
    refine ev_succ ?_
    have h : (i : Int) < (l.length : Int) := by omega
    have hw : wrap64 ((i : Int) + 1) = ((i + 1 : Nat) : Int) := by rw [w64 (by omega) (by omega)]; rfl
    simp only [jobshelllaw32_SchedFair.l0, h, if_true, hw]
    have hlt := at_lt l.length s (i - 1) hs (by omega)
    have hge := mem_ge l ha _ (rd_mem l ((at_ l.length s (i - 1) : Nat) : Int) (by omega) (by omega))
    have hp := pick_ev 1 (rd l (at_ l.length s (i - 1) : Nat)) 0 [] l (by simp) (by simp) (by omega)
    rw [pick_fair _ l (by omega) ha, fair_next l ha _ hlt, at_succ l.length s (i - 1) hs (by omega), show i - 1 + 1 = i by omega] at hp
    refine Ev.bind hp ?_
    simp only [if_true]
    refine Ev.bind (has_ev (metS l s i) _ (by rw [met_len]; omega)) ?_
    have hnot := met_not l ha s i hs (by omega)
    have hlim : (metS l s i).length < 17592186044416 := by rw [met_len]; omega
    simp only [hnot, decide_false, Bool.false_eq_true, if_false, hlim, if_true, met_snoc]
    exact ih (i + 1) (by omega) (by omega) (by omega)

theorem SchedFair : SchedFairPure := by
  intro turn l ht ⟨hw, _, hl2⟩
  have ht' := wf_i64 ht
  have hjt : Ev (fun k => jobshelllaw32_SchedFair.j0 k l true 1 turn 0) true := by
    refine ev_succ ?_
    simp only [jobshelllaw32_SchedFair.j0, if_true]
    exact awake_true
  refine Ev.rounds ?_
  unfold jobshelllaw32_SchedFair.f
  by_cases h1 : (l.length : Int) > 100
  · simp only [h1, if_true]
    exact hjt
  · by_cases h2 : turn < 0
    · simp only [h1, h2, if_false, decide_true]
      exact hjt
    · simp only [h1, h2, if_false, decide_false]
      refine ev_succ ?_
      simp only [jobshelllaw32_SchedFair.j0, Bool.false_eq_true, if_false]
      refine ev_succ ?_
      by_cases h3 : 0 < l.length
      · have h : (0 : Int) < (l.length : Int) := by omega
        have hp := pick_ev 1 turn 0 [] l (by simp) (by simp) (by omega)
        simp only [jobshelllaw32_SchedFair.l0, h, if_true]
        cases ha : ascS l with
        | true =>
          obtain ⟨s, hs, he⟩ := fair_some turn l h3
          rw [pick_fair turn l (by omega) ha, he] at hp
          refine Ev.bind hp ?_
          simp only [if_true]
          refine Ev.bind (has_ev [] _ (by simp)) ?_
          simp only [List.not_mem_nil, decide_false, Bool.false_eq_true, if_false]
          have hloop := fair_loop l ha (by omega) s hs (l.length - 1) 1 (by omega) (by omega) (by omega)
          have hm : metS l s 1 = [] ++ [rd l (s : Int)] := by
            simp [metS, List.range_succ, at_zero l.length s hs]
          rw [hm, show (1 - 1 : Nat) = 0 from rfl, at_zero l.length s hs] at hloop
          have hw0 : wrap64 (0 + 1) = ((1 : Nat) : Int) := by rw [w64 (by omega) (by omega)]; rfl
          have hlim : ([] : List Int).length < 17592186044416 := by simp
          simp only [hlim, if_true, hw0]
          exact hloop
        | false =>
          rw [pick_none turn l (by omega) ha] at hp
          refine Ev.bind hp ?_
          simp only [show ¬ ((1 : Int) = 0) by decide, if_false]
          exact awake_true
      · have h : ¬ (0 : Int) < (l.length : Int) := by omega
        simp only [jobshelllaw32_SchedFair.l0, h, if_false]
        exact fair_l1 l [] (by omega) (by simp) (fun x hx => by
          have : l = [] := List.eq_nil_of_length_eq_zero (by omega)
          rw [this] at hx
          exact hx) l.length 0 rfl (by omega)
end Go.Proofs.Yteffbobpffkjlaa.Pure
