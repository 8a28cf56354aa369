/- Plain lemmas for chapter 32: what the printed functions of sched and of its reference come to. No conditions beyond those written at each. -/
import Derived.Test.YteffbobpffkjlaaQ5
import Derived.Test.YteffbobpffkjlaaQ13
import Derived.Test.YteffbobpffkjlaaQ14
import Derived.Test.YteffbobpffkjlaaQ16
import Derived.Test.YteffbobpffkjlaaQ6
import Derived.Laws.Bits64
import Derived.Laws.Shifts
set_option linter.unusedVariables false
set_option linter.unusedSimpArgs false
namespace Go.Proofs.Yteffbobpffkjlaa.Pure
open Go.RowKit Go.Proofs.Yteffbobpffkjlaa.Q Go.Proofs.YteffbobpffkjlaaW.PrintWords Go.Proofs.YteffbobpffkjlaaW.PrintLast

theorem ev_at1 {α : Type} {g : Nat → Option α} {r : α} (h : ∀ k, g (k + 1) = some r) : Ev g r := ⟨1, fun k hk => by
  obtain ⟨m, rfl⟩ : ∃ m, k = m + 1 := ⟨k - 1, by omega⟩
  exact h m⟩
theorem w64 {x : Int} (h0 : -9223372036854775808 ≤ x) (h1 : x ≤ 9223372036854775807) : wrap64 x = x := by
  unfold wrap64
  omega
theorem u64w {x : Int} (h0 : 0 ≤ x) (h1 : x < 18446744073709551616) : IntKind.u64.wrap x = x := by
  rw [IntKind.wrap_u64]
  omega

/-- What Valid answers. -/
def vS (kind turn : Int) (n : Nat) : Int := if kind < 1 ∨ 3 < kind ∨ turn < 0 then 1 else if 100000 < n then 4 else 0

theorem valid_ev (kind turn seed : Int) (l : List Int) : Ev (fun k => sched_Valid.f k kind turn seed l) (vS kind turn l.length) := by
  refine ev_at1 fun k => ?_
  unfold sched_Valid.f vS
  simp only [sched_Valid.j0]
  repeat' split
  all_goals (first | rfl | (exfalso; simp_all; omega) | (simp_all; omega) | simp_all)

theorem rvalid_ev (kind turn seed : Int) (l : List Int) : Ev (fun k => jobshellref32_Valid.f k kind turn seed l) (vS kind turn l.length) := by
  refine ev_at1 fun k => ?_
  unfold jobshellref32_Valid.f vS
  simp only [jobshellref32_Valid.j0]
  repeat' split
  all_goals (first | rfl | (exfalso; simp_all; omega) | (simp_all; omega) | simp_all)

/-- Element i is at least 1, and above the one before. -/
def good (l : List Int) (i : Nat) : Prop := 1 ≤ rd l i ∧ (0 < i → rd l ((i : Int) - 1) < rd l i)

theorem asc_both (l : List Int) (hn : l.length ≤ 140737488351232) (d : Nat) : ∀ i : Nat, i ≤ l.length → l.length - i = d →
    ∃ b, Ev (fun k => sched_ascending.l0 k l l.length i) b ∧ Ev (fun k => jobshellref32_right.l0 k l i) b ∧ (b = true ↔ 0 < l.length ∧ ∀ j, i ≤ j → j < l.length → good l j) := by
  induction d with
  | zero =>
    intro i hi hd
    refine ⟨decide ((l.length : Int) > 0), ev_at1 fun k => ?_, ev_at1 fun k => ?_, ?_⟩
    · simp only [sched_ascending.l0]
      rw [if_neg (by omega)]
    · simp only [jobshellref32_right.l0]
      rw [if_neg (by omega)]
    · simp only [decide_eq_true_eq]
      constructor
      · exact fun h => ⟨by omega, fun j h1 h2 => by omega⟩
      · exact fun h => by omega
  | succ d ih =>
    intro i hi hd
    have hlt : (i : Int) < (l.length : Int) := by omega
    have h0 : (0 : Int) ≤ i := by omega
    have hw : wrap64 ((i : Int) + 1) = ((i + 1 : Nat) : Int) := by rw [w64 (by omega) (by omega)]; rfl
    by_cases h1 : rd l i < 1
    · refine ⟨false, ev_at1 fun k => ?_, ev_at1 fun k => ?_, ?_⟩
      · simp only [sched_ascending.l0]
        rw [if_pos hlt, if_pos h0, if_pos hlt, if_pos h1]
      · simp only [jobshellref32_right.l0]
        rw [if_pos hlt, if_pos h0, if_pos h1]
      · constructor
        · intro h; cases h
        · intro h
          have := (h.2 i (Nat.le_refl _) (by omega)).1
          omega
    · by_cases hz : i = 0
      · subst hz
        obtain ⟨b, h2, h3, h4⟩ := ih 1 (by omega) (by omega)
        refine ⟨b, Ev.step (fun k => ?_) h2, Ev.step (fun k => ?_) h3, h4.trans ?_⟩
        · simp only [sched_ascending.l0]
          rw [if_pos hlt, if_pos h0, if_pos hlt, if_neg h1, if_neg (by omega), hw]
        · simp only [jobshellref32_right.l0]
          rw [if_pos hlt, if_pos h0, if_neg h1, if_neg (by omega), hw]
        · constructor
          · intro h
            refine ⟨h.1, fun j hj hl => ?_⟩
            rcases Nat.eq_zero_or_pos j with rfl | hp
            · exact ⟨by omega, fun h => by omega⟩
            · exact h.2 j (by omega) hl
          · exact fun h => ⟨h.1, fun j hj hl => h.2 j (by omega) hl⟩
      · have hp : (i : Int) > 0 := by omega
        have hm : wrap64 ((i : Int) - 1) = (i : Int) - 1 := w64 (by omega) (by omega)
        by_cases hc : rd l i ≤ rd l ((i : Int) - 1)
        · refine ⟨false, ev_at1 fun k => ?_, ev_at1 fun k => ?_, ?_⟩
          · simp only [sched_ascending.l0]
            rw [if_pos hlt, if_pos h0, if_pos hlt, if_neg h1, if_pos hp, hm, if_pos (by omega), if_pos (by omega), if_pos hc]
          · simp only [jobshellref32_right.l0]
            rw [if_pos hlt, if_pos h0, if_neg h1, if_pos hp, hm, if_pos (by omega), if_pos (by omega), if_pos hc]
          · constructor
            · intro h; cases h
            · intro h
              have := (h.2 i (Nat.le_refl _) (by omega)).2 (by omega)
              omega
        · obtain ⟨b, h2, h3, h4⟩ := ih (i + 1) (by omega) (by omega)
          refine ⟨b, Ev.step (fun k => ?_) h2, Ev.step (fun k => ?_) h3, h4.trans ?_⟩
          · simp only [sched_ascending.l0]
            rw [if_pos hlt, if_pos h0, if_pos hlt, if_neg h1, if_pos hp, hm, if_pos (by omega), if_pos (by omega), if_neg hc, hw]
          · simp only [jobshellref32_right.l0]
            rw [if_pos hlt, if_pos h0, if_neg h1, if_pos hp, hm, if_pos (by omega), if_pos (by omega), if_neg hc, hw]
          · constructor
            · intro h
              refine ⟨h.1, fun j hj hl => ?_⟩
              rcases Nat.eq_or_lt_of_le hj with rfl | hp
              · exact ⟨by omega, fun _ => by omega⟩
              · exact h.2 j (by omega) hl
            · exact fun h => ⟨h.1, fun j hj hl => h.2 j (by omega) hl⟩

/-- Are the processes ascending, from 1 on? -/
noncomputable def ascS (l : List Int) : Bool := by classical exact decide (0 < l.length ∧ ∀ j, j < l.length → good l j)
theorem ascS_iff (l : List Int) : ascS l = true ↔ 0 < l.length ∧ ∀ j, j < l.length → good l j := by
  unfold ascS
  simp
theorem asc_ev (l : List Int) (hn : l.length ≤ 140737488351232) : Ev (fun k => sched_ascending.f k l) (ascS l) ∧ Ev (fun k => jobshellref32_right.f k l) (ascS l) := by
  obtain ⟨b, h1, h2, h3⟩ := asc_both l hn l.length 0 (by omega) (by omega)
  have e : b = ascS l := by
    rw [Bool.eq_iff_iff, h3, ascS_iff]
    exact ⟨fun h => ⟨h.1, fun j hj => h.2 j (by omega) hj⟩, fun h => ⟨h.1, fun j _ hj => h.2 j hj⟩⟩
  subst e
  exact ⟨h1, h2⟩

/-- The fair choice: the first above the turn; else the first. -/
def fairS (turn : Int) (l : List Int) : Int := (l.find? (fun p => decide (turn < p))).getD (rd l 0)

theorem rd_drop (l : List Int) (i : Nat) (h : i < l.length) : l.drop i = rd l i :: l.drop (i + 1) := by
  rw [List.drop_eq_getElem_cons h]
  simp [rd, List.getD_eq_getElem?_getD, List.getElem?_eq_getElem h]

theorem fair_both (turn : Int) (l : List Int) (hn : l.length ≤ 140737488351232) (hp : 0 < l.length) (d : Nat) : ∀ i : Nat, i ≤ l.length → l.length - i = d →
    Ev (fun k => sched_fair.l0 k turn l l l.length i) (((l.drop i).find? (fun p => decide (turn < p))).getD (rd l 0)) ∧ Ev (fun k => jobshellref32_fair.l0 k turn l i) (((l.drop i).find? (fun p => decide (turn < p))).getD (rd l 0)) := by
  induction d with
  | zero =>
    intro i hi hd
    have e : l.drop i = [] := List.drop_eq_nil_of_le (by omega)
    rw [e]
    refine ⟨ev_at1 fun k => ?_, ev_at1 fun k => ?_⟩
    · simp only [sched_fair.l0]
      rw [if_neg (by omega), if_pos (by omega)]
      rfl
    · simp only [jobshellref32_fair.l0]
      rw [if_neg (by omega), if_pos (by omega)]
      rfl
  | succ d ih =>
    intro i hi hd
    have hlt : (i : Int) < (l.length : Int) := by omega
    have h0 : (0 : Int) ≤ i := by omega
    have hw : wrap64 ((i : Int) + 1) = ((i + 1 : Nat) : Int) := by rw [w64 (by omega) (by omega)]; rfl
    rw [rd_drop l i (by omega)]
    by_cases h1 : rd l i > turn
    · rw [List.find?_cons_of_pos (by simpa using h1)]
      refine ⟨ev_at1 fun k => ?_, ev_at1 fun k => ?_⟩
      · simp only [sched_fair.l0]
        rw [if_pos hlt, if_pos h0, if_pos hlt, if_pos h1]
        rfl
      · simp only [jobshellref32_fair.l0]
        rw [if_pos hlt, if_pos h0, if_pos h1]
        rfl
    · rw [List.find?_cons_of_neg (by simpa using h1)]
      obtain ⟨h2, h3⟩ := ih (i + 1) (by omega) (by omega)
      refine ⟨Ev.step (fun k => ?_) h2, Ev.step (fun k => ?_) h3⟩
      · simp only [sched_fair.l0]
        rw [if_pos hlt, if_pos h0, if_pos hlt, if_neg h1, hw]
      · simp only [jobshellref32_fair.l0]
        rw [if_pos hlt, if_pos h0, if_neg h1, hw]
theorem fair_ev (turn : Int) (l : List Int) (hn : l.length ≤ 140737488351232) (hp : 0 < l.length) : Ev (fun k => sched_fair.f k turn l) (fairS turn l) ∧ Ev (fun k => jobshellref32_fair.f k turn l) (fairS turn l) := by
  have h := fair_both turn l hn hp l.length 0 (by omega) (by omega)
  unfold sched_fair.f jobshellref32_fair.f
  simpa [fairS] using h

/-- A schedule is the same as itself. -/
theorem same_ev (a b c : Int) (l : List Int) (hn : l.length ≤ 140737488351232) : Ev (fun k => jobshellref32_Same.f k a b c l a b c l) true := by
  have key : ∀ d i : Nat, i ≤ l.length → l.length - i = d → Ev (fun k => jobshellref32_Same.l0 k i a b c l a b c l) true := by
    intro d
    induction d with
    | zero =>
      intro i hi hd
      refine ev_at1 fun k => ?_
      simp only [jobshellref32_Same.l0]
      rw [if_neg (by omega)]
    | succ d ih =>
      intro i hi hd
      have hw : wrap64 ((i : Int) + 1) = ((i + 1 : Nat) : Int) := by rw [w64 (by omega) (by omega)]; rfl
      refine Ev.step (fun k => ?_) (ih (i + 1) (by omega) (by omega))
      simp only [jobshellref32_Same.l0]
      rw [if_pos (by omega), if_pos (by omega), if_pos (by omega), if_true, hw]
  unfold jobshellref32_Same.f
  simp only [if_true]
  refine Ev.step (fun k => ?_) (key l.length 0 (by omega) (by omega))
  simp [jobshellref32_Same.j0]

/-- The number that a seed gives. -/
def mixS (z : Int) : Int := (sched_mix.f z).getD 0
theorem mix_eq (z : Int) : sched_mix.f z = some (mixS z) := rfl
theorem rmix_eq (z : Int) : jobshellref32_Mix.f z = some (mixS z) := rfl
theorem bits_u64 (op : BinOp) (a b : Int) : 0 ≤ Go.bits op .u64 a b := by
  unfold Go.bits
  exact wrap_u64_nonneg _
theorem mix_nonneg (z : Int) : 0 ≤ mixS z := by
  unfold mixS sched_mix.f
  simp only [Option.getD_some]
  exact bits_u64 _ _ _

/-- What Pick answers: the process, the schedule's four fields, the error. -/
noncomputable def pickS (kind turn seed : Int) (l ready : List Int) : Int × Int × Int × Int × List Int × Int :=
  if vS kind turn l.length ≠ 0 then (0, 0, 0, 0, [], vS kind turn l.length) else if ascS ready = false then (0, 0, 0, 0, [], 1)
  else if kind = 3 then (rd ready (mixS (IntKind.u64.wrap (seed + 11400714819323198485)) % ready.length), kind, rd ready (mixS (IntKind.u64.wrap (seed + 11400714819323198485)) % ready.length), IntKind.u64.wrap (seed + 11400714819323198485), l, 0)
  else if kind = 2 ∧ 0 < l.length then ((if 0 ≤ rd l 0 then rd ready (rd l 0 % ready.length) else fairS turn ready), kind, (if 0 ≤ rd l 0 then rd ready (rd l 0 % ready.length) else fairS turn ready), seed, l.drop 1, 0)
  else (fairS turn ready, kind, fairS turn ready, seed, l, 0)

theorem wf_i64 {x : Int} (h : (Lit.int .i64 x).wf = true) : -9223372036854775808 ≤ x ∧ x ≤ 9223372036854775807 := by
  have h2 : IntKind.i64.min = -9223372036854775808 := rfl
  have h3 : IntKind.i64.max = 9223372036854775807 := rfl
  simp only [Lit.wf, Bool.and_eq_true, decide_eq_true_eq, h2, h3] at h
  exact h
theorem rd_wf {l : List Int} (h : ∀ y ∈ l, (Lit.int .i64 y).wf = true) (i : Int) (hi : i.toNat < l.length) : -9223372036854775808 ≤ rd l i ∧ rd l i ≤ 9223372036854775807 := by
  refine wf_i64 (h _ ?_)
  unfold rd
  rw [List.getD_eq_getElem?_getD, List.getElem?_eq_getElem hi]
  exact List.getElem_mem hi

theorem pick_ev (kind turn seed : Int) (l ready : List Int) (hl : l.length * 8 ≤ 140737488351232) (hw : ∀ y ∈ l, (Lit.int .i64 y).wf = true) (hr : ready.length * 8 ≤ 140737488351232) :
    Ev (fun k => sched_Pick.f k kind turn seed l ready) (pickS kind turn seed l ready) := by
  unfold sched_Pick.f
  refine Ev.bind (valid_ev kind turn seed l) ?_
  by_cases hv : vS kind turn l.length = 0
  · simp only [hv, if_true]
    refine Ev.bind (asc_ev ready (by omega)).1 ?_
    cases ha : ascS ready
    · refine ⟨0, fun k _ => ?_⟩
      simp [pickS, hv, ha]
    · simp only [if_true]
      have hp := ((ascS_iff ready).1 ha).1
      have hn : IntKind.u64.wrap (ready.length : Int) = ready.length := u64w (by omega) (by omega)
      refine Ev.bind (fair_ev turn ready (by omega) hp).1 ?_
      by_cases h3 : kind = 3
      · subst h3
        simp only [if_true, mix_eq, Option.bind_some, hn]
        have h0 := mix_nonneg (IntKind.u64.wrap (seed + 11400714819323198485))
        rw [Int.tmod_eq_emod_of_nonneg h0]
        have h1 := Int.emod_nonneg (mixS (IntKind.u64.wrap (seed + 11400714819323198485))) (show (ready.length : Int) ≠ 0 by omega)
        have h2 := Int.emod_lt_of_pos (mixS (IntKind.u64.wrap (seed + 11400714819323198485))) (show (0 : Int) < ready.length by omega)
        refine ⟨0, fun k _ => ?_⟩
        rw [if_neg (by omega), if_pos h1, if_pos h2]
        simp [pickS, hv, ha]
      · simp only [h3, if_false]
        by_cases h2 : kind = 2
        · subst h2
          simp only [if_true]
          by_cases hz : 0 < l.length
          · have hz' : (l.length : Int) > 0 := by omega
            refine ev_at1 fun k => ?_
            simp only [sched_Pick.j0, hz', decide_true, if_true]
            have hd : (l.drop 1).length < 17592186044416 := by simp; omega
            by_cases hc : rd l 0 ≥ 0
            · have hb := rd_wf hw 0 (by simpa using hz)
              have he : IntKind.u64.wrap (rd l 0) = rd l 0 := u64w (by omega) (by omega)
              rw [if_pos hc, he, hn, if_neg (by omega)]
              rw [Int.tmod_eq_emod_of_nonneg (by omega)]
              have h1 := Int.emod_nonneg (rd l 0) (show (ready.length : Int) ≠ 0 by omega)
              have h2 := Int.emod_lt_of_pos (rd l 0) (show (0 : Int) < ready.length by omega)
              rw [if_pos h1, if_pos h2]
              simp only [Option.bind_some]
              rw [if_pos (by omega), if_pos (by simpa using hd)]
              have hc' : 0 ≤ rd l 0 := hc
              simp [pickS, hv, ha, hz, hc']
            · rw [if_neg hc]
              simp only [Option.bind_some]
              rw [if_pos (by omega), if_pos (by simpa using hd)]
              have hc' : ¬ 0 ≤ rd l 0 := hc
              simp [pickS, hv, ha, hz, hc']
          · have hz' : ¬ (l.length : Int) > 0 := by omega
            refine ev_at1 fun k => ?_
            simp [sched_Pick.j0, hz', pickS, hv, ha, hz]
        · simp only [h2, if_false]
          refine ev_at1 fun k => ?_
          simp [sched_Pick.j0, pickS, hv, ha, h2, h3]
  · simp only [hv, if_false]
    refine ⟨0, fun k _ => ?_⟩
    simp [pickS, hv]

theorem rpick_ev (kind turn seed : Int) (l ready : List Int) (hl : l.length * 8 ≤ 140737488351232) (hw : ∀ y ∈ l, (Lit.int .i64 y).wf = true) (hr : ready.length * 8 ≤ 140737488351232) :
    Ev (fun k => jobshellref32_Pick.f k kind turn seed l ready) (pickS kind turn seed l ready) := by
  unfold jobshellref32_Pick.f
  refine Ev.bind (rvalid_ev kind turn seed l) ?_
  by_cases hv : vS kind turn l.length = 0
  · simp only [hv, if_true]
    refine Ev.bind (asc_ev ready (by omega)).2 ?_
    cases ha : ascS ready
    · refine ⟨0, fun k _ => ?_⟩
      simp [pickS, hv, ha]
    · simp only [if_true]
      have hp := ((ascS_iff ready).1 ha).1
      have hn : IntKind.u64.wrap (ready.length : Int) = ready.length := u64w (by omega) (by omega)
      refine Ev.bind (fair_ev turn ready (by omega) hp).2 ?_
      by_cases h2 : kind = 2
      · subst h2
        simp only [if_true]
        by_cases hz : 0 < l.length
        · have hz' : (l.length : Int) > 0 := by omega
          refine ev_at1 fun k => ?_
          simp only [jobshellref32_Pick.j0, hz', decide_true, if_true]
          have hd : (l.drop 1).length < 17592186044416 := by simp; omega
          rw [if_pos (by omega)]
          simp only [Option.bind_some]
          rw [if_pos (by simpa using hd)]
          by_cases hc : rd l 0 ≥ 0
          · rw [if_pos hc, if_neg (by omega)]
            rw [Int.tmod_eq_emod_of_nonneg (by omega)]
            have h1 := Int.emod_nonneg (rd l 0) (show (ready.length : Int) ≠ 0 by omega)
            have h2 := Int.emod_lt_of_pos (rd l 0) (show (0 : Int) < ready.length by omega)
            rw [if_pos h1, if_pos h2]
            have hc' : 0 ≤ rd l 0 := hc
            simp [pickS, hv, ha, hz, hc']
          · rw [if_neg hc]
            have hc' : ¬ 0 ≤ rd l 0 := hc
            simp [pickS, hv, ha, hz, hc']
        · have hz' : ¬ (l.length : Int) > 0 := by omega
          refine ev_at1 fun k => ?_
          simp [jobshellref32_Pick.j0, hz', pickS, hv, ha, hz]
      · simp only [h2, if_false]
        refine ev_at1 fun k => ?_
        by_cases h3 : kind = 3
        · subst h3
          have h0 := mix_nonneg (IntKind.u64.wrap (seed + 11400714819323198485))
          have h1 := Int.emod_nonneg (mixS (IntKind.u64.wrap (seed + 11400714819323198485))) (show (ready.length : Int) ≠ 0 by omega)
          have h4 := Int.emod_lt_of_pos (mixS (IntKind.u64.wrap (seed + 11400714819323198485))) (show (0 : Int) < ready.length by omega)
          have hx : wrap64 (mixS (IntKind.u64.wrap (seed + 11400714819323198485)) % (ready.length : Int)) = mixS (IntKind.u64.wrap (seed + 11400714819323198485)) % (ready.length : Int) := w64 (by omega) (by omega)
          simp only [jobshellref32_Pick.j0, rmix_eq, Option.bind_some, hn, Int.tmod_eq_emod_of_nonneg h0, hx, Bool.false_eq_true, if_false, if_true]
          rw [if_neg (by omega), if_pos h1, if_pos h4]
          simp [pickS, hv, ha]
        · simp [jobshellref32_Pick.j0, pickS, hv, ha, h2, h3]
  · simp only [hv, if_false]
    refine ⟨0, fun k _ => ?_⟩
    simp [pickS, hv]
end Go.Proofs.Yteffbobpffkjlaa.Pure
