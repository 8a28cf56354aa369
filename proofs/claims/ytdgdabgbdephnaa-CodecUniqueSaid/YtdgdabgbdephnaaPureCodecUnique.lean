/- The law CodecUnique in plain Lean: what is read is the encoding of what it is read as. No conditions. -/
import Derived.Test.YtdgdabgbdephnaaSayCodecUnique
import Derived.Test.YtdgdabgbdephnaaLemA
import Derived.Test.YtdgdabgbdephnaaLem7
namespace Go.Proofs.Ytdgdabgbdephnaa.Pure
open Go.RowKit Go.Proofs.Ytdgdabgbdephnaa.Q Go.Proofs.YtdgdabgbdephnaaW.PrintWords Go.Proofs.YtdgdabgbdephnaaW.PrintLast

theorem TI_facts {l : List Nat} (hb : ∀ b ∈ l, b < 256) : 0 ≤ (TI l).2.1 ∧ (TI l).2.1 ≤ l.length ∧ ((TI l).2.2 = 0 → okI (TI l).1 ∧ ints (E (zig (TI l).1)) = (ints l).take (TI l).2.1.toNat) := by
  cases hd : D l 0 0 with
  | error e =>
    rw [TI_err hd]
    have := D_err l 0 0 e hd
    exact ⟨Int.le_refl _, by simp only; omega, fun h => by simp only at h; omega⟩
  | ok x =>
    rw [TI_ok hd]
    obtain ⟨z1, e1, e2, e3⟩ := D_unique0 hb hd
    refine ⟨by simp only; omega, by simp only; omega, fun _ => ⟨unz_ok z1, ?_⟩⟩
    simp only
    rw [zig_unz, Int.toNat_natCast, ints_take, e3]
theorem TT_facts {l : List Nat} (hb : ∀ b ∈ l, b < 256) : 0 ≤ (TT l).2.1 ∧ (TT l).2.1 ≤ l.length ∧ ((TT l).2.2 = 0 → (TT l).1.size ≤ l.length ∧ ints (ET (nums (TT l).1)) = (ints l).take (TT l).2.1.toNat) := by
  unfold TT
  cases hd : TX l with
  | error e =>
    have := TX_err hd
    exact ⟨Int.le_refl _, by simp only; omega, fun h => by simp only at h; omega⟩
  | ok x =>
    obtain ⟨e1, e2, e3⟩ := TX_unique hb hd
    have ht : ∀ b ∈ x.1, b < 256 := fun b h => bytes_take hb x.2 b (by rw [e3]; exact List.mem_append_right _ h)
    have hn : nums (str x.1) = x.1 := nums_str ht
    refine ⟨by simp only; omega, by simp only; omega, fun _ => ⟨?_, ?_⟩⟩
    · simp only
      rw [← nums_len, hn]
      have h1 := congrArg List.length e3
      unfold ET at h1
      rw [List.length_take, List.length_append] at h1
      omega
    · simp only
      rw [hn, Int.toNat_natCast, ints_take, e3]
theorem map_nums_str : ∀ (ts : List (List Nat)), (∀ t ∈ ts, ∀ b ∈ t, b < 256) → (ts.map str).map nums = ts
  | [], _ => rfl
  | t :: ts, h => by
    rw [List.map_cons, List.map_cons, nums_str (h t List.mem_cons_self), map_nums_str ts (fun x hx => h x (List.mem_cons_of_mem _ hx))]
theorem ETL_mem {ts : List (List Nat)} {t : List Nat} (h : t ∈ ts) : t.length ≤ (ETL ts).length ∧ ∀ b ∈ t, b ∈ ETL ts := by
  obtain ⟨a, b, rfl⟩ := List.append_of_mem h
  have e : ETL (a ++ t :: b) = ETL a ++ (E (2 * t.length) ++ t ++ ETL b) := by
    unfold ETL
    rw [List.flatMap_append, List.flatMap_cons]
    rfl
  rw [e]
  constructor
  · simp only [List.length_append]
    omega
  · intro x hx
    exact List.mem_append_right _ (List.mem_append_left _ (List.mem_append_right _ hx))
theorem TTs_facts {l : List Nat} (hb : ∀ b ∈ l, b < 256) : 0 ≤ (TTs l).2.1 ∧ (TTs l).2.1 ≤ l.length ∧ ((TTs l).2.2 = 0 → (TTs l).1.length ≤ l.length ∧ (∀ s ∈ (TTs l).1, s.size ≤ l.length) ∧ (ETL ((TTs l).1.map nums)).length ≤ l.length ∧ ints (ETS ((TTs l).1.map nums)) = (ints l).take (TTs l).2.1.toNat) := by
  unfold TTs
  cases hd : TTS l with
  | error e =>
    have h6 : e = 6 ∨ e = 28 := by
      unfold TTS LN at hd
      cases h1 : D l 0 0 with
      | error e' =>
        rw [h1] at hd
        have := D_err l 0 0 e' h1
        injection hd with hd
        omega
      | ok x =>
        rw [h1] at hd
        simp only at hd
        by_cases c : x.1 % 2 = 1
        · rw [if_pos c] at hd
          injection hd with hd
          omega
        · rw [if_neg c] at hd
          simp only at hd
          split at hd
          · injection hd with hd
            omega
          · have hT : ∀ (n : Nat) (m : List Nat) (e : Int), TXS n m = .error e → e = 6 ∨ e = 28 := by
              intro n
              induction n with
              | zero => intro m e h; simp [TXS] at h
              | succ n ih =>
                intro m e h
                rw [TXS] at h
                cases h2 : TX m with
                | error e2 =>
                  rw [h2] at h
                  have := TX_err h2
                  injection h with h
                  omega
                | ok y =>
                  rw [h2] at h
                  simp only at h
                  cases h3 : TXS n (m.drop y.2) with
                  | error e3 =>
                    rw [h3] at h
                    have := ih _ _ h3
                    injection h with h
                    omega
                  | ok z =>
                    rw [h3] at h
                    cases h
            cases h4 : TXS (x.1 / 2) (l.drop x.2) with
            | error e4 =>
              rw [h4] at hd
              have := hT _ _ _ h4
              injection hd with hd
              omega
            | ok y =>
              rw [h4] at hd
              cases hd
    exact ⟨Int.le_refl _, by simp only; omega, fun h => by simp only at h; omega⟩
  | ok x =>
    obtain ⟨e1, e2, e3⟩ := TTS_unique hb hd
    have hEl : (ETL x.1).length ≤ l.length := by
      have h1 := congrArg List.length e3
      unfold ETS at h1
      rw [List.length_take, List.length_append] at h1
      omega
    have ht : ∀ t ∈ x.1, ∀ b ∈ t, b < 256 := fun t h b hbt => bytes_take hb x.2 b (by rw [e3]; exact List.mem_append_right _ ((ETL_mem h).2 b hbt))
    have hn := map_nums_str x.1 ht
    refine ⟨by simp only; omega, by simp only; omega, fun _ => ⟨?_, ?_, ?_, ?_⟩⟩
    · simp only [List.length_map]
      exact e2
    · intro s hs
      obtain ⟨t, h1, rfl⟩ := List.mem_map.1 hs
      have h2 := (ETL_mem h1).1
      rw [← nums_len, nums_str (ht t h1)]
      omega
    · simp only
      rw [hn]
      exact hEl
    · simp only
      rw [hn, Int.toNat_natCast, ints_take, e3]

theorem CodecUnique : CodecUniquePure := by
  intro l0 hl
  obtain ⟨l, rfl, hb⟩ := ints_of hl.1
  refine Ev.rounds ?_
  unfold jobshelllaw03_CodecUnique.f
  rw [ints_len]
  by_cases c : (l.length : Int) > 200
  · exact ev_if c awake_some
  refine ev_else c ?_
  obtain ⟨i0, i1, hI⟩ := TI_facts hb
  obtain ⟨j0, j1, hT⟩ := TT_facts hb
  obtain ⟨q0, q1, hS⟩ := TTs_facts hb
  refine ev_given (cTake_eq hb (by omega)) (ev_given (cText_eq hb (by omega)) (ev_given (cTexts_eq hb (by omega)) ?_))
  generalize TI l = A at i0 i1 hI
  generalize TT l = B at j0 j1 hT
  generalize TTs l = C at q0 q1 hS
  refine ev_else (by omega) (ev_else (by omega) (ev_else (by omega) (ev_else (by omega) (ev_else (by omega) ?_))))
  rw [decide_eq_false (by omega)]
  have part3 : Ev (fun k => if C.2.2 = 0 then ((codec_PutTexts.f k C.1).bind fun t178 => (if 0 ≤ C.2.1 then (if C.2.1 ≤ ((ints l).length : Int) then ((jobshellref03_SameBytes.f t178 ((ints l).take (C.2.1 : Int).toNat)).bind fun t182 => (if t182 = true then ((jobshelllaw03_awake.f k).bind fun t183 => (some t183)) else none)) else none) else none)) else ((jobshelllaw03_awake.f k).bind fun t184 => (some t184))) true := by
    by_cases ce : C.2.2 = 0
    · obtain ⟨h1, h2, h3, h4⟩ := hS ce
      refine ev_if ce (Ev.bind (cPutTexts_ev (fun s h => by have := h2 s h; omega) (by omega) (by omega)) (ev_if q0 (ev_if (by rw [ints_len]; exact q1) ?_)))
      rw [h4]
      exact ev_given (same_self _) (ev_if rfl awake_some)
    · exact ev_else ce awake_some
  have part2 : Ev (fun k => if B.2.2 = 0 then ((codec_PutText.f k B.1).bind fun t173 => (if 0 ≤ B.2.1 then (if B.2.1 ≤ ((ints l).length : Int) then ((jobshellref03_SameBytes.f t173 ((ints l).take (B.2.1 : Int).toNat)).bind fun t177 => (if t177 = true then (if C.2.2 = 0 then ((codec_PutTexts.f k C.1).bind fun t178 => (if 0 ≤ C.2.1 then (if C.2.1 ≤ ((ints l).length : Int) then ((jobshellref03_SameBytes.f t178 ((ints l).take (C.2.1 : Int).toNat)).bind fun t182 => (if t182 = true then ((jobshelllaw03_awake.f k).bind fun t183 => (some t183)) else none)) else none) else none)) else ((jobshelllaw03_awake.f k).bind fun t184 => (some t184))) else none)) else none) else none)) else (if C.2.2 = 0 then ((codec_PutTexts.f k C.1).bind fun t178 => (if 0 ≤ C.2.1 then (if C.2.1 ≤ ((ints l).length : Int) then ((jobshellref03_SameBytes.f t178 ((ints l).take (C.2.1 : Int).toNat)).bind fun t182 => (if t182 = true then ((jobshelllaw03_awake.f k).bind fun t183 => (some t183)) else none)) else none) else none)) else ((jobshelllaw03_awake.f k).bind fun t184 => (some t184)))) true := by
    by_cases ce : B.2.2 = 0
    · obtain ⟨h1, h4⟩ := hT ce
      refine ev_if ce (Ev.bind (cPutText_ev (by omega)) (ev_if j0 (ev_if (by rw [ints_len]; exact j1) ?_)))
      rw [h4]
      exact ev_given (same_self _) (ev_if rfl part3)
    · exact ev_else ce part3
  refine Ev.step (fun k => by rw [jobshelllaw03_CodecUnique.j0, if_neg (by decide)]) ?_
  by_cases ce : A.2.2 = 0
  · obtain ⟨h1, h4⟩ := hI ce
    refine ev_if ce (Ev.bind (cPut_ev h1) (ev_if i0 (ev_if (by rw [ints_len]; exact i1) ?_)))
    rw [h4]
    exact ev_given (same_self _) (ev_if rfl part2)
  · exact ev_else ce part2

end Go.Proofs.Ytdgdabgbdephnaa.Pure
