/- Plain lemmas for chapter 16: the answers of both Valids, and of both searches for a letter. No conditions beyond those written at each. -/
import Derived.Test.YtgplhdgimckfjaaLem
set_option linter.unusedVariables false
set_option linter.unusedSimpArgs false
namespace Go.Proofs.Ytgplhdgimckfjaa.Pure
open Go.RowKit Go.Proofs.Ytgplhdgimckfjaa.Q Go.Proofs.YtgplhdgimckfjaaW.PrintWords Go.Proofs.YtgplhdgimckfjaaW.PrintLast

/-- Is one of the letters met, or twice there? -/
def dupB (met : List Bool) : List (Int × Bool) → Bool
  | [] => false
  | p :: r => rdOf false met p.1 || dupB (met.set p.1.toNat true) r

def vAns (o : Option (List (Int × Bool))) (met : List Bool) (tw : Bool) : Int :=
  match o with
  | none => 6
  | some L => if (tw || dupB met L) = true then 9 else 0
theorem vAns_map (c : Int) (t : Bool) (o : Option (List (Int × Bool))) (met : List Bool) (tw : Bool) :
    vAns (o.map ((c, t) :: ·)) met tw = vAns o (met.set c.toNat true) (tw || rdOf false met c) := by
  cases o <;> simp [vAns, dupB, Bool.or_assoc]

/-- The step over a ':' that belongs to a letter. -/
theorem v_colon (s : ByteArray) (hn : s.size ≤ 140737488351232) (i : Nat) (h0 : 0 < i) (hlt : i < s.size) (hc : bt s i = 58) (hp : bt s ((i : Int) - 1) ≠ 58) (met : List Bool) (tw : Bool) (m : Nat) :
    getopts_Valid.l0 (m + 1) s met tw i = getopts_Valid.l0 m s met tw ((i + 1 : Nat) : Int) := by
  have z1 : wrap64 ((i : Int) + 1) = ((i + 1 : Nat) : Int) := by rw [w64 (by omega) (by omega)]; omega
  have z2 : wrap64 ((i : Int) - 1) = (i : Int) - 1 := w64 (by omega) (by omega)
  have q0 : (i : Int) < (s.size : Int) := by omega
  have q1 : (0 : Int) ≤ (i : Int) := by omega
  have q2 : (i : Int) > 0 := by omega
  have q3 : (0 : Int) ≤ (i : Int) - 1 := by omega
  have q4 : (i : Int) - 1 < (s.size : Int) := by omega
  simp only [getopts_Valid.l0, z1, z2]
  rw [if_pos q0, if_pos q1, if_pos hc, if_pos q2, if_pos q3, if_pos q4, if_neg hp]
/-- The step over another byte. -/
theorem v_other (s : ByteArray) (hn : s.size ≤ 140737488351232) (i : Nat) (hlt : i < s.size) (hb : i = 0 ∨ bt s ((i : Int) - 1) = 58 ∨ bt s i ≠ 58) (met : List Bool) (tw : Bool) (m : Nat) :
    getopts_Valid.l0 (m + 1) s met tw i = if letterB (bt s i) = true then getopts_Valid.l0 m s (met.set (bt s i).toNat true) (tw || rdOf false met (bt s i)) ((i + 1 : Nat) : Int) else some 6 := by
  have z1 : wrap64 ((i : Int) + 1) = ((i + 1 : Nat) : Int) := by rw [w64 (by omega) (by omega)]; omega
  have z2 : wrap64 ((i : Int) - 1) = (i : Int) - 1 := w64 (by omega) (by omega)
  have q0 : (i : Int) < (s.size : Int) := by omega
  have q1 : (0 : Int) ≤ (i : Int) := by omega
  simp only [getopts_Valid.l0, z1, z2, letter_eq, Option.bind_some]
  rw [if_pos q0, if_pos q1]
  by_cases hc : bt s i = 58
  · rw [if_pos hc]
    by_cases h0 : (i : Int) > 0
    · have q3 : (0 : Int) ≤ (i : Int) - 1 := by omega
      have q4 : (i : Int) - 1 < (s.size : Int) := by omega
      have hp : bt s ((i : Int) - 1) = 58 := by
        rcases hb with hb | hb | hb
        · omega
        · exact hb
        · exact absurd hc hb
      rw [if_pos h0, if_pos q3, if_pos q4, if_pos hp]
    · rw [if_neg h0]
  · rw [if_neg hc]
theorem v_stop (s : ByteArray) (i : Nat) (h : s.size ≤ i) (met : List Bool) (tw : Bool) (m : Nat) : getopts_Valid.l0 (m + 1) s met tw i = some (if tw = true then 9 else 0) := by
  simp only [getopts_Valid.l0]
  rw [if_neg (by omega)]

theorem valid_l0 (s : ByteArray) (hn : s.size ≤ 140737488351232) (d : Nat) : ∀ (i m : Nat) (met : List Bool) (tw : Bool), s.size - i ≤ d → s.size - i < m → (i = 0 ∨ bt s ((i : Int) - 1) = 58 ∨ s.size ≤ i ∨ bt s i ≠ 58) →
    getopts_Valid.l0 m s met tw i = some (vAns (parse ((bl s).drop i)) met tw) := by
  have done : ∀ (i m : Nat) (met : List Bool) (tw : Bool), s.size ≤ i → 0 < m → getopts_Valid.l0 m s met tw i = some (vAns (parse ((bl s).drop i)) met tw) := by
    intro i m met tw h hm
    obtain ⟨m, rfl⟩ : ∃ m', m = m' + 1 := ⟨m - 1, by omega⟩
    rw [bl_done s i h, v_stop s i h]
    simp [parse, vAns, dupB]
  induction d with
  | zero => exact fun i m met tw hd hm hb => done i m met tw (by omega) (by omega)
  | succ d ih =>
    intro i m met tw hd hm hb
    rcases Nat.lt_or_ge i s.size with hlt | hge
    · obtain ⟨m, rfl⟩ : ∃ m', m = m' + 1 := ⟨m - 1, by omega⟩
      have hb' : i = 0 ∨ bt s ((i : Int) - 1) = 58 ∨ bt s i ≠ 58 := by
        rcases hb with hb | hb | hb | hb
        · exact .inl hb
        · exact .inr (.inl hb)
        · exact absurd hlt (Nat.not_lt.mpr hb)
        · exact .inr (.inr hb)
      have hd1 := sub1 hd
      have hd2 := sub2 hd
      have hm1 : s.size - (i + 1) < m := by omega
      rw [v_other s hn i hlt hb', bl_drop s i hlt]
      by_cases hc : letterB (bt s i) = true
      · rw [if_pos hc]
        have hne : bt s i ≠ 58 := fun h => by rw [h, letter_58] at hc; exact absurd hc (by decide)
        have hpred : (((i + 1 : Nat) : Int) - 1) = (i : Int) := by omega
        by_cases hm' : i + 1 < s.size ∧ bt s ((i + 1 : Nat) : Int) = 58
        · obtain ⟨k1, k2⟩ := hm'
          obtain ⟨m, rfl⟩ : ∃ m', m = m' + 1 := ⟨m - 1, by omega⟩
          have hm2 : s.size - (i + 2) < m := by omega
          rw [v_colon s hn (i + 1) (Nat.succ_pos i) k1 k2 (by rw [hpred]; exact hne), bl_drop s (i + 1) k1, k2, parse_two _ hc, vAns_map]
          exact ih (i + 2) m _ _ hd2 hm2 (by
            right; left
            have : (((i + 2 : Nat) : Int) - 1) = ((i + 1 : Nat) : Int) := by omega
            rw [this]; exact k2)
        · have hh : ((bl s).drop (i + 1)).head? ≠ some 58 := by
            rcases Nat.lt_or_ge (i + 1) s.size with k1 | k1
            · rw [bl_drop s (i + 1) k1]
              simp only [List.head?_cons, ne_eq, Option.some.injEq]
              exact fun h => hm' ⟨k1, h⟩
            · rw [bl_done s (i + 1) k1]
              simp
          rw [parse_one _ hc hh, vAns_map]
          exact ih (i + 1) m _ _ hd1 hm1 (by
            right; right
            rcases Nat.lt_or_ge (i + 1) s.size with k1 | k1
            · exact Or.inr fun h => hm' ⟨k1, h⟩
            · exact Or.inl k1)
      · have hc' : letterB (bt s i) = false := by simpa using hc
        rw [if_neg hc, parse_bad _ hc']
        rfl
    · exact done i m met tw hge (by omega)

/-- A letter's search. -/
def lookL : List (Int × Bool) → Int → Bool × Bool
  | [], _ => (false, false)
  | p :: r, c => if p.1 = c then (true, p.2) else lookL r c

theorem parse_shape {c : Int} {r : List Int} {L : List (Int × Bool)} (h : parse (c :: r) = some L) :
    letterB c = true ∧ ((∃ r' L', r = 58 :: r' ∧ parse r' = some L' ∧ L = (c, true) :: L') ∨ (r.head? ≠ some 58 ∧ ∃ L', parse r = some L' ∧ L = (c, false) :: L')) := by
  by_cases hc : letterB c = true
  · refine ⟨hc, ?_⟩
    by_cases hr : r.head? = some 58
    · left
      cases r with
      | nil => simp at hr
      | cons d r' =>
        obtain rfl : d = 58 := by simpa using hr
        rw [parse_two _ hc] at h
        obtain ⟨L', h1, h2⟩ := Option.map_eq_some_iff.mp h
        exact ⟨r', L', rfl, h1, h2.symm⟩
    · right
      rw [parse_one _ hc hr] at h
      obtain ⟨L', h1, h2⟩ := Option.map_eq_some_iff.mp h
      exact ⟨hr, L', h1, h2.symm⟩
  · have hc' : letterB c = false := by simpa using hc
    rw [parse_bad _ hc'] at h
    exact absurd h (by simp)

theorem look_hit (s : ByteArray) (hn : s.size ≤ 140737488351232) (i : Nat) (hlt : i < s.size) (c : Int) (h1 : bt s i = c) (h2 : c ≠ 58) (k : Nat) :
    getopts_look.l0 (k + 1) s c s.size i = some (true, if i + 1 < s.size then bt s ((i + 1 : Nat) : Int) == 58 else false) := by
  have z1 : wrap64 ((i : Int) + 1) = ((i + 1 : Nat) : Int) := by rw [w64 (by omega) (by omega)]; omega
  have q0 : (i : Int) < (s.size : Int) := by omega
  have q1 : (0 : Int) ≤ (i : Int) := by omega
  have q2 : (0 : Int) ≤ ((i + 1 : Nat) : Int) := by omega
  simp only [getopts_look.l0, z1]
  rw [if_pos q0, if_pos q1, if_pos q0, if_pos h1, if_neg h2]
  by_cases h : i + 1 < s.size
  · rw [if_pos (by omega), if_pos q2, if_pos h]
  · rw [if_neg (by omega), if_neg h]
theorem look_miss (s : ByteArray) (hn : s.size ≤ 140737488351232) (i : Nat) (hlt : i < s.size) (c : Int) (h1 : bt s i = c → c = 58) (k : Nat) :
    getopts_look.l0 (k + 1) s c s.size i = getopts_look.l0 k s c s.size ((i + 1 : Nat) : Int) := by
  have z1 : wrap64 ((i : Int) + 1) = ((i + 1 : Nat) : Int) := by rw [w64 (by omega) (by omega)]; omega
  have q0 : (i : Int) < (s.size : Int) := by omega
  have q1 : (0 : Int) ≤ (i : Int) := by omega
  simp only [getopts_look.l0, z1]
  rw [if_pos q0, if_pos q1, if_pos q0]
  by_cases h : bt s i = c
  · rw [if_pos h, if_pos (h1 h)]
  · rw [if_neg h]

theorem look_ev (s : ByteArray) (hn : s.size ≤ 140737488351232) (c : Int) (d : Nat) : ∀ (i : Nat) (L : List (Int × Bool)), s.size - i ≤ d → parse ((bl s).drop i) = some L →
    Ev (fun k => getopts_look.l0 k s c s.size i) (lookL L c) := by
  have done : ∀ (i : Nat) (L : List (Int × Bool)), s.size ≤ i → parse ((bl s).drop i) = some L → Ev (fun k => getopts_look.l0 k s c s.size i) (lookL L c) := by
    intro i L h hp
    rw [bl_done s i h] at hp
    obtain rfl : L = [] := by simpa [parse] using hp.symm
    refine ev_at1 fun k => ?_
    simp only [getopts_look.l0]
    rw [if_neg (by omega)]
    rfl
  induction d with
  | zero => exact fun i L hd hp => done i L (by omega) hp
  | succ d ih =>
    intro i L hd hp
    rcases Nat.lt_or_ge i s.size with hlt | hge
    · have hd1 := sub1 hd
      have hd2 := sub2 hd
      rw [bl_drop s i hlt] at hp
      obtain ⟨hc, hp⟩ := parse_shape hp
      have hne : bt s i ≠ 58 := fun h => by rw [h, letter_58] at hc; exact absurd hc (by decide)
      have hit : bt s i = c → Ev (fun k => getopts_look.l0 k s c s.size i) (true, if i + 1 < s.size then bt s ((i + 1 : Nat) : Int) == 58 else false) := fun h => ev_at1 fun k => look_hit s hn i hlt c h (h ▸ hne) k
      rcases hp with ⟨r', L', hr, hp', rfl⟩ | ⟨hr, L', hp', rfl⟩
      · have k1 : i + 1 < s.size := by
          rcases Nat.lt_or_ge (i + 1) s.size with k1 | k1
          · exact k1
          · rw [bl_done s (i + 1) k1] at hr
            exact absurd hr (by simp)
        rw [bl_drop s (i + 1) k1] at hr
        obtain ⟨k2, rfl⟩ := List.cons.inj hr
        by_cases h : bt s i = c
        · have := hit h
          rw [if_pos k1, k2] at this
          simp only [lookL, h, if_true]
          exact this
        · simp only [lookL, h, if_false]
          refine Ev.step (look_miss s hn i hlt c fun h' => absurd h' h) (Ev.step (look_miss s hn (i + 1) k1 c fun h' => h'.symm.trans k2) ?_)
          exact ih (i + 2) L' hd2 hp'
      · by_cases h : bt s i = c
        · have := hit h
          have k3 : (if i + 1 < s.size then bt s ((i + 1 : Nat) : Int) == 58 else false) = false := by
            rcases Nat.lt_or_ge (i + 1) s.size with k1 | k1
            · rw [if_pos k1]
              rw [bl_drop s (i + 1) k1] at hr
              simpa using hr
            · rw [if_neg (Nat.not_lt.mpr k1)]
          rw [k3] at this
          simp only [lookL, h, if_true]
          exact this
        · simp only [lookL, h, if_false]
          refine Ev.step (look_miss s hn i hlt c fun h' => absurd h' h) ?_
          exact ih (i + 1) L' hd1 hp'
    · exact done i L hge hp

theorem find_ev (F : ByteArray) (hn : F.size ≤ 140737488351232) (T : List Bool) (L : List (Int × Bool)) (hF : bl F = L.map (·.1)) (hT : T = L.map (·.2)) (c : Int) (d : Nat) : ∀ j : Nat, F.size - j ≤ d →
    Ev (fun k => jobshellref16_find.l0 k c F T j) (lookL (L.drop j) c) := by
  have hl : L.length = F.size := by rw [← bl_len, hF, List.length_map]
  have done : ∀ j : Nat, F.size ≤ j → Ev (fun k => jobshellref16_find.l0 k c F T j) (lookL (L.drop j) c) := by
    intro j h
    rw [List.drop_eq_nil_of_le (by omega)]
    refine ev_at1 fun k => ?_
    simp only [jobshellref16_find.l0]
    rw [if_neg (by omega)]
    rfl
  induction d with
  | zero => exact fun j hd => done j (by omega)
  | succ d ih =>
    intro j hd
    rcases Nat.lt_or_ge j F.size with hlt | hge
    · have hd1 := sub1 hd
      have hj : j < L.length := by omega
      have z1 : wrap64 ((j : Int) + 1) = ((j + 1 : Nat) : Int) := by rw [w64 (by omega) (by omega)]; omega
      have q0 : (j : Int) < (F.size : Int) := by omega
      have q1 : (0 : Int) ≤ (j : Int) := by omega
      have q2 : (j : Int) < (T.length : Int) := by rw [hT, List.length_map]; omega
      have e1 : bt F j = (L[j]'hj).1 := by
        have h1 := bl_get F j hlt
        simp only [hF, List.getElem_map] at h1
        exact h1.symm
      have e2 : rdOf false T j = (L[j]'hj).2 := by simp [rdOf, hT, hj]
      rw [List.drop_eq_getElem_cons hj]
      by_cases h : bt F j = c
      · refine ev_at1 fun k => ?_
        simp only [jobshellref16_find.l0]
        rw [if_pos q0, if_pos q1, if_pos h, if_pos q2, e2]
        simp only [lookL]
        rw [if_pos (e1 ▸ h)]
      · have h' : ¬ (L[j]'hj).1 = c := e1 ▸ h
        simp only [lookL]
        rw [if_neg h']
        refine Ev.step (fun k => ?_) (ih (j + 1) hd1)
        simp only [jobshellref16_find.l0]
        rw [if_pos q0, if_pos q1, if_neg h, z1]
    · exact done j hge
end Go.Proofs.Ytgplhdgimckfjaa.Pure
