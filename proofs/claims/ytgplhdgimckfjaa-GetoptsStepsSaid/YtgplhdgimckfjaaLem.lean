/- Plain lemmas for chapter 16: what a specification comes to, in getopts and in its reference. No conditions beyond those written at each. -/
import Derived.Test.YtgplhdgimckfjaaQ14
import Derived.Test.YtgplhdgimckfjaaQ18
import Derived.Test.YtgplhdgimckfjaaQ7
import Derived.Test.YtgplhdgimckfjaaGValid
set_option linter.unusedVariables false
set_option linter.unusedSimpArgs false
namespace Go.Proofs.Ytgplhdgimckfjaa.Pure
open Go.RowKit Go.Proofs.Ytgplhdgimckfjaa.Q Go.Proofs.YtgplhdgimckfjaaW.PrintWords Go.Proofs.YtgplhdgimckfjaaW.PrintLast

theorem ev_at1 {α : Type} {g : Nat → Option α} {r : α} (h : ∀ k, g (k + 1) = some r) : Ev g r := ⟨1, fun k hk => by
  obtain ⟨m, rfl⟩ : ∃ m, k = m + 1 := ⟨k - 1, by omega⟩
  exact h m⟩
theorem ev_const {α : Type} {r : α} : Ev (fun _ => some r) r := ⟨0, fun _ _ => rfl⟩
theorem w64 {x : Int} (h0 : -9223372036854775808 ≤ x) (h1 : x ≤ 9223372036854775807) : wrap64 x = x := by
  unfold wrap64
  omega

/-- The bytes of a string as numbers. -/
def bl (s : ByteArray) : List Int := s.data.toList.map (fun b => (b.toNat : Int))
theorem bl_len (s : ByteArray) : (bl s).length = s.size := by
  unfold bl
  rw [List.length_map, Array.length_toList]
  rfl
theorem bl_get (s : ByteArray) (i : Nat) (h : i < s.size) : (bl s)[i]'(by rw [bl_len]; exact h) = bt s i := by
  simp [bl, bt, h]
  rfl
theorem bl_drop (s : ByteArray) (i : Nat) (h : i < s.size) : (bl s).drop i = bt s i :: (bl s).drop (i + 1) := by
  rw [List.drop_eq_getElem_cons (by rw [bl_len]; exact h), bl_get s i h]
theorem bl_done (s : ByteArray) (i : Nat) (h : s.size ≤ i) : (bl s).drop i = [] := List.drop_eq_nil_of_le (by rw [bl_len]; exact h)
theorem bl_append (a b : ByteArray) : bl (a ++ b) = bl a ++ bl b := by simp [bl, ByteArray.data_append]
theorem bl_one (s : ByteArray) (i : Nat) (h : i < s.size) : bl (s.extract i (i + 1)) = [bt s i] := by
  have h1 : bl (s.extract i (i + 1)) = ((bl s).drop i).take 1 := by
    simp [bl, ByteArray.data_extract, List.extract_eq_take_drop, List.map_take, List.map_drop]
  rw [h1, bl_drop s i h]
  rfl
theorem size_one (s : ByteArray) (i : Nat) (h : i < s.size) : (s.extract i (i + 1)).size = 1 := by
  rw [← bl_len, bl_one s i h]
  rfl
theorem bt_one (s : ByteArray) (i : Nat) (h : i < s.size) : bt (s.extract i (i + 1)) 0 = bt s i := by
  have h1 := bl_get (s.extract i (i + 1)) 0 (by rw [size_one s i h]; omega)
  have h2 := bl_one s i h
  simp only [h2] at h1
  exact h1.symm
theorem bt_range (s : ByteArray) (i : Int) : 0 ≤ bt s i ∧ bt s i < 256 := by
  unfold bt
  split
  · rename_i h
    have := (s[i.toNat]'h).toNat_lt
    omega
  · omega

/-- Is a byte a letter? -/
def letterB (c : Int) : Bool := (decide (97 ≤ c) && decide (c ≤ 122)) || (decide (65 ≤ c) && decide (c ≤ 90)) || (decide (48 ≤ c) && decide (c ≤ 57))
theorem letter_eq (c : Int) : getopts_letter.f c = some (letterB c) := by
  unfold getopts_letter.f letterB
  repeat' split
  all_goals (rw [Option.some.injEq, Bool.eq_iff_iff]; simp only [Bool.or_eq_true, Bool.and_eq_true, decide_eq_true_eq, true_iff, false_iff, Bool.false_eq_true]; omega)
theorem rletter_eq (c : Int) : jobshellref16_letter.f c = some (letterB c) := letter_eq c
theorem letter_58 : letterB 58 = false := by decide

/-- What a list of bytes means: the letters, and whether each takes an argument. -/
def parse : List Int → Option (List (Int × Bool))
  | [] => some []
  | [c] => if letterB c = true then some [(c, false)] else none
  | c :: d :: r => if letterB c = true then (if d = 58 then (parse r).map ((c, true) :: ·) else (parse (d :: r)).map ((c, false) :: ·)) else none
theorem parse_bad {c : Int} (r : List Int) (h : letterB c = false) : parse (c :: r) = none := by
  cases r <;> simp [parse, h]
theorem parse_two {c : Int} (r : List Int) (h : letterB c = true) : parse (c :: 58 :: r) = (parse r).map ((c, true) :: ·) := by
  simp [parse, h]
theorem parse_one {c : Int} (r : List Int) (h : letterB c = true) (h2 : r.head? ≠ some 58) : parse (c :: r) = (parse r).map ((c, false) :: ·) := by
  cases r with
  | nil => simp [parse, h]
  | cons d r =>
    have : d ≠ 58 := by simpa using h2
    simp [parse, h, this]

theorem l_stepA (s : ByteArray) (hn : s.size ≤ 140737488351232) (i : Nat) (x5 : ByteArray) (x6 : List Bool) (hlt : i < s.size) (h5 : x5.size ≤ i) (h6 : x6.length ≤ i) (hc : letterB (bt s i) = true) (k : Nat) :
    jobshellref16_letters.l0 (k + 1) s x5 x6 i = jobshellref16_letters.l0 k s (x5 ++ s.extract i (i + 1)) (x6 ++ [false]) ((i + 1 : Nat) : Int) := by
  have z1 : wrap64 ((i : Int) + 1) = ((i + 1 : Nat) : Int) := by rw [w64 (by omega) (by omega)]; omega
  have n1 : ((i + 1 : Nat) : Int).toNat = i + 1 := by omega
  have n0 : (i : Int).toNat = i := by omega
  have q0 : (i : Int) < (s.size : Int) := by omega
  have q1 : (0 : Int) ≤ (i : Int) := by omega
  have q2 : (i : Int) ≤ ((i + 1 : Nat) : Int) := by omega
  have q3 : ((i + 1 : Nat) : Int) ≤ (s.size : Int) := by omega
  have q4 : x5.size + (s.extract i (i + 1)).size ≤ 9223372036854775807 := by rw [size_one s i hlt]; omega
  have q5 : x6.length < 140737488355328 := by omega
  simp only [jobshellref16_letters.l0]
  rw [if_pos q0, if_pos q1]
  simp only [rletter_eq, hc, Option.bind_some, if_true, z1, n0, n1]
  rw [if_pos q2, if_pos q3, if_pos q4, if_pos q5]
theorem l_stepB (s : ByteArray) (hn : s.size ≤ 140737488351232) (i : Nat) (x5 : ByteArray) (x6 : List Bool) (hlt : i < s.size) (h6 : x6.length ≤ i) (hc : bt s i = 58) (k : Nat) :
    jobshellref16_letters.l0 (k + 1) s x5 (x6 ++ [false]) i = jobshellref16_letters.l0 k s x5 (x6 ++ [true]) ((i + 1 : Nat) : Int) := by
  have z2 : wrap64 ((i : Int) + 1) = ((i + 1 : Nat) : Int) := by rw [w64 (by omega) (by omega)]; omega
  have r0 : (i : Int) < (s.size : Int) := by omega
  have r1 : (0 : Int) ≤ (i : Int) := by omega
  have hlen : (x6 ++ [false]).length = x6.length + 1 := by simp
  have r2 : (((x6 ++ [false]).length : Nat) : Int) > 0 := by omega
  have z3 : wrap64 ((((x6 ++ [false]).length : Nat) : Int) - 1) = (x6.length : Int) := by rw [hlen, w64 (by omega) (by omega)]; omega
  have r3 : (0 : Int) ≤ (x6.length : Int) := by omega
  have r4 : (x6.length : Int) < (((x6 ++ [false]).length : Nat) : Int) := by omega
  have r5 : rdOf false (x6 ++ [false]) (x6.length : Int) = false := by simp [rdOf]
  have n6 : (x6.length : Int).toNat = x6.length := by omega
  have r6 : (x6 ++ [false]).set x6.length true = x6 ++ [true] := by simp
  simp only [jobshellref16_letters.l0]
  rw [if_pos r0, if_pos r1]
  simp only [rletter_eq, hc, letter_58, Option.bind_some, Bool.false_eq_true, if_false, if_true, z3]
  rw [if_pos r2, if_pos r3, if_pos r4]
  simp only [r5, Bool.false_eq_true, if_false, z2, n6, r6]
theorem l_stepC (s : ByteArray) (hn : s.size ≤ 140737488351232) (i : Nat) (x5 : ByteArray) (x6 : List Bool) (hlt : i < s.size) (h6 : x6.length ≤ i) (hc : letterB (bt s i) = false)
    (hb : x6.length = 0 ∨ rdOf false x6 ((x6.length : Int) - 1) = true ∨ i = s.size ∨ bt s i ≠ 58) (k : Nat) :
    jobshellref16_letters.l0 (k + 1) s x5 x6 i = some ((⟨#[]⟩ : ByteArray), ([] : List Bool), false) := by
  have q0 : (i : Int) < (s.size : Int) := by omega
  have q1 : (0 : Int) ≤ (i : Int) := by omega
  have t1 : wrap64 ((x6.length : Int) - 1) = (x6.length : Int) - 1 := w64 (by omega) (by omega)
  have t3 : (x6.length : Int) - 1 < (x6.length : Int) := by omega
  simp only [jobshellref16_letters.l0]
  rw [if_pos q0, if_pos q1]
  simp only [rletter_eq, hc, Option.bind_some, Bool.false_eq_true, if_false]
  by_cases h58 : bt s i = 58
  · rw [if_pos h58]
    by_cases hl : (x6.length : Int) > 0
    · have t2 : (0 : Int) ≤ (x6.length : Int) - 1 := by omega
      have t4 : rdOf false x6 ((x6.length : Int) - 1) = true := by
        rcases hb with hb | hb | hb | hb
        · omega
        · exact hb
        · omega
        · exact absurd h58 hb
      rw [if_pos hl, t1, if_pos t2, if_pos t3, if_pos t4]
    · rw [if_neg hl]
  · rw [if_neg h58]
theorem l_stop (s : ByteArray) (i : Nat) (x5 : ByteArray) (x6 : List Bool) (h : s.size ≤ i) (k : Nat) : jobshellref16_letters.l0 (k + 1) s x5 x6 i = some (x5, x6, true) := by
  simp only [jobshellref16_letters.l0]
  rw [if_neg (by omega)]

theorem sub2 {n i d : Nat} (h : n - i ≤ d + 1) : n - (i + 2) ≤ d := by omega
theorem sub1 {n i d : Nat} (h : n - i ≤ d + 1) : n - (i + 1) ≤ d := by omega
theorem letters_ev (s : ByteArray) (hn : s.size ≤ 140737488351232) (d : Nat) : ∀ (i : Nat) (x5 : ByteArray) (x6 : List Bool), i ≤ s.size → s.size - i ≤ d → x5.size ≤ i → x6.length ≤ i →
    (x6.length = 0 ∨ rdOf false x6 ((x6.length : Int) - 1) = true ∨ i = s.size ∨ bt s i ≠ 58) →
    (parse ((bl s).drop i) = none → Ev (fun k => jobshellref16_letters.l0 k s x5 x6 i) ((⟨#[]⟩ : ByteArray), ([] : List Bool), false)) ∧
    (∀ L, parse ((bl s).drop i) = some L → ∃ F, bl F = bl x5 ++ L.map (·.1) ∧ Ev (fun k => jobshellref16_letters.l0 k s x5 x6 i) (F, x6 ++ L.map (·.2), true)) := by
  have done : ∀ (i : Nat) (x5 : ByteArray) (x6 : List Bool), s.size ≤ i → 
    (parse ((bl s).drop i) = none → Ev (fun k => jobshellref16_letters.l0 k s x5 x6 i) ((⟨#[]⟩ : ByteArray), ([] : List Bool), false)) ∧
    (∀ L, parse ((bl s).drop i) = some L → ∃ F, bl F = bl x5 ++ L.map (·.1) ∧ Ev (fun k => jobshellref16_letters.l0 k s x5 x6 i) (F, x6 ++ L.map (·.2), true)) := by
    intro i x5 x6 h
    rw [bl_done s i h]
    refine ⟨fun h => by simp [parse] at h, fun L h' => ?_⟩
    obtain rfl : L = [] := by simpa [parse] using h'.symm
    refine ⟨x5, by simp, ev_at1 fun k => ?_⟩
    rw [l_stop s i x5 x6 h]
    simp
  induction d with
  | zero => exact fun i x5 x6 hi hd h5 h6 hb => done i x5 x6 (by omega)
  | succ d ih =>
    intro i x5 x6 hi hd h5 h6 hb
    by_cases hlt : i < s.size
    · have e := bl_drop s i hlt
      by_cases hc : letterB (bt s i) = true
      · have step1 := l_stepA s hn i x5 x6 hlt h5 h6 hc
        have s5 : (x5 ++ s.extract i (i + 1)).size ≤ i + 1 := by rw [ByteArray.size_append, size_one s i hlt]; omega
        have b5 : bl (x5 ++ s.extract i (i + 1)) = bl x5 ++ [bt s i] := by rw [bl_append, bl_one s i hlt]
        generalize x5 ++ s.extract i (i + 1) = y5 at step1 s5 b5
        by_cases hm : i + 1 < s.size ∧ bt s ((i + 1 : Nat) : Int) = 58
        · obtain ⟨hm1, hm2⟩ := hm
          have e2 := bl_drop s (i + 1) hm1
          have step2 := l_stepB s hn (i + 1) y5 x6 hm1 (Nat.le_succ_of_le h6) hm2
          have hl2 : (x6 ++ [true]).length ≤ i + 2 := by rw [List.length_append, List.length_singleton]; exact Nat.le_succ_of_le (Nat.succ_le_succ h6)
          have I := ih (i + 2) y5 (x6 ++ [true]) hm1 (sub2 hd) (Nat.le_succ_of_le s5) hl2 (by right; left; simp [rdOf])
          rw [e, e2, hm2, parse_two _ hc]
          refine ⟨fun h => ?_, fun L h => ?_⟩
          · have h' : parse ((bl s).drop (i + 1 + 1)) = none := by simpa using h
            exact Ev.step step1 (Ev.step step2 (I.1 h'))
          · obtain ⟨L', hL', rfl⟩ := Option.map_eq_some_iff.mp h
            obtain ⟨F, hF, hE⟩ := I.2 L' hL'
            refine ⟨F, ?_, ?_⟩
            · rw [hF, b5]; simp
            · have : x6 ++ List.map (fun x => x.snd) ((bt s i, true) :: L') = x6 ++ [true] ++ List.map (fun x => x.snd) L' := by simp
              rw [this]
              exact Ev.step step1 (Ev.step step2 hE)
        · have hh : ((bl s).drop (i + 1)).head? ≠ some 58 := by
            by_cases hm1 : i + 1 < s.size
            · rw [bl_drop s (i + 1) hm1]
              simp only [List.head?_cons, ne_eq, Option.some.injEq]
              exact fun h => hm ⟨hm1, h⟩
            · rw [bl_done s (i + 1) (Nat.not_lt.mp hm1)]
              simp
          have hl2 : (x6 ++ [false]).length ≤ i + 1 := by rw [List.length_append, List.length_singleton]; exact Nat.succ_le_succ h6
          have I := ih (i + 1) y5 (x6 ++ [false]) hlt (sub1 hd) s5 hl2 (by
            right; right
            rcases Nat.lt_or_ge (i + 1) s.size with hm1 | hm1
            · exact Or.inr fun h => hm ⟨hm1, h⟩
            · exact Or.inl (Nat.le_antisymm hlt hm1))
          rw [e, parse_one _ hc hh]
          refine ⟨fun h => ?_, fun L h => ?_⟩
          · have h' : parse ((bl s).drop (i + 1)) = none := by simpa using h
            exact Ev.step step1 (I.1 h')
          · obtain ⟨L', hL', rfl⟩ := Option.map_eq_some_iff.mp h
            obtain ⟨F, hF, hE⟩ := I.2 L' hL'
            refine ⟨F, ?_, ?_⟩
            · rw [hF, b5]; simp
            · have : x6 ++ List.map (fun x => x.snd) ((bt s i, false) :: L') = x6 ++ [false] ++ List.map (fun x => x.snd) L' := by simp
              rw [this]
              exact Ev.step step1 hE
      · have hc' : letterB (bt s i) = false := by simpa using hc
        rw [e, parse_bad _ hc']
        exact ⟨fun _ => ev_at1 fun k => l_stepC s hn i x5 x6 hlt h6 hc' hb k, fun L h => by simp at h⟩
    · exact done i x5 x6 (Nat.not_lt.mp hlt)
end Go.Proofs.Ytgplhdgimckfjaa.Pure
