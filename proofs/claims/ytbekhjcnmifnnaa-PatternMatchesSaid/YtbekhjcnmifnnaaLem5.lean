/- Plain lemmas for chapter 04: the reference's ends and Match. No conditions beyond those written at each. -/
import Derived.Test.YtbekhjcnmifnnaaLem4
set_option linter.unusedVariables false
set_option linter.unusedSimpArgs false
namespace Go.Proofs.Ytbekhjcnmifnnaa.Pure
open Go.RowKit Go.Proofs.Ytbekhjcnmifnnaa.Q Go.Proofs.YtbekhjcnmifnnaaW.PrintWords Go.Proofs.YtbekhjcnmifnnaaW.PrintLast

theorem wm1 {k : Nat} (hk : 0 < k) (h : k ≤ 1000000000000) : wrap64 ((k : Int) - 1) = ((k - 1 : Nat) : Int) := by
  obtain ⟨j, rfl⟩ : ∃ j, k = j + 1 := ⟨k - 1, by omega⟩
  rw [wmn (by omega)]
  rfl
theorem bl_at (s : ByteArray) (k : Nat) (h : k < s.size) : (bl s)[k]'(by rw [bl_len]; exact h) = bt s k := bl_get s k h
/-- One item's row is made out of the row before it. -/
theorem ends_l1 (p : List S35) (s : ByteArray) (hp : Good p) (hv : p.all validS = true) (hn : s.size ≤ 1000000) (i : Nat) (hi : i < p.length) (R : List Bool)
    (I : Ev (fun k => jobshellref04_ends.l0 k p s (rowT (fun j => M (p.take (i + 1)) ((bl s).take j)) s.size (s.size + 1)) ((i + 1 : Nat) : Int)) R) (d : Nat) : ∀ k : Nat, k + d = s.size + 1 →
    Ev (fun f => jobshellref04_ends.l1 f p s (rowT (fun j => M (p.take i) ((bl s).take j)) s.size (s.size + 1)) i (rowT (fun j => M (p.take (i + 1)) ((bl s).take j)) s.size k) k) R := by
  have hs12 : s.size ≤ 1000000000000 := Nat.le_trans hn (by decide)
  have hp12 : p.length ≤ 1000000000000 := Nat.le_trans hp.len (by decide)
  have hb := bl_len s
  have htk : p.take (i + 1) = p.take i ++ [p[i]] := List.take_succ_eq_append_getElem hi
  induction d with
  | zero =>
    intro k hk
    have h : ¬ k ≤ s.size := by omega
    obtain rfl : k = s.size + 1 := by omega
    refine Ev.step (fun f => ?_) I
    simp only [jobshellref04_ends.l1]
    rw [if_neg (not_le_i h), w64n (Nat.le_of_lt hi) hp12]
  | succ d ih =>
    intro k hk
    have h : k ≤ s.size := by omega
    have hk1 : k < s.size + 1 := by omega
    have J := ih (k + 1) (by omega)
    have lenI : ∀ P m, ((rowT P s.size m).length : Int) = ((s.size + 1 : Nat) : Int) := fun P m => by rw [rowT_len]
    have step : ∀ b : Bool, b = M (p.take (i + 1)) ((bl s).take k) → (rowT (fun j => M (p.take (i + 1)) ((bl s).take j)) s.size k).set k b = rowT (fun j => M (p.take (i + 1)) ((bl s).take j)) s.size (k + 1) := fun b e => rowT_set _ _ _ h b e
    by_cases h3 : (p[i]'hi).f0 = 3
    · -- a star
      by_cases hq : M (p.take i) ((bl s).take k) = true
      · have e : true = M (p.take (i + 1)) ((bl s).take k) := by
          rw [htk]
          cases k with
          | zero => rw [List.take_zero, row_star0 _ _ h3]; rw [List.take_zero] at hq; exact hq.symm
          | succ k => rw [row_star _ _ h3 _ _ (by rw [hb]; omega), hq]; rfl
        have r : rdOf false (rowT (fun j => M (p.take i) ((bl s).take j)) s.size (s.size + 1)) (k : Int) = true := by
          rw [rowT_rd _ _ _ _ h, decide_eq_true hk1, hq]; rfl
        refine Ev.step (fun f => ?_) J
        simp only [jobshellref04_ends.l1]
        rw [if_pos (le_i h), if_pos (nn i), if_pos (lift_lt hi), rd35 p i hi, if_pos h3, if_pos (nn k), lenI, if_pos (lift_lt hk1), if_pos r, lenI, if_pos (lift_lt hk1), Int.toNat_natCast, step _ e, w64n h hs12]
      · have hq' := Bool.eq_false_iff.mpr hq
        have r : ¬ rdOf false (rowT (fun j => M (p.take i) ((bl s).take j)) s.size (s.size + 1)) (k : Int) = true := by
          rw [rowT_rd _ _ _ _ h, hq', Bool.and_false]; decide
        cases k with
        | zero =>
          have e : false = M (p.take (i + 1)) ((bl s).take 0) := by
            rw [htk, List.take_zero, row_star0 _ _ h3]; rw [List.take_zero] at hq'; exact hq'.symm
          refine Ev.step (fun f => ?_) J
          simp only [jobshellref04_ends.l1]
          rw [if_pos (le_i h), if_pos (nn i), if_pos (lift_lt hi), rd35 p i hi, if_pos h3, if_pos (nn 0), lenI, if_pos (lift_lt hk1), if_neg r, if_neg (show ¬ ((0 : Nat) : Int) > 0 by decide), lenI, if_pos (lift_lt hk1), Int.toNat_natCast, step _ e, w64n h hs12]
        | succ k =>
          have hk0 : k < s.size + 1 := by omega
          have hkl : k ≤ 1000000000000 := by omega
          have p0 : ((k + 1 : Nat) : Int) > 0 := by omega
          have e : rdOf false (rowT (fun j => M (p.take (i + 1)) ((bl s).take j)) s.size (k + 1)) (k : Int) = M (p.take (i + 1)) ((bl s).take (k + 1)) := by
            rw [rowT_rd _ _ _ _ (by omega : k ≤ s.size), decide_eq_true (Nat.lt_succ_self k), Bool.true_and]
            rw [htk, row_star _ _ h3 _ _ (by rw [hb]; omega), hq', Bool.false_or]
          refine Ev.step (fun f => ?_) J
          simp only [jobshellref04_ends.l1, wmn hkl]
          rw [if_pos (le_i h), if_pos (nn i), if_pos (lift_lt hi), rd35 p i hi, if_pos h3, if_pos (nn (k + 1)), lenI, if_pos (lift_lt hk1), if_neg r, if_pos p0, if_pos (nn k), lenI, if_pos (lift_lt hk0), if_pos (lift_lt hk1), Int.toNat_natCast, step _ e, w64n h hs12]
    · -- no star
      have hmem := List.getElem_mem hi
      cases k with
      | zero =>
        have e : false = M (p.take (i + 1)) ((bl s).take 0) := by
          rw [htk, List.take_zero, row_one0 _ _ h3]
        refine Ev.step (fun f => ?_) J
        simp only [jobshellref04_ends.l1]
        rw [if_pos (le_i h), if_pos (nn i), if_pos (lift_lt hi), rd35 p i hi, if_neg h3, if_neg (show ¬ ((0 : Nat) : Int) > 0 by decide), if_pos (nn 0), lenI, if_pos (lift_lt hk1), Int.toNat_natCast, step _ e, w64n h hs12]
      | succ k =>
        have hk0 : k < s.size + 1 := by omega
        have hks : k < s.size := by omega
        have hkl : k ≤ 1000000000000 := by omega
        have p0 : ((k + 1 : Nat) : Int) > 0 := by omega
        have hrow := row_one (p.take i) p[i] h3 (bl s) k (by rw [hb]; exact hks)
        rw [← htk, bl_at s k hks] at hrow
        by_cases hq : M (p.take i) ((bl s).take k) = true
        · have r : rdOf false (rowT (fun j => M (p.take i) ((bl s).take j)) s.size (s.size + 1)) (k : Int) = true := by
            rw [rowT_rd _ _ _ _ (by omega), decide_eq_true hk0, hq]; rfl
          have e : oneS p[i] (bt s k) = M (p.take (i + 1)) ((bl s).take (k + 1)) := by rw [hrow, hq, Bool.true_and]
          have T := takes_ev p[i] (bt s k) (hp.x hmem) (List.all_eq_true.mp hv _ hmem) h3
          refine Ev.step (fun f => ?_) (Ev.bind T (f := fun f t550 => jobshellref04_ends.l1 f p s (rowT (fun j => M (p.take i) ((bl s).take j)) s.size (s.size + 1)) i ((rowT (fun j => M (p.take (i + 1)) ((bl s).take j)) s.size (k + 1)).set (k + 1) t550) ((k + 1 + 1 : Nat) : Int)) ?_)
          · simp only [jobshellref04_ends.l1, wmn hkl]
            rw [if_pos (le_i h), if_pos (nn i), if_pos (lift_lt hi), rd35 p i hi, if_neg h3, if_pos p0, if_pos (nn k), lenI, if_pos (lift_lt hk0), if_pos r, if_pos (lift_lt hks)]
            simp only [if_pos (nn (k + 1)), lenI, if_pos (lift_lt hk1), Int.toNat_natCast, w64n h hs12]
          · simp only [step _ e]
            exact J
        · have hq' := Bool.eq_false_iff.mpr hq
          have r : ¬ rdOf false (rowT (fun j => M (p.take i) ((bl s).take j)) s.size (s.size + 1)) (k : Int) = true := by
            rw [rowT_rd _ _ _ _ (by omega), hq', Bool.and_false]; decide
          have e : false = M (p.take (i + 1)) ((bl s).take (k + 1)) := by rw [hrow, hq', Bool.false_and]
          refine Ev.step (fun f => ?_) J
          simp only [jobshellref04_ends.l1, wmn hkl]
          rw [if_pos (le_i h), if_pos (nn i), if_pos (lift_lt hi), rd35 p i hi, if_neg h3, if_pos p0, if_pos (nn k), lenI, if_pos (lift_lt hk0), if_neg r, if_pos (nn (k + 1)), lenI, if_pos (lift_lt hk1), Int.toNat_natCast, step _ e, w64n h hs12]
theorem ends_l0 (p : List S35) (s : ByteArray) (hp : Good p) (hv : p.all validS = true) (hn : s.size ≤ 1000000) (d : Nat) : ∀ i : Nat, i ≤ p.length → p.length - i = d →
    Ev (fun k => jobshellref04_ends.l0 k p s (rowT (fun j => M (p.take i) ((bl s).take j)) s.size (s.size + 1)) i) (rowT (fun j => M p ((bl s).take j)) s.size (s.size + 1)) := by
  have hs12 : s.size ≤ 1000000000000 := Nat.le_trans hn (by decide)
  have q1 : ((s.size + 1 : Nat) : Int).toNat ≤ 281474976710656 := by rw [Int.toNat_natCast]; omega
  induction d with
  | zero =>
    intro i hi hd
    have h : ¬ i < p.length := by omega
    obtain rfl : i = p.length := by omega
    rw [List.take_length]
    refine ev_at1 fun k => ?_
    simp only [jobshellref04_ends.l0]
    rw [if_neg (lift_not_lt h)]
  | succ d ih =>
    intro i hi hd
    have hlt : i < p.length := by omega
    have I := ends_l1 p s hp hv hn i hlt _ (ih (i + 1) hlt (by omega)) (s.size + 1) 0 (by omega)
    rw [← rowT_zero] at I
    refine Ev.step (fun k => ?_) I
    simp only [jobshellref04_ends.l0, w64n (Nat.le_refl s.size) hs12]
    rw [if_pos (lift_lt hlt), if_pos (nn _), if_pos q1, Int.toNat_natCast]
    rfl
theorem ends_ev (p : List S35) (s : ByteArray) (hp : Good p) (hv : p.all validS = true) (hn : s.size ≤ 1000000) : Ev (fun k => jobshellref04_ends.f k p s) (rowT (fun j => M p ((bl s).take j)) s.size (s.size + 1)) := by
  have hs12 : s.size ≤ 1000000000000 := Nat.le_trans hn (by decide)
  have q1 : ((s.size + 1 : Nat) : Int).toNat ≤ 281474976710656 := by rw [Int.toNat_natCast]; omega
  have q2 : (0 : Int) < ((List.replicate (s.size + 1) false).length : Int) := by rw [List.length_replicate]; omega
  have I := ends_l0 p s hp hv hn _ 0 (Nat.zero_le _) rfl
  have e : (List.replicate (s.size + 1) false).set 0 true = rowT (fun j => M (p.take 0) ((bl s).take j)) s.size (s.size + 1) := by
    apply List.ext_getElem?
    intro j
    by_cases hj : j ≤ s.size
    · rw [rowT_get _ _ _ _ hj, List.getElem?_set, List.length_replicate, List.getElem?_replicate]
      rw [decide_eq_true (by omega : j < s.size + 1), Bool.true_and, List.take_zero]
      by_cases h0 : 0 = j
      · subst h0
        rw [if_pos rfl, if_pos (by omega)]
        rfl
      · rw [if_neg h0, if_pos (by omega)]
        have : M [] ((bl s).take j) = false := by
          have hl : ((bl s).take j).length = j := by rw [List.length_take, bl_len]; omega
          cases hu : (bl s).take j with
          | nil => rw [hu] at hl; exact absurd hl (by simp; omega)
          | cons c u => rfl
        rw [this]
    · have e1 : ((List.replicate (s.size + 1) false).set 0 true)[j]? = none := by rw [List.getElem?_eq_none_iff, List.length_set, List.length_replicate]; omega
      have e2 : (rowT (fun j => M (p.take 0) ((bl s).take j)) s.size (s.size + 1))[j]? = none := by rw [List.getElem?_eq_none_iff, rowT_len]; omega
      rw [e1, e2]
  rw [← e] at I
  unfold jobshellref04_ends.f
  refine Ev.congr (fun k => ?_) I
  simp only [w64n (Nat.le_refl s.size) hs12]
  rw [if_pos (nn _), if_pos q1, Int.toNat_natCast, Option.bind_some, if_pos q2]
  rfl
theorem rmatch_ev (p : List S35) (s : ByteArray) (hp : Good p) (hn : s.size ≤ 1000000) : Ev (fun k => jobshellref04_Match.f k p s) (matchS p (bl s)) := by
  unfold jobshellref04_Match.f matchS
  refine Ev.bind (rvalid_ev p hp) ?_
  cases hv : p.all validS with
  | true =>
    simp only [if_true, Bool.true_and]
    refine Ev.bind (ends_ev p s hp hv hn) ?_
    have q : s.size < s.size + 1 := Nat.lt_succ_self _
    simp only [rowT_len, if_pos (nn s.size), if_pos (lift_lt q), rowT_rd _ _ _ _ (Nat.le_refl s.size), decide_eq_true q, Bool.true_and]
    refine ev_eq ev_const ?_
    rw [List.take_of_length_le (by rw [bl_len]; exact Nat.le_refl _)]
  | false =>
    simp only [Bool.false_eq_true, if_false, Bool.false_and]
    exact ev_const
end Go.Proofs.Ytbekhjcnmifnnaa.Pure
