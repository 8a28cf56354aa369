/- Plain lemmas for chapter 03: the reading of a text (TX) and of a list of texts (TTS), their encodings (ET, ETS), and how they go together. No conditions beyond those written at each. -/
import Derived.Test.YtdgdabgbdephnaaLem2
set_option linter.unusedVariables false
set_option linter.unusedSimpArgs false
namespace Go.Proofs.Ytdgdabgbdephnaa.Pure
open Go.RowKit Go.Proofs.Ytdgdabgbdephnaa.Q Go.Proofs.YtdgdabgbdephnaaW.PrintWords Go.Proofs.YtdgdabgbdephnaaW.PrintLast Go.Proofs.YtdgdabgbdephnaaW.PrintMore

/-- A length. -/
def LN (m : List Nat) : Except Int (Nat × Nat) := match D m 0 0 with
  | .error e => .error e
  | .ok x => if x.1 % 2 = 1 then .error 6 else .ok (x.1 / 2, x.2)
/-- A text. -/
def TX (m : List Nat) : Except Int (List Nat × Nat) := match LN m with
  | .error e => .error e
  | .ok x => if m.length - x.2 < x.1 then .error 28 else .ok ((m.drop x.2).take x.1, x.2 + x.1)
def TXS : Nat → List Nat → Except Int (List (List Nat) × Nat)
  | 0, _ => .ok ([], 0)
  | n + 1, m => match TX m with
    | .error e => .error e
    | .ok x => match TXS n (m.drop x.2) with
      | .error e => .error e
      | .ok y => .ok (x.1 :: y.1, x.2 + y.2)
/-- A list of texts. -/
def TTS (m : List Nat) : Except Int (List (List Nat) × Nat) := match LN m with
  | .error e => .error e
  | .ok x => if m.length - x.2 < x.1 then .error 28 else match TXS x.1 (m.drop x.2) with
    | .error e => .error e
    | .ok y => .ok (y.1, x.2 + y.2)
def ET (t : List Nat) : List Nat := E (2 * t.length) ++ t
def ETL (ts : List (List Nat)) : List Nat := ts.flatMap ET
def ETS (ts : List (List Nat)) : List Nat := E (2 * ts.length) ++ ETL ts
def small (n : Nat) : Prop := n ≤ 1000000000000
theorem LN_E {n : Nat} (h : small n) (r : List Nat) : LN (E (2 * n) ++ r) = .ok (n, (E (2 * n)).length) := by
  unfold small at h
  unfold LN
  rw [D_E0 r (by omega)]
  simp only
  rw [if_neg (by omega)]
  congr 2
  omega
theorem LN_pre {n j : Nat} (h : small n) (hj : j < (E (2 * n)).length) : LN ((E (2 * n)).take j) = .error 28 := by
  unfold small at h
  unfold LN
  rw [D_E0_pre (by omega) hj]
theorem TX_ET {t : List Nat} (h : small t.length) (r : List Nat) : TX (ET t ++ r) = .ok (t, (ET t).length) := by
  unfold TX ET
  rw [List.append_assoc, LN_E h]
  simp only
  rw [if_neg (by simp only [List.length_append]; omega), List.drop_left, List.take_left, List.length_append]
theorem TX_pre {t : List Nat} {j : Nat} (h : small t.length) (hj : j < (ET t).length) : TX ((ET t).take j) = .error 28 := by
  unfold ET at hj ⊢
  unfold TX
  rw [List.length_append] at hj
  by_cases c : j < (E (2 * t.length)).length
  · rw [List.take_append_of_le_length (Nat.le_of_lt c), LN_pre h c]
  · obtain ⟨i, rfl⟩ : ∃ i, j = (E (2 * t.length)).length + i := ⟨j - (E (2 * t.length)).length, by omega⟩
    rw [List.take_length_add_append, LN_E h]
    simp only
    rw [if_pos (by simp only [List.length_append, List.length_take]; omega)]
theorem TXS_ETL (r : List Nat) : ∀ (ts : List (List Nat)), (∀ t ∈ ts, small t.length) → TXS ts.length (ETL ts ++ r) = .ok (ts, (ETL ts).length)
  | [], _ => rfl
  | t :: ts, h => by
    have e : ETL (t :: ts) = ET t ++ ETL ts := rfl
    rw [List.length_cons, TXS, e, List.append_assoc, TX_ET (h t List.mem_cons_self)]
    simp only
    rw [List.drop_left, TXS_ETL r ts (fun x hx => h x (List.mem_cons_of_mem _ hx))]
    simp only [List.length_append]
theorem TXS_pre : ∀ (ts : List (List Nat)) (j : Nat), (∀ t ∈ ts, small t.length) → j < (ETL ts).length → TXS ts.length ((ETL ts).take j) = .error 28
  | [], j, _, hj => absurd hj (Nat.not_lt_zero _)
  | t :: ts, j, h, hj => by
    have e : ETL (t :: ts) = ET t ++ ETL ts := rfl
    rw [e] at hj ⊢
    rw [List.length_append] at hj
    rw [List.length_cons, TXS]
    by_cases c : j < (ET t).length
    · rw [List.take_append_of_le_length (Nat.le_of_lt c), TX_pre (h t List.mem_cons_self) c]
    · obtain ⟨i, rfl⟩ : ∃ i, j = (ET t).length + i := ⟨j - (ET t).length, by omega⟩
      rw [List.take_length_add_append, TX_ET (h t List.mem_cons_self)]
      simp only
      rw [List.drop_left, TXS_pre ts i (fun x hx => h x (List.mem_cons_of_mem _ hx)) (by omega)]
theorem ETL_len : ∀ (ts : List (List Nat)), ts.length ≤ (ETL ts).length
  | [] => Nat.le_refl _
  | t :: ts => by
    have e : ETL (t :: ts) = ET t ++ ETL ts := rfl
    have := ETL_len ts
    have := E_pos (2 * t.length)
    rw [e, List.length_append, List.length_cons]
    unfold ET
    rw [List.length_append]
    omega
theorem TTS_ETS {ts : List (List Nat)} (h0 : small ts.length) (h : ∀ t ∈ ts, small t.length) (r : List Nat) : TTS (ETS ts ++ r) = .ok (ts, (ETS ts).length) := by
  unfold TTS ETS
  rw [List.append_assoc, LN_E h0]
  simp only
  have := ETL_len ts
  rw [if_neg (by simp only [List.length_append]; omega), List.drop_left, TXS_ETL r ts h]
  simp only [List.length_append]
theorem TTS_pre {ts : List (List Nat)} {j : Nat} (h0 : small ts.length) (h : ∀ t ∈ ts, small t.length) (hj : j < (ETS ts).length) : TTS ((ETS ts).take j) = .error 28 := by
  unfold ETS at hj ⊢
  unfold TTS
  rw [List.length_append] at hj
  by_cases c : j < (E (2 * ts.length)).length
  · rw [List.take_append_of_le_length (Nat.le_of_lt c), LN_pre h0 c]
  · obtain ⟨i, rfl⟩ : ∃ i, j = (E (2 * ts.length)).length + i := ⟨j - (E (2 * ts.length)).length, by omega⟩
    rw [List.take_length_add_append, LN_E h0]
    simp only
    rw [List.drop_left]
    split
    · rfl
    · rw [TXS_pre ts i h (by omega)]
/-! ### what is read is written so alone -/
theorem LN_unique {l : List Nat} {n j : Nat} (hb : ∀ b ∈ l, b < 256) (h : LN l = .ok (n, j)) : j ≤ l.length ∧ 0 < j ∧ l.take j = E (2 * n) := by
  unfold LN at h
  cases hd : D l 0 0 with
  | error e => rw [hd] at h; cases h
  | ok x =>
    rw [hd] at h
    simp only at h
    by_cases c : x.1 % 2 = 1
    · rw [if_pos c] at h; cases h
    · rw [if_neg c] at h
      obtain ⟨h1, h2⟩ : x.1 / 2 = n ∧ x.2 = j := by simpa using h
      obtain ⟨_, e1, e2, e3⟩ := D_unique0 hb hd
      subst h2
      refine ⟨e1, e2, ?_⟩
      rw [e3]
      congr 1
      omega
theorem take_add {l : List Nat} (j n : Nat) : l.take (j + n) = l.take j ++ (l.drop j).take n := by
  rw [List.take_add]
theorem TX_unique {l t : List Nat} {j : Nat} (hb : ∀ b ∈ l, b < 256) (h : TX l = .ok (t, j)) : j ≤ l.length ∧ 0 < j ∧ l.take j = ET t := by
  unfold TX at h
  cases hd : LN l with
  | error e => rw [hd] at h; cases h
  | ok x =>
    rw [hd] at h
    simp only at h
    by_cases c : l.length - x.2 < x.1
    · rw [if_pos c] at h; cases h
    · rw [if_neg c] at h
      obtain ⟨h1, h2⟩ : (l.drop x.2).take x.1 = t ∧ x.2 + x.1 = j := by simpa using h
      obtain ⟨e1, e2, e3⟩ := LN_unique hb hd
      subst h2 h1
      refine ⟨by omega, by omega, ?_⟩
      have hl : ((l.drop x.2).take x.1).length = x.1 := by rw [List.length_take, List.length_drop]; omega
      unfold ET
      rw [take_add, e3, hl]
theorem TXS_unique : ∀ (n : Nat) (l : List Nat) (ts : List (List Nat)) (j : Nat), (∀ b ∈ l, b < 256) → TXS n l = .ok (ts, j) → j ≤ l.length ∧ ts.length = n ∧ l.take j = ETL ts
  | 0, l, ts, j, hb, h => by
    obtain ⟨rfl, rfl⟩ : [] = ts ∧ 0 = j := by simpa [TXS] using h
    exact ⟨Nat.zero_le _, rfl, rfl⟩
  | n + 1, l, ts, j, hb, h => by
    rw [TXS] at h
    cases hd : TX l with
    | error e => rw [hd] at h; cases h
    | ok x =>
      rw [hd] at h
      simp only at h
      cases hy : TXS n (l.drop x.2) with
      | error e => rw [hy] at h; cases h
      | ok y =>
        rw [hy] at h
        simp only at h
        obtain ⟨h1, h2⟩ : x.1 :: y.1 = ts ∧ x.2 + y.2 = j := by simpa using h
        obtain ⟨e1, e2, e3⟩ := TX_unique hb hd
        obtain ⟨f1, f2, f3⟩ := TXS_unique n (l.drop x.2) y.1 y.2 (fun b h => hb b (List.mem_of_mem_drop h)) hy
        subst h1 h2
        rw [List.length_drop] at f1
        refine ⟨by omega, by rw [List.length_cons, f2], ?_⟩
        rw [take_add, e3, f3]
        rfl
theorem TTS_unique {l : List Nat} {ts : List (List Nat)} {j : Nat} (hb : ∀ b ∈ l, b < 256) (h : TTS l = .ok (ts, j)) : j ≤ l.length ∧ ts.length ≤ l.length ∧ l.take j = ETS ts := by
  unfold TTS at h
  cases hd : LN l with
  | error e => rw [hd] at h; cases h
  | ok x =>
    rw [hd] at h
    simp only at h
    by_cases c : l.length - x.2 < x.1
    · rw [if_pos c] at h; cases h
    · rw [if_neg c] at h
      cases hy : TXS x.1 (l.drop x.2) with
      | error e => rw [hy] at h; cases h
      | ok y =>
        rw [hy] at h
        simp only at h
        obtain ⟨h1, h2⟩ : y.1 = ts ∧ x.2 + y.2 = j := by simpa using h
        obtain ⟨e1, e2, e3⟩ := LN_unique hb hd
        obtain ⟨f1, f2, f3⟩ := TXS_unique x.1 (l.drop x.2) y.1 y.2 (fun b h => hb b (List.mem_of_mem_drop h)) hy
        subst h1 h2
        rw [List.length_drop] at f1
        refine ⟨by omega, by omega, ?_⟩
        unfold ETS
        rw [take_add, e3, f3, f2]
end Go.Proofs.Ytdgdabgbdephnaa.Pure
