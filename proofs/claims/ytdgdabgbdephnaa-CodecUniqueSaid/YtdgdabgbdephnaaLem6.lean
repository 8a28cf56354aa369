/- Plain lemmas for chapter 03: both programs read texts by TX and lists of texts by TTS. No conditions beyond those written at each. -/
import Derived.Test.YtdgdabgbdephnaaLem4
import Derived.Test.YtdgdabgbdephnaaLem5
import Derived.Test.YtdgdabgbdephnaaGTexts
import Derived.Test.YtdgdabgbdephnaaQ12
import Derived.Test.YtdgdabgbdephnaaQ14
import Derived.Test.YtdgdabgbdephnaaQ15
set_option linter.unusedVariables false
set_option linter.unusedSimpArgs false
namespace Go.Proofs.Ytdgdabgbdephnaa.Pure
open Go.RowKit Go.Proofs.Ytdgdabgbdephnaa.Q Go.Proofs.YtdgdabgbdephnaaW.PrintWords Go.Proofs.YtdgdabgbdephnaaW.PrintLast Go.Proofs.YtdgdabgbdephnaaW.PrintMore

def nums (s : ByteArray) : List Nat := s.data.toList.map UInt8.toNat
def str (t : List Nat) : ByteArray := strOfNums (ints t)
theorem bytesOf_nums (s : ByteArray) : bytesOf s = ints (nums s) := by
  unfold bytesOf ints nums
  rw [List.map_map]
  rfl
theorem nums_len (s : ByteArray) : (nums s).length = s.size := by
  unfold nums
  rw [List.length_map, Array.length_toList]
  rfl
theorem nums_byte (s : ByteArray) : ∀ b ∈ nums s, b < 256 := fun b h => by
  obtain ⟨u, _, rfl⟩ := List.mem_map.1 h
  exact u.toNat_lt
theorem str_nums (s : ByteArray) : str (nums s) = s := by
  unfold str strOfNums ints nums
  rw [List.map_map, List.map_map]
  have : ((fun n : Int => UInt8.ofNat n.toNat) ∘ fun n : Nat => (n : Int)) ∘ UInt8.toNat = id := by
    funext u
    simp
  rw [this, List.map_id]
theorem nums_str {t : List Nat} (h : ∀ b ∈ t, b < 256) : nums (str t) = t := by
  unfold str strOfNums ints nums
  rw [List.map_map, List.map_map]
  conv => rhs; rw [← List.map_id t]
  refine List.map_congr_left fun b hb => ?_
  have := h b hb
  simp
  omega
theorem unz_neg {z : Nat} (h : z % 2 = 1) : unz z < 0 := by
  unfold unz
  rw [if_pos h]
  omega
theorem unz_pos {z : Nat} (h : ¬ z % 2 = 1) : unz z = ((z / 2 : Nat) : Int) := by
  unfold unz
  rw [if_neg h]
def LNp (r : Except Int (Nat × Nat)) (p : Nat) : Except Int (Int × Int) := match r with
  | .ok x => .ok (((x.1 : Nat) : Int), ((p + x.2 : Nat) : Int))
  | .error e => .error e
theorem decLen_eq {l : List Nat} (hb : ∀ b ∈ l, b < 256) (hl : l.length ≤ 1000000000000000) {p : Nat} (hp : p ≤ l.length) : decLen (ints l) p = some (LNp (LN (l.drop p)) p) := by
  unfold decLen LN
  rw [decI_eq hb hl hp]
  unfold Dp LNp
  cases D (l.drop p) 0 0 with
  | error e => rfl
  | ok x =>
    rw [Option.bind_some]
    simp only
    by_cases c : x.1 % 2 = 1
    · rw [if_pos c, if_pos (unz_neg c)]
    · rw [if_neg c, if_neg (by rw [unz_pos c]; omega), unz_pos c]
      rfl
def TXp (r : Except Int (List Nat × Nat)) (p : Nat) : Except Int (ByteArray × Int) := match r with
  | .ok x => .ok (str x.1, ((p + x.2 : Nat) : Int))
  | .error e => .error e
theorem cut_eq (l : List Nat) (p n : Nat) : ((ints l).take (p + n)).drop p = ints ((l.drop p).take n) := by
  rw [ints_take, ints_drop, List.drop_take, Nat.add_sub_cancel_left]
theorem decText_eq {l : List Nat} (hb : ∀ b ∈ l, b < 256) (hl : l.length ≤ 1000000000000000) {p : Nat} (hp : p ≤ l.length) : decText (ints l) p = some (TXp (TX (l.drop p)) p) := by
  unfold decText TX
  rw [decLen_eq hb hl hp]
  cases hd : LN (l.drop p) with
  | error e => rfl
  | ok x =>
    obtain ⟨e1, e2, _⟩ := LN_unique (bytes_drop hb p) hd
    rw [List.length_drop] at e1
    unfold LNp TXp
    rw [Option.bind_some]
    simp only
    rw [ints_len, if_pos (by omega), List.length_drop]
    by_cases c : l.length - p - x.2 < x.1
    · rw [if_pos c, if_pos (by omega)]
    · rw [if_neg c, if_neg (by omega)]
      have e3 : (((p + x.2 : Nat) : Int) + ((x.1 : Nat) : Int)).toNat = p + x.2 + x.1 := by omega
      rw [e3, Int.toNat_natCast, cut_eq, List.drop_drop]
      simp only
      congr 3
      omega
def TT (l : List Nat) : ByteArray × Int × Int := match TX l with
  | .ok x => (str x.1, (x.2 : Int), 0)
  | .error e => (⟨#[]⟩, 0, e)
theorem cText_eq {l : List Nat} (hb : ∀ b ∈ l, b < 256) (hl : l.length ≤ 1000000000000000) : codec_TakeText.f (ints l) = some (TT l) := by
  unfold codec_TakeText.f
  have h := decText_eq hb hl (p := 0) (by omega)
  rw [show ((0 : Nat) : Int) = 0 from rfl, List.drop_zero] at h
  rw [h, Option.bind_some]
  unfold TT TXp
  cases TX l with
  | error e => rfl
  | ok x => simp
theorem TI_err {l : List Nat} {e : Int} (h : D l 0 0 = .error e) : TI l = (0, 0, e) := by unfold TI; rw [h]
theorem TI_ok {l : List Nat} {x : Nat × Nat} (h : D l 0 0 = .ok x) : TI l = (unz x.1, (x.2 : Int), 0) := by unfold TI; rw [h]
theorem D_err : ∀ (l : List Nat) (i z : Nat) (e : Int), D l i z = .error e → e = 6 ∨ e = 28
  | [], _, _, e, h => by
    rw [D] at h
    exact Or.inr (by injection h with h; exact h.symm)
  | c :: t, i, z, e, h => by
    rw [D] at h
    split at h
    · exact Or.inl (by injection h with h; exact h.symm)
    · split at h
      · exact Or.inl (by injection h with h; exact h.symm)
      · split at h
        · cases h
        · exact D_err t _ _ e h
theorem rText_at {l : List Nat} (hb : ∀ b ∈ l, b < 256) (hl : l.length ≤ 1000000000000000) {k : Nat} (hk : 32 ≤ k) : jobshellref03_TakeText.f k (ints l) = some (TT l) := by
  unfold jobshellref03_TakeText.f
  rw [rTake_at hb hk, Option.bind_some]
  unfold TT TX LN
  cases hd : D l 0 0 with
  | error e =>
    rw [TI_err hd]
    have := D_err l 0 0 e hd
    rw [if_neg (by simp only; omega)]
  | ok x =>
    rw [TI_ok hd]
    obtain ⟨z1, e1, e2, _⟩ := D_unique0 hb hd
    simp only
    rw [if_pos trivial]
    by_cases c : x.1 % 2 = 1
    · rw [if_pos c, if_pos (unz_neg c)]
    · rw [if_neg c, unz_pos c, if_neg (by omega)]
      simp only
      rw [ints_len, w64 (x := (l.length : Int) - x.2) (by omega) (by omega)]
      by_cases c2 : l.length - x.2 < x.1 / 2
      · rw [if_pos c2, if_pos (by omega)]
      · have e3 : wrap64 ((x.2 : Int) + ((x.1 / 2 : Nat) : Int)) = ((x.2 + x.1 / 2 : Nat) : Int) := by
          rw [w64 (by omega) (by omega)]
          omega
        rw [if_neg c2, if_neg (by omega), e3, if_pos (by omega), if_pos (by omega), if_pos (by omega), Int.toNat_natCast, Int.toNat_natCast, cut_eq]
        rfl
def TTs (l : List Nat) : List ByteArray × Int × Int := match TTS l with
  | .ok x => (x.1.map str, (x.2 : Int), 0)
  | .error e => ([], 0, e)
theorem cTexts_L (l : List Nat) (hb : ∀ b ∈ l, b < 256) (hl : l.length ≤ 1000000000000000) : ∀ (n p : Nat) (acc : List ByteArray), p ≤ l.length →
    textsL (ints l) n p acc = some (match TXS n (l.drop p) with
      | .ok x => (acc ++ x.1.map str, ((p + x.2 : Nat) : Int), 0)
      | .error e => ([], 0, e))
  | 0, p, acc, hp => by
    rw [textsL, TXS]
    simp
  | n + 1, p, acc, hp => by
    rw [textsL, decText_eq hb hl hp, TXS]
    cases hd : TX (l.drop p) with
    | error e => rfl
    | ok x =>
      obtain ⟨e1, e2, _⟩ := TX_unique (bytes_drop hb p) hd
      rw [List.length_drop] at e1
      unfold TXp
      rw [Option.bind_some]
      simp only
      rw [cTexts_L l hb hl n (p + x.2) _ (by omega), List.drop_drop]
      cases TXS n (l.drop (p + x.2)) with
      | error e => rfl
      | ok y => simp [Nat.add_assoc]
theorem cTexts_eq {l : List Nat} (hb : ∀ b ∈ l, b < 256) (hl : l.length ≤ 100000000) : codec_TakeTexts.f (ints l) = some (TTs l) := by
  unfold codec_TakeTexts.f
  have h := decLen_eq hb (by omega) (p := 0) (by omega)
  rw [show ((0 : Nat) : Int) = 0 from rfl, List.drop_zero] at h
  rw [h]
  unfold TTs TTS LNp
  cases hd : LN l with
  | error e => rfl
  | ok x =>
    obtain ⟨e1, e2, _⟩ := LN_unique hb hd
    rw [Option.bind_some]
    simp only
    rw [ints_len, if_pos (by omega)]
    by_cases c : l.length - x.2 < x.1
    · rw [if_pos c, if_pos (by omega)]
    · rw [if_neg c, if_neg (by omega), if_pos (by omega), Int.toNat_natCast, cTexts_L l hb (by omega) _ _ _ (by omega), Nat.zero_add]
      cases TXS x.1 (l.drop x.2) with
      | error e => rfl
      | ok y => simp
theorem TX_err {l : List Nat} {e : Int} (h : TX l = .error e) : e = 6 ∨ e = 28 := by
  unfold TX LN at h
  cases hd : D l 0 0 with
  | error e' =>
    rw [hd] at h
    have := D_err l 0 0 e' hd
    injection h with h
    omega
  | ok x =>
    rw [hd] at h
    simp only at h
    by_cases c : x.1 % 2 = 1
    · rw [if_pos c] at h
      injection h with h
      omega
    · rw [if_neg c] at h
      simp only at h
      split at h
      · injection h with h
        omega
      · cases h
theorem rTexts_l0 (l : List Nat) (hb : ∀ b ∈ l, b < 256) (hl : l.length ≤ 1000000000000) (N : Nat) (hN : N ≤ 1000000000000) : ∀ (m i p : Nat) (acc : List ByteArray) (k : Nat), i + m = N → p ≤ l.length → acc.length = i → m + 33 ≤ k →
    jobshellref03_TakeTexts.l0 k (ints l) N p acc i = some (match TXS m (l.drop p) with
      | .ok x => (acc ++ x.1.map str, ((p + x.2 : Nat) : Int), 0)
      | .error e => ([], 0, e))
  | 0, i, p, acc, k, hi, hp, ha, hk => by
    obtain ⟨k, rfl⟩ : ∃ j, k = j + 1 := ⟨k - 1, by omega⟩
    rw [jobshellref03_TakeTexts.l0, if_neg (by omega), TXS]
    simp
  | m + 1, i, p, acc, k, hi, hp, ha, hk => by
    obtain ⟨k, rfl⟩ : ∃ j, k = j + 1 := ⟨k - 1, by omega⟩
    rw [jobshellref03_TakeTexts.l0, if_pos (by omega), if_pos (by omega), if_pos (by rw [ints_len]; omega), Int.toNat_natCast, ints_drop, rText_at (bytes_drop hb p) (by rw [List.length_drop]; omega) (by omega), Option.bind_some, TXS]
    unfold TT
    cases hd : TX (l.drop p) with
    | error e =>
      have := TX_err hd
      simp only
      rw [if_neg (by omega)]
    | ok x =>
      obtain ⟨e1, e2, _⟩ := TX_unique (bytes_drop hb p) hd
      rw [List.length_drop] at e1
      have hac : acc.length < 8796093022208 := by omega
      have q1 : i + 1 + m = N := by omega
      have q2 : p + x.2 ≤ l.length := by omega
      have q3 : (acc ++ [str x.1]).length = i + 1 := by rw [List.length_append, List.length_singleton, ha]
      have q4 : m + 33 ≤ k := by omega
      have e3 : wrap64 ((p : Int) + (x.2 : Int)) = ((p + x.2 : Nat) : Int) := by
        rw [w64 (by omega) (by omega)]
        omega
      have e4 : wrap64 ((i : Int) + 1) = ((i + 1 : Nat) : Int) := w64n (n := N) (by omega) (by omega)
      simp only
      rw [if_pos trivial, if_pos hac, e3, e4, rTexts_l0 l hb hl N hN m (i + 1) (p + x.2) _ k q1 q2 q3 q4, List.drop_drop]
      cases TXS m (l.drop (p + x.2)) with
      | error e => rfl
      | ok y => simp [Nat.add_assoc]
theorem rTexts_ev {l : List Nat} (hb : ∀ b ∈ l, b < 256) (hl : l.length ≤ 100000000) : Ev (fun k => jobshellref03_TakeTexts.f k (ints l)) (TTs l) := by
  refine ⟨l.length + 33, fun k hk => ?_⟩
  show jobshellref03_TakeTexts.f k (ints l) = _
  unfold jobshellref03_TakeTexts.f
  rw [rTake_at hb (by omega), Option.bind_some]
  unfold TTs TTS LN
  cases hd : D l 0 0 with
  | error e =>
    rw [TI_err hd]
    have := D_err l 0 0 e hd
    rw [if_neg (by simp only; omega)]
  | ok x =>
    rw [TI_ok hd]
    obtain ⟨z1, e1, e2, _⟩ := D_unique0 hb hd
    simp only
    rw [if_pos trivial]
    by_cases c : x.1 % 2 = 1
    · rw [if_pos c, if_pos (unz_neg c)]
    · rw [if_neg c, unz_pos c, if_neg (by omega)]
      simp only
      rw [ints_len, w64 (x := (l.length : Int) - x.2) (by omega) (by omega)]
      by_cases c2 : l.length - x.2 < x.1 / 2
      · rw [if_pos c2, if_pos (by omega)]
      · rw [if_neg c2, if_neg (by omega)]
        have h := rTexts_l0 l hb (by omega) (x.1 / 2) (by omega) (x.1 / 2) 0 x.2 [] k (by omega) (by omega) rfl (by omega)
        rw [show ((0 : Nat) : Int) = 0 from rfl] at h
        rw [h]
        cases TXS (x.1 / 2) (l.drop x.2) with
        | error e => rfl
        | ok y => simp
theorem sameTexts_l0 (a : List ByteArray) (h : a.length ≤ 1000000000000) : ∀ (m i k : Nat), i + m = a.length → m + 1 ≤ k → jobshellref03_SameTexts.l0 k a a i = some true
  | 0, i, k, hi, hk => by
    obtain ⟨k, rfl⟩ : ∃ j, k = j + 1 := ⟨k - 1, by omega⟩
    rw [jobshellref03_SameTexts.l0, if_neg (by omega)]
  | m + 1, i, k, hi, hk => by
    obtain ⟨k, rfl⟩ : ∃ j, k = j + 1 := ⟨k - 1, by omega⟩
    rw [jobshellref03_SameTexts.l0, if_pos (by omega), if_pos (by omega), if_pos (by omega), if_pos rfl, w64n (n := a.length) (by omega) (by omega)]
    exact sameTexts_l0 a h m (i + 1) k (by omega) (by omega)
theorem sameTexts_ev (a : List ByteArray) (h : a.length ≤ 1000000000000) : Ev (fun k => jobshellref03_SameTexts.f k a a) true := ⟨a.length + 1, fun k hk => by
  show jobshellref03_SameTexts.f k a a = _
  unfold jobshellref03_SameTexts.f
  rw [if_pos rfl]
  exact sameTexts_l0 a h a.length 0 k (by omega) hk⟩
end Go.Proofs.Ytdgdabgbdephnaa.Pure
