/- Plain lemmas for chapter 03: the checksum (CRC-32C) as numbers: both programs reckon it, and it changes when one byte changes. No conditions beyond those written at each. -/
import Derived.Test.YtdgdabgbdephnaaQ9
import Derived.Test.YtdgdabgbdephnaaQ4
import Derived.Laws.BitsAllLaws
set_option linter.unusedVariables false
set_option linter.unusedSimpArgs false
namespace Go.Proofs.Ytdgdabgbdephnaa.Pure
open Go.RowKit Go.Proofs.Ytdgdabgbdephnaa.Q Go.Proofs.YtdgdabgbdephnaaW.PrintWords Go.Proofs.YtdgdabgbdephnaaW.PrintLast Go.Proofs.YtdgdabgbdephnaaW.PrintMore

theorem ev_at1 {α : Type} {g : Nat → Option α} {r : α} (h : ∀ k, g (k + 1) = some r) : Ev g r := ⟨1, fun k hk => by
  obtain ⟨m, rfl⟩ : ∃ m, k = m + 1 := ⟨k - 1, by omega⟩
  exact h m⟩
theorem ev_const {α : Type} {r : α} : Ev (fun _ => some r) r := ⟨0, fun _ _ => rfl⟩
theorem ev_eq {α : Type} {g : Nat → Option α} {r r' : α} (h : Ev g r) (e : r = r') : Ev g r' := e ▸ h
theorem w64 {x : Int} (h0 : -9223372036854775808 ≤ x) (h1 : x ≤ 9223372036854775807) : wrap64 x = x := by
  unfold wrap64
  omega
theorem w64n {i n : Nat} (h : i ≤ n) (hn : n ≤ 1000000000000000) : wrap64 ((i : Int) + 1) = ((i + 1 : Nat) : Int) := by
  rw [w64 (by omega) (by omega)]
  omega

theorem ev_some {α β : Type} {a : α} {f : Nat → α → Option β} {r : β} (h : Ev (fun k => f k a) r) : Ev (fun k => (some a).bind (f k)) r := h
theorem ev_given {α β : Type} {x : Option α} {a : α} {f : Nat → α → Option β} {r : β} (hx : x = some a) (h : Ev (fun k => f k a) r) : Ev (fun k => x.bind (f k)) r := by
  subst hx
  exact h
theorem ev_if {β : Type} {c : Prop} [Decidable c] {f g : Nat → Option β} {r : β} (hc : c) (h : Ev f r) : Ev (fun k => if c then f k else g k) r := Ev.congr (fun k => if_pos hc) h
theorem ev_else {β : Type} {c : Prop} [Decidable c] {f g : Nat → Option β} {r : β} (hc : ¬ c) (h : Ev g r) : Ev (fun k => if c then f k else g k) r := Ev.congr (fun k => if_neg hc) h
/-- Numbers as the ints of a list of bytes. -/
def ints (l : List Nat) : List Int := l.map fun (n : Nat) => (n : Int)
theorem ints_len (l : List Nat) : (ints l).length = l.length := List.length_map _
theorem rd_ints (l : List Nat) (i : Nat) : rd (ints l) (i : Int) = ((l.getD i 0 : Nat) : Int) := by
  unfold rd ints
  rw [Int.toNat_natCast, List.getD_eq_getElem?_getD, List.getD_eq_getElem?_getD, List.getElem?_map]
  cases l[i]? <;> rfl
theorem ints_of {l : List Int} (h : ∀ y ∈ l, (Lit.int .u8 y).wf = true) : ∃ m : List Nat, l = ints m ∧ ∀ b ∈ m, b < 256 := by
  induction l with
  | nil => exact ⟨[], rfl, fun b hb => by cases hb⟩
  | cons x t ih =>
    obtain ⟨m, rfl, hm⟩ := ih (fun y hy => h y (List.mem_cons_of_mem _ hy))
    have hx := h x List.mem_cons_self
    have hx' : 0 ≤ x ∧ x < 256 := by
      simp [Lit.wf, IntKind.min, IntKind.max, IntKind.bits, IntKind.signed] at hx
      omega
    refine ⟨x.toNat :: m, ?_, fun b hb => ?_⟩
    · simp only [ints, List.map_cons]
      rw [Int.toNat_of_nonneg hx'.1]
    · rcases List.mem_cons.1 hb with rfl | hb
      · omega
      · exact hm b hb

/-! ### one step of the checksum -/
def st (c : Nat) : Nat := if c % 2 = 1 then (c / 2) ^^^ 2197175160 else c / 2
def sts : Nat → Nat → Nat
  | 0, c => c
  | n + 1, c => sts n (st c)
def cb (c b : Nat) : Nat := sts 8 (c ^^^ b)
def crc (c : Nat) (l : List Nat) : Nat := l.foldl cb c
theorem st_lt {c : Nat} (h : c < 4294967296) : st c < 4294967296 := by
  unfold st
  split
  · exact Nat.xor_lt_two_pow (n := 32) (by omega) (by omega)
  · omega
theorem sts_lt : ∀ (n : Nat) {c : Nat}, c < 4294967296 → sts n c < 4294967296
  | 0, _, h => h
  | n + 1, _, h => sts_lt n (st_lt h)
theorem cb_lt {c b : Nat} (h : c < 4294967296) (hb : b < 256) : cb c b < 4294967296 := sts_lt 8 (Nat.xor_lt_two_pow (n := 32) (by omega) (by omega))
theorem crc_lt : ∀ (l : List Nat) {c : Nat}, c < 4294967296 → (∀ b ∈ l, b < 256) → crc c l < 4294967296
  | [], _, h, _ => h
  | b :: l, _, h, hb => crc_lt l (cb_lt h (hb b List.mem_cons_self)) (fun x hx => hb x (List.mem_cons_of_mem _ hx))
theorem top_bit {a b : Nat} (ha : a < 2147483648) (hb : b < 2147483648) : a ^^^ 2197175160 ≠ b := by
  intro h
  have h1 : (a ^^^ 2197175160).testBit 31 = true := by
    rw [Nat.testBit_xor, Nat.testBit_lt_two_pow (x := a) (i := 31) (by omega)]
    decide
  rw [h, Nat.testBit_lt_two_pow (x := b) (i := 31) (by omega)] at h1
  cases h1
theorem xor_cancel {a b c : Nat} (h : a ^^^ c = b ^^^ c) : a = b := by
  have := congrArg (· ^^^ c) h
  simpa [Nat.xor_assoc] using this
theorem xor_cancel' {a b c : Nat} (h : c ^^^ a = c ^^^ b) : a = b := by
  rw [Nat.xor_comm c a, Nat.xor_comm c b] at h
  exact xor_cancel h
theorem st_inj {a b : Nat} (ha : a < 4294967296) (hb : b < 4294967296) (h : st a = st b) : a = b := by
  unfold st at h
  split at h <;> split at h
  · have := xor_cancel h
    omega
  · exact absurd h (top_bit (by omega) (by omega))
  · exact absurd h.symm (top_bit (by omega) (by omega))
  · omega
theorem sts_inj : ∀ (n : Nat) {a b : Nat}, a < 4294967296 → b < 4294967296 → sts n a = sts n b → a = b
  | 0, _, _, _, _, h => h
  | n + 1, _, _, ha, hb, h => st_inj ha hb (sts_inj n (st_lt ha) (st_lt hb) h)
theorem cb_inj {c c' b : Nat} (hc : c < 4294967296) (hc' : c' < 4294967296) (hb : b < 256) (h : cb c b = cb c' b) : c = c' :=
  xor_cancel (sts_inj 8 (Nat.xor_lt_two_pow (n := 32) (by omega) (by omega)) (Nat.xor_lt_two_pow (n := 32) (by omega) (by omega)) h)
theorem cb_inj' {c b b' : Nat} (hc : c < 4294967296) (hb : b < 256) (hb' : b' < 256) (h : cb c b = cb c b') : b = b' :=
  xor_cancel' (sts_inj 8 (Nat.xor_lt_two_pow (n := 32) (by omega) (by omega)) (Nat.xor_lt_two_pow (n := 32) (by omega) (by omega)) h)
theorem crc_inj : ∀ (l : List Nat) {c c' : Nat}, c < 4294967296 → c' < 4294967296 → (∀ b ∈ l, b < 256) → crc c l = crc c' l → c = c'
  | [], _, _, _, _, _, h => h
  | b :: l, _, _, hc, hc', hb, h => by
    have h8 := hb b List.mem_cons_self
    exact cb_inj hc hc' h8 (crc_inj l (cb_lt hc h8) (cb_lt hc' h8) (fun x hx => hb x (List.mem_cons_of_mem _ hx)) h)
/-- One byte changed: another checksum. -/
theorem crc_set : ∀ (l : List Nat) (i : Nat) (x c : Nat), c < 4294967296 → (∀ b ∈ l, b < 256) → (h : i < l.length) → x < 256 → x ≠ l[i] → crc c (l.set i x) ≠ crc c l
  | b :: l, 0, x, c, hc, hb, _, hx, hne => fun h => by
    have h8 := hb b List.mem_cons_self
    exact hne (cb_inj' hc hx h8 (crc_inj l (cb_lt hc hx) (cb_lt hc h8) (fun y hy => hb y (List.mem_cons_of_mem _ hy)) h))
  | b :: l, i + 1, x, c, hc, hb, hi, hx, hne => fun h => by
    have h8 := hb b List.mem_cons_self
    exact crc_set l i x (cb c b) (cb_lt hc h8) (fun y hy => hb y (List.mem_cons_of_mem _ hy)) (by simpa using hi) hx hne h
def sum (l : List Nat) : Nat := 4294967295 - crc 4294967295 l
theorem sum_lt {l : List Nat} (hl : ∀ b ∈ l, b < 256) : sum l < 4294967296 := by unfold sum; omega
theorem sum_set {l : List Nat} {i x : Nat} (hl : ∀ b ∈ l, b < 256) (h : i < l.length) (hx : x < 256) (hne : x ≠ l[i]) : sum (l.set i x) ≠ sum l := by
  have h1 := crc_set l i x 4294967295 (by omega) hl h hx hne
  have h2 := crc_lt l (c := 4294967295) (by omega) hl
  have h3 := crc_lt (l.set i x) (c := 4294967295) (by omega) (fun b hb => by
    rcases List.mem_or_eq_of_mem_set hb with h | rfl
    · exact hl b h
    · exact hx)
  unfold sum
  omega

/-! ### the programs reckon it -/
theorem xor32 (a : Nat) (h : a < 4294967296) : 4294967295 ^^^ a = 4294967295 - a := by
  have h1 : (4294967295 : Nat) - a = 2 ^ 32 - (a + 1) := by omega
  rw [h1]
  apply Nat.eq_of_testBit_eq
  intro i
  rw [Nat.testBit_xor, Nat.testBit_two_pow_sub_succ (by omega), show (4294967295 : Nat) = 2 ^ 32 - 1 by decide, Nat.testBit_two_pow_sub_one]
  by_cases hi : i < 32
  · simp [hi]
  · simp only [hi, decide_false, Bool.false_and, Bool.false_bne, Bool.false_xor]
    exact Nat.testBit_lt_two_pow (Nat.lt_of_lt_of_le h (by rw [show (4294967296 : Nat) = 2 ^ 32 by decide]; exact Nat.pow_le_pow_right (by omega) (by omega)))
theorem and1 (c : Nat) (h : c < 4294967296) : Go.bits .and .u32 (c : Int) 1 = ((c % 2 : Nat) : Int) := by
  rw [show (1 : Int) = ((1 : Nat) : Int) from rfl, u32_and_nat c 1 h (by omega), Nat.and_one_is_mod]
theorem xorP (c : Nat) (h : c < 4294967296) : Go.bits .xor .u32 (c : Int) 2197175160 = ((c ^^^ 2197175160 : Nat) : Int) := by
  rw [show (2197175160 : Int) = ((2197175160 : Nat) : Int) from rfl, u32_xor_nat c _ h (by omega)]
theorem drop_cons {l : List Nat} {i : Nat} (h : i < l.length) : l.drop i = l.getD i 0 :: l.drop (i + 1) := by
  rw [List.drop_eq_getElem_cons h, List.getD_eq_getElem?_getD, List.getElem?_eq_getElem h]
  rfl
theorem getD_lt {l : List Nat} (hl : ∀ b ∈ l, b < 256) (i : Nat) : l.getD i 0 < 256 := by
  rw [List.getD_eq_getElem?_getD]
  cases h : l[i]? with
  | none => decide
  | some b => exact hl b (List.mem_of_getElem? h)

theorem cSum_l1 (l : List Nat) (i : Nat) (hi : i < l.length) (hl : l.length ≤ 1000000000000000) (r : Int) (K : Nat) : ∀ (n : Nat), n ≤ 8 → ∀ (c : Nat), c < 4294967296 →
    (∀ k, K ≤ k → codec_Sum.l0 k (sts n c : Nat) (ints l) l.length ((i + 1 : Nat) : Int) = some r) →
    ∀ k, K + n + 1 ≤ k → codec_Sum.l1 k c (ints l) l.length i ((8 - n : Nat) : Int) = some r
  | 0, _, c, hc, h, k, hk => by
    obtain ⟨k, rfl⟩ : ∃ m, k = m + 1 := ⟨k - 1, by omega⟩
    rw [codec_Sum.l1, if_neg (by decide), w64n (Nat.le_of_lt hi) hl]
    exact h k (by omega)
  | n + 1, hn, c, hc, h, k, hk => by
    obtain ⟨k, rfl⟩ : ∃ m, k = m + 1 := ⟨k - 1, by omega⟩
    have h2 := cSum_l1 l i hi hl r K n (by omega) (st c) (st_lt hc) h k (by omega)
    have e : wrap64 (((8 - (n + 1) : Nat) : Int) + 1) = ((8 - n : Nat) : Int) := by
      rw [w64 (by omega) (by omega)]
      omega
    rw [codec_Sum.l1, if_pos (by omega), and1 c hc, e]
    unfold st at h2
    by_cases h1 : c % 2 = 1
    · rw [if_pos h1] at h2
      rw [if_pos (by rw [h1]; rfl), show (c : Int) / 2 = ((c / 2 : Nat) : Int) by omega, xorP _ (by omega)]
      exact h2
    · rw [if_neg h1] at h2
      rw [if_neg (by omega), show (c : Int) / 2 = ((c / 2 : Nat) : Int) by omega]
      exact h2
theorem cSum_l0 (l : List Nat) (hb : ∀ b ∈ l, b < 256) (hl : l.length ≤ 1000000000000000) : ∀ (n i : Nat), i + n = l.length → ∀ (c : Nat), c < 4294967296 →
    ∀ k, 10 * n + 1 ≤ k → codec_Sum.l0 k c (ints l) l.length i = some ((4294967295 - crc c (l.drop i) : Nat) : Int)
  | 0, i, hi, c, hc, k, hk => by
    obtain ⟨k, rfl⟩ : ∃ m, k = m + 1 := ⟨k - 1, by omega⟩
    rw [codec_Sum.l0, if_neg (by omega), List.drop_eq_nil_of_le (by omega), show (4294967295 : Int) = ((4294967295 : Nat) : Int) from rfl, u32_xor_nat _ c (by omega) hc, xor32 c hc, w64 (by omega) (by omega)]
    rfl
  | n + 1, i, hi, c, hc, k, hk => by
    obtain ⟨k, rfl⟩ : ∃ m, k = m + 1 := ⟨k - 1, by omega⟩
    have h8 := getD_lt hb i
    have hx : c ^^^ l.getD i 0 < 4294967296 := Nat.xor_lt_two_pow (n := 32) (by omega) (by omega)
    rw [codec_Sum.l0, if_pos (by omega), if_pos (by omega), if_pos (by rw [ints_len]; omega), rd_ints, Int.emod_eq_of_lt (by omega) (by omega), u32_xor_nat c _ hc (by omega), drop_cons (by omega)]
    exact cSum_l1 l i (by omega) hl _ (10 * n + 1) 8 (by omega) _ hx (fun k2 hk2 => cSum_l0 l hb hl n (i + 1) (by omega) _ (sts_lt 8 hx) k2 hk2) k (by omega)
theorem cSum_at (l : List Nat) (hb : ∀ b ∈ l, b < 256) (hl : l.length ≤ 1000000000000000) (k : Nat) (hk : 10 * l.length + 1 ≤ k) : codec_Sum.f k (ints l) = some ((sum l : Nat) : Int) := by
  unfold codec_Sum.f
  rw [ints_len]
  exact cSum_l0 l hb hl l.length 0 (by omega) 4294967295 (by omega) k hk
theorem cSum_ev (l : List Nat) (hb : ∀ b ∈ l, b < 256) (hl : l.length ≤ 1000000000000000) : Ev (fun k => codec_Sum.f k (ints l)) ((sum l : Nat) : Int) := ⟨_, fun k hk => cSum_at l hb hl k hk⟩

theorem rSum_l1 (l : List Nat) (i : Nat) (hi : i < l.length) (hl : l.length ≤ 1000000000000000) (r : Int) (K : Nat) : ∀ (n : Nat), n ≤ 8 → ∀ (c : Nat), c < 4294967296 →
    (∀ k, K ≤ k → jobshellref03_Sum.l0 k (ints l) (sts n c : Nat) ((i + 1 : Nat) : Int) = some r) →
    ∀ k, K + n + 1 ≤ k → jobshellref03_Sum.l1 k (ints l) c i ((8 - n : Nat) : Int) = some r
  | 0, _, c, hc, h, k, hk => by
    obtain ⟨k, rfl⟩ : ∃ m, k = m + 1 := ⟨k - 1, by omega⟩
    rw [jobshellref03_Sum.l1, if_neg (by decide), w64n (Nat.le_of_lt hi) hl]
    exact h k (by omega)
  | n + 1, hn, c, hc, h, k, hk => by
    obtain ⟨k, rfl⟩ : ∃ m, k = m + 1 := ⟨k - 1, by omega⟩
    have h2 := rSum_l1 l i hi hl r K n (by omega) (st c) (st_lt hc) h k (by omega)
    have e : wrap64 (((8 - (n + 1) : Nat) : Int) + 1) = ((8 - n : Nat) : Int) := by
      rw [w64 (by omega) (by omega)]
      omega
    have ed : (Int.tdiv (c : Int) 2) % 4294967296 = ((c / 2 : Nat) : Int) := by
      rw [Int.tdiv_eq_ediv_of_nonneg (by omega)]
      omega
    have em : Int.tmod (c : Int) 2 = ((c % 2 : Nat) : Int) := by
      rw [Int.tmod_eq_emod_of_nonneg (by omega)]
      omega
    rw [jobshellref03_Sum.l1, if_pos (by omega), em, ed, e]
    unfold st at h2
    by_cases h1 : c % 2 = 1
    · rw [if_pos h1] at h2
      rw [if_pos (by rw [h1]; rfl), xorP _ (by omega)]
      exact h2
    · rw [if_neg h1] at h2
      rw [if_neg (by omega)]
      exact h2
theorem rSum_l0 (l : List Nat) (hb : ∀ b ∈ l, b < 256) (hl : l.length ≤ 1000000000000000) : ∀ (n i : Nat), i + n = l.length → ∀ (c : Nat), c < 4294967296 →
    ∀ k, 10 * n + 1 ≤ k → jobshellref03_Sum.l0 k (ints l) c i = some ((4294967295 - crc c (l.drop i) : Nat) : Int)
  | 0, i, hi, c, hc, k, hk => by
    obtain ⟨k, rfl⟩ : ∃ m, k = m + 1 := ⟨k - 1, by omega⟩
    rw [jobshellref03_Sum.l0, if_neg (by rw [ints_len]; omega), List.drop_eq_nil_of_le (by omega), Int.emod_eq_of_lt (by omega) (by omega)]
    refine congrArg some ?_
    show (4294967295 : Int) - c = ((4294967295 - c : Nat) : Int)
    omega
  | n + 1, i, hi, c, hc, k, hk => by
    obtain ⟨k, rfl⟩ : ∃ m, k = m + 1 := ⟨k - 1, by omega⟩
    have h8 := getD_lt hb i
    have hx : c ^^^ l.getD i 0 < 4294967296 := Nat.xor_lt_two_pow (n := 32) (by omega) (by omega)
    rw [jobshellref03_Sum.l0, if_pos (by rw [ints_len]; omega), if_pos (by omega), rd_ints, Int.emod_eq_of_lt (by omega) (by omega), u32_xor_nat c _ hc (by omega), drop_cons (by omega)]
    exact rSum_l1 l i (by omega) hl _ (10 * n + 1) 8 (by omega) _ hx (fun k2 hk2 => rSum_l0 l hb hl n (i + 1) (by omega) _ (sts_lt 8 hx) k2 hk2) k (by omega)
theorem rSum_ev (l : List Nat) (hb : ∀ b ∈ l, b < 256) (hl : l.length ≤ 1000000000000000) : Ev (fun k => jobshellref03_Sum.f k (ints l)) ((sum l : Nat) : Int) := ⟨10 * l.length + 1, fun k hk => rSum_l0 l hb hl l.length 0 (by omega) 4294967295 (by omega) k hk⟩
end Go.Proofs.Ytdgdabgbdephnaa.Pure
