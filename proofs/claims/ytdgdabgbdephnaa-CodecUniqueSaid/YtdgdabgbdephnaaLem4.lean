/- Plain lemmas for chapter 03: both programs' TakeInt read by D. No conditions beyond those written at each. -/
import Derived.Test.YtdgdabgbdephnaaLem3
set_option linter.unusedVariables false
set_option linter.unusedSimpArgs false
namespace Go.Proofs.Ytdgdabgbdephnaa.Pure
open Go.RowKit Go.Proofs.Ytdgdabgbdephnaa.Q Go.Proofs.YtdgdabgbdephnaaW.PrintWords Go.Proofs.YtdgdabgbdephnaaW.PrintLast Go.Proofs.YtdgdabgbdephnaaW.PrintMore

theorem acc_lt {i c z : Nat} (h9 : i ≤ 9) (hc : c < 256) (hz : z < 128 ^ i) (h : ¬ (i = 9 ∧ c ≠ 1)) : z + c % 128 * 128 ^ i < 18446744073709551616 := by
  by_cases e : i = 9
  · subst e
    have : c = 1 := by omega
    subst this
    have h2 := pow_lt (i := 9) (by omega)
    omega
  · have h1 := step_lt h9 hc hz
    have h2 := pow_lt (i := i + 1) (by omega)
    omega
/-- D's answer behind p digits. -/
def Dp (r : Except Int (Nat × Nat)) (p i : Nat) : Except Int (Int × Int) := match r with
  | .ok x => .ok (unz x.1, ((p + x.2 - i : Nat) : Int))
  | .error e => .error e
theorem decL_eq (l : List Nat) (hb : ∀ b ∈ l, b < 256) : ∀ (m i z p : Nat), i + m = 10 → 1 ≤ m → z < 128 ^ i → p ≤ l.length →
    decL (ints l) m z i p = some (Dp (D (l.drop p) i z) p i)
  | 0, _, _, _, _, h, _, _ => absurd h (by omega)
  | m + 1, i, z, p, hm, _, hz, hp => by
    rw [decL, ints_len]
    by_cases c1 : (l.length : Int) ≤ (p : Int)
    · rw [if_pos c1, List.drop_eq_nil_of_le (by omega)]
      rfl
    rw [if_neg c1, drop_cons (by omega), rd_ints, D]
    have h8 := getD_lt hb p
    generalize l.getD p 0 = c at h8
    by_cases c2 : i = 9 ∧ c ≠ 1
    · rw [if_pos c2, if_pos (by omega)]
      rfl
    rw [if_neg c2, if_neg (by omega)]
    by_cases c3 : 0 < i ∧ c = 0
    · rw [if_pos c3, if_pos (by omega)]
      rfl
    rw [if_neg c3, if_neg (by omega), decNext_eq (by omega) h8 hz c2]
    have ha := acc_lt (by omega) h8 hz c2
    by_cases c4 : c < 128
    · rw [if_pos c4, if_pos (by omega), decFin_eq ha, Nat.mod_eq_of_lt c4]
      show _ = some (Except.ok _)
      congr 3
      simp only
      omega
    · have e : c % 128 = c - 128 := by omega
      have h1 := step_lt (by omega) h8 hz
      rw [e] at h1
      rw [if_neg c4, if_neg (by omega), e, show ((i : Int) + 1) = ((i + 1 : Nat) : Int) by omega, show ((p : Int) + 1) = ((p + 1 : Nat) : Int) by omega,
        decL_eq l hb m (i + 1) _ (p + 1) (by omega) (by omega) h1 (by omega)]
      congr 1
      unfold Dp
      cases D (l.drop (p + 1)) (i + 1) (z + (c - 128) * 128 ^ i) with
      | error e => rfl
      | ok x =>
        simp only
        congr 3
        omega
theorem decI_eq {l : List Nat} (hb : ∀ b ∈ l, b < 256) (hl : l.length ≤ 1000000000000000) {p : Nat} (hp : p ≤ l.length) : decI (ints l) p = some (Dp (D (l.drop p) 0 0) p 0) := by
  unfold decI
  rw [if_pos (by rw [ints_len]; omega)]
  exact decL_eq l hb 10 0 0 p (by omega) (by omega) (by decide) hp
def TI (l : List Nat) : Int × Int × Int := match D l 0 0 with
  | .ok x => (unz x.1, (x.2 : Int), 0)
  | .error e => (0, 0, e)
theorem cTake_eq {l : List Nat} (hb : ∀ b ∈ l, b < 256) (hl : l.length ≤ 1000000000000000) : codec_TakeInt.f (ints l) = some (TI l) := by
  unfold codec_TakeInt.f
  have h := decI_eq hb hl (p := 0) (by omega)
  rw [show ((0 : Nat) : Int) = 0 from rfl, List.drop_zero] at h
  rw [h, Option.bind_some]
  unfold TI Dp
  cases D l 0 0 with
  | error e => rfl
  | ok x => simp
theorem rTake_l0 (l : List Nat) (hb : ∀ b ∈ l, b < 256) : ∀ (m i z k : Nat), i + m = 10 → 1 ≤ m → z < 128 ^ i → i ≤ l.length → 3 * m + 2 ≤ k →
    jobshellref03_TakeInt.l0 k (ints l) z i = some (match D (l.drop i) i z with
      | .ok x => (unz x.1, (x.2 : Int), 0)
      | .error e => (0, 0, e))
  | 0, _, _, _, _, h, _, _, _ => absurd h (by omega)
  | m + 1, i, z, k, hm, _, hz, hp, hk => by
    obtain ⟨k, rfl⟩ : ∃ j, k = j + 3 := ⟨k - 3, by omega⟩
    rw [jobshellref03_TakeInt.l0, if_pos (by omega), ints_len]
    by_cases c1 : (i : Int) < (l.length : Int)
    case neg =>
      rw [decide_eq_false c1, jobshellref03_TakeInt.j1, if_neg (by decide), List.drop_eq_nil_of_le (by omega)]
      rfl
    rw [decide_eq_true c1, jobshellref03_TakeInt.j1, if_pos rfl, ints_len, rd_ints, drop_cons (by omega), D]
    have h8 := getD_lt hb i
    have hrd := rd_ints l i
    generalize l.getD i 0 = c at h8 hrd
    by_cases c2 : i = 9 ∧ c ≠ 1
    · rw [if_pos c2, if_pos (by omega), if_pos (by omega), if_pos c1, if_neg (by omega), jobshellref03_TakeInt.j2, if_pos rfl]
    by_cases c3 : 0 < i ∧ c = 0
    · rw [if_neg c2, if_pos c3]
      have e3 : (((c : Nat) : Int) == 0) = true := beq_iff_eq.mpr (by omega)
      rw [if_neg (show ¬ ((i : Int) = 9) by omega), if_pos (by omega), if_pos (by omega), if_pos c1, e3, jobshellref03_TakeInt.j2, if_pos rfl]
    rw [if_neg c2, if_neg c3]
    have i0 : (0 : Int) ≤ (i : Int) := Int.natCast_nonneg i
    have i7 : (0 : Int) ≤ 7 * (i : Int) := by omega
    have hge : c < 128 → ¬ ((c : Int) ≥ 128) := by omega
    have hge2 : ¬ c < 128 → ((c : Int) ≥ 128) := by omega
    have ha := acc_lt (by omega) h8 hz c2
    have hd := digit_lt (by omega) h8 c2
    have h1 := step_lt (by omega) h8 hz
    have e7 : IntKind.u64.wrap (wrap64 (7 * (i : Int))) = 7 * (i : Int) := by
      rw [w64 (by omega) (by omega), IntKind.wrap_u64]
      omega
    have es : IntKind.u64.wrap ((z : Int) + (shl .u64 (IntKind.u64.wrap (Int.tmod (c : Int) 128)) (7 * (i : Int)))) = ((z + c % 128 * 128 ^ i : Nat) : Int) := by
      unfold shl
      rw [Int.tmod_eq_emod_of_nonneg (by omega), show (c : Int) % 128 = ((c % 128 : Nat) : Int) by omega, IntKind.wrap_u64, IntKind.wrap_u64, IntKind.wrap_u64,
        show min (7 * (i : Int)).toNat IntKind.u64.bits = (7 * (i : Int)).toNat by rw [show IntKind.u64.bits = 64 from rfl]; omega, two7, Int.emod_eq_of_lt (a := ((c % 128 : Nat) : Int)) (by omega) (by omega), ← Int.natCast_mul, Int.emod_eq_of_lt (a := ((c % 128 * 128 ^ i : Nat) : Int)) (by omega) (by omega), ← Int.natCast_add, Int.emod_eq_of_lt (by omega) (by omega)]
    have w1 : wrap64 ((i : Int) + 1) = ((i + 1 : Nat) : Int) := w64n (n := 10) (by omega) (by omega)
    have goal : jobshellref03_TakeInt.j2 (k + 1) (ints l) z i false = some (match (if c < 128 then .ok (z + c * 128 ^ i, i + 1) else D (l.drop (i + 1)) (i + 1) (z + (c - 128) * 128 ^ i) : Except Int (Nat × Nat)) with
        | .ok x => (unz x.1, (x.2 : Int), 0)
        | .error e => (0, 0, e)) := by
      rw [jobshellref03_TakeInt.j2, if_neg (by decide), if_pos i0, ints_len, if_pos c1, e7, if_pos i7, hrd, es, w1]
      clear es w1 e7
      by_cases c4 : c < 128
      · rw [if_neg (hge c4), if_pos c4]
        have e5 : c % 128 = c := Nat.mod_eq_of_lt c4
        rw [e5] at ha ⊢
        generalize z + c * 128 ^ i = y at ha
        rw [Int.tmod_eq_emod_of_nonneg (by omega), Int.tdiv_eq_ediv_of_nonneg (by omega), show IntKind.u64.wrap ((y : Int) / 2) = ((y / 2 : Nat) : Int) by rw [IntKind.wrap_u64]; omega, w64 (x := ((y / 2 : Nat) : Int)) (by omega) (by omega)]
        rw [w64 (x := -((y / 2 : Nat) : Int)) (by omega) (by omega), w64 (by omega) (by omega)]
        simp only
        unfold unz
        by_cases c6 : y % 2 = 1
        · rw [if_pos (by omega), if_pos c6]
        · rw [if_neg (by omega), if_neg c6]
      · have e5 : c % 128 = c - 128 := by omega
        rw [e5] at h1
        rw [if_pos (hge2 c4), if_neg c4, e5]
        exact rTake_l0 l hb m (i + 1) _ k (by omega) (by omega) h1 (by omega) (by omega)
    rw [← goal]
    clear es w1 e7 goal
    have e3 : 0 < i → (((c : Nat) : Int) == 0) = false := fun h => beq_eq_false_iff_ne.mpr (by omega)
    by_cases c9 : i = 9
    · rw [if_pos (by omega), if_pos (by omega), if_pos c1, if_pos (by omega), if_pos (by omega), e3 (by omega)]
    · rw [if_neg (by omega)]
      by_cases c0 : 0 < i
      · rw [if_pos (by omega), if_pos (by omega), if_pos c1, e3 c0]
      · rw [if_neg (by omega)]
theorem rTake_at {l : List Nat} (hb : ∀ b ∈ l, b < 256) {k : Nat} (hk : 32 ≤ k) : jobshellref03_TakeInt.f k (ints l) = some (TI l) := by
  unfold jobshellref03_TakeInt.f
  exact rTake_l0 l hb 10 0 0 k (by omega) (by omega) (by decide) (by omega) hk
theorem rTake_ev {l : List Nat} (hb : ∀ b ∈ l, b < 256) : Ev (fun k => jobshellref03_TakeInt.f k (ints l)) (TI l) := ⟨32, fun k hk => rTake_at hb hk⟩
theorem same_self (a : List Int) : jobshellref03_SameBytes.f a a = some true := by
  unfold jobshellref03_SameBytes.f
  rw [beq_self_eq_true]
theorem TI_E {n : Int} (h : okI n) (r : List Nat) : TI (E (zig n) ++ r) = (n, ((E (zig n)).length : Int), 0) := by
  unfold TI
  rw [D_E0 r (zig_lt h)]
  simp only [unz_zig]
theorem TI_E_pre {n : Int} (h : okI n) {j : Nat} (hj : j < (E (zig n)).length) : TI ((E (zig n)).take j) = (0, 0, 28) := by
  unfold TI
  rw [D_E0_pre (zig_lt h) hj]
theorem ints_app (a b : List Nat) : ints (a ++ b) = ints a ++ ints b := List.map_append
theorem ints_take (a : List Nat) (n : Nat) : (ints a).take n = ints (a.take n) := by unfold ints; rw [List.map_take]
theorem ints_drop (a : List Nat) (n : Nat) : (ints a).drop n = ints (a.drop n) := by unfold ints; rw [List.map_drop]
theorem bytes_app {a b : List Nat} (ha : ∀ x ∈ a, x < 256) (hb : ∀ x ∈ b, x < 256) : ∀ x ∈ a ++ b, x < 256 := fun x h => (List.mem_append.1 h).elim (ha x) (hb x)
theorem bytes_take {a : List Nat} (ha : ∀ x ∈ a, x < 256) (n : Nat) : ∀ x ∈ a.take n, x < 256 := fun x h => ha x (List.mem_of_mem_take h)
theorem bytes_drop {a : List Nat} (ha : ∀ x ∈ a, x < 256) (n : Nat) : ∀ x ∈ a.drop n, x < 256 := fun x h => ha x (List.mem_of_mem_drop h)
end Go.Proofs.Ytdgdabgbdephnaa.Pure
