/- Plain lemmas for chapter 03: PutInt writes E of the zigzag number, TakeInt reads by D, in both programs. No conditions beyond those written at each. -/
import Derived.Test.YtdgdabgbdephnaaLem2
set_option linter.unusedVariables false
set_option linter.unusedSimpArgs false
namespace Go.Proofs.Ytdgdabgbdephnaa.Pure
open Go.RowKit Go.Proofs.Ytdgdabgbdephnaa.Q Go.Proofs.YtdgdabgbdephnaaW.PrintWords Go.Proofs.YtdgdabgbdephnaaW.PrintLast Go.Proofs.YtdgdabgbdephnaaW.PrintMore

def zig (n : Int) : Nat := if n < 0 then (-2 * n - 1).toNat else (2 * n).toNat
def unz (z : Nat) : Int := if z % 2 = 1 then -((z / 2 : Nat) : Int) - 1 else ((z / 2 : Nat) : Int)
def okI (n : Int) : Prop := -9223372036854775808 ≤ n ∧ n ≤ 9223372036854775807
theorem okI_of {n : Int} (h : (Lit.int .i64 n).wf = true) : okI n := by
  simp [Lit.wf, IntKind.min, IntKind.max, IntKind.bits, IntKind.signed] at h
  exact ⟨by omega, by omega⟩
theorem zig_lt {n : Int} (h : okI n) : zig n < 18446744073709551616 := by
  obtain ⟨h1, h2⟩ := h
  unfold zig
  split <;> omega
theorem unz_zig {n : Int} : unz (zig n) = n := by
  unfold unz zig
  split <;> split <;> omega
theorem zig_unz (z : Nat) : zig (unz z) = z := by
  unfold unz zig
  split <;> split <;> omega
theorem unz_ok {z : Nat} (h : z < 18446744073709551616) : okI (unz z) := by
  unfold okI unz
  split <;> omega
/-! ### writing -/
theorem or128 : ∀ a : Fin 256, a.val ||| 128 = a.val % 128 + 128 := by decide +kernel
theorem cPut_l0 : ∀ (m z : Nat) (acc : List Int) (k : Nat), z < 128 ^ m → m + 1 ≤ k → acc.length + m ≤ 1000 → codec_PutInt.l0 k z acc = some (acc ++ ints (E z))
  | m, z, acc, k, hz, hk, ha => by
    obtain ⟨k, rfl⟩ : ∃ j, k = j + 1 := ⟨k - 1, by omega⟩
    rw [codec_PutInt.l0]
    by_cases c : 128 ≤ z
    · rw [if_pos (by omega), if_pos (by omega)]
      match m with
      | 0 => omega
      | m + 1 =>
        have h8 : Go.bits .or .u8 ((z : Int) % 256) 128 = ((z % 128 + 128 : Nat) : Int) := by
          rw [show (z : Int) % 256 = ((z % 256 : Nat) : Int) by omega, show (128 : Int) = ((128 : Nat) : Int) from rfl, u8_or_nat _ _ (by omega) (by omega)]
          have h9 := or128 ⟨z % 256, by omega⟩
          simp only at h9
          rw [h9]
          omega
        rw [h8, show (z : Int) / 128 = ((z / 128 : Nat) : Int) by omega, cPut_l0 m (z / 128) _ k (by rw [Nat.div_lt_iff_lt_mul (by omega)]; rw [Nat.pow_succ] at hz; exact hz) (by omega) (by rw [List.length_append, List.length_singleton]; omega)]
        rw [E_big c]
        simp [ints]
    · rw [if_neg (by omega), if_pos (by omega), E_small (by omega), Int.emod_eq_of_lt (by omega) (by omega)]
      rfl
theorem rPut_l0 : ∀ (m z : Nat) (acc : List Int) (k : Nat), z < 18446744073709551616 → z < 128 ^ m → m + 1 ≤ k → acc.length + m ≤ 1000 → jobshellref03_PutInt.l0 k z acc = some (acc ++ ints (E z))
  | m, z, acc, k, hq, hz, hk, ha => by
    obtain ⟨k, rfl⟩ : ∃ j, k = j + 1 := ⟨k - 1, by omega⟩
    rw [jobshellref03_PutInt.l0]
    by_cases c : 128 ≤ z
    · rw [if_pos (by omega), if_pos (by omega)]
      match m with
      | 0 => omega
      | m + 1 =>
        have h8 : ((Int.tmod (z : Int) 128) + 128) % 256 = ((z % 128 + 128 : Nat) : Int) := by
          rw [Int.tmod_eq_emod_of_nonneg (by omega)]
          omega
        have h9 : IntKind.u64.wrap (Int.tdiv (z : Int) 128) = ((z / 128 : Nat) : Int) := by
          rw [Int.tdiv_eq_ediv_of_nonneg (by omega), IntKind.wrap_u64]
          omega
        rw [h8, h9, rPut_l0 m (z / 128) _ k (by omega) (by rw [Nat.div_lt_iff_lt_mul (by omega)]; rw [Nat.pow_succ] at hz; exact hz) (by omega) (by rw [List.length_append, List.length_singleton]; omega)]
        rw [E_big c]
        simp [ints]
    · rw [if_neg (by omega), if_pos (by omega), E_small (by omega), Int.emod_eq_of_lt (by omega) (by omega)]
      rfl
theorem xor64 (a : Nat) (h : a < 18446744073709551616) : 18446744073709551615 ^^^ a = 18446744073709551615 - a := by
  have h1 : (18446744073709551615 : Nat) - a = 2 ^ 64 - (a + 1) := by omega
  rw [h1]
  apply Nat.eq_of_testBit_eq
  intro i
  rw [Nat.testBit_xor, Nat.testBit_two_pow_sub_succ (by omega), show (18446744073709551615 : Nat) = 2 ^ 64 - 1 by decide, Nat.testBit_two_pow_sub_one]
  by_cases hi : i < 64
  · simp [hi]
  · simp only [hi, decide_false, Bool.false_and, Bool.false_bne, Bool.false_xor]
    exact Nat.testBit_lt_two_pow (Nat.lt_of_lt_of_le h (by rw [show (18446744073709551616 : Nat) = 2 ^ 64 by decide]; exact Nat.pow_le_pow_right (by omega) (by omega)))
theorem cPut_at {n : Int} (h : okI n) (k : Nat) (hk : 14 ≤ k) : codec_PutInt.f k n = some (ints (E (zig n))) := by
  obtain ⟨h1, h2⟩ := h
  obtain ⟨k, rfl⟩ : ∃ j, k = j + 1 := ⟨k - 1, by omega⟩
  have hz := zig_lt ⟨h1, h2⟩
  have hz2 : zig n < 128 ^ 10 := Nat.lt_trans hz (by decide)
  have key : codec_PutInt.j0 (k + 1) (zig n : Nat) = some (ints (E (zig n))) := by
    rw [codec_PutInt.j0, cPut_l0 10 _ [] k hz2 (by omega) (by decide)]
    rfl
  rw [← key]
  unfold codec_PutInt.f
  by_cases c : n < 0
  · rw [if_pos c]
    congr 1
    have e : IntKind.u64.wrap (IntKind.u64.wrap n * 2) = ((18446744073709551615 - zig n : Nat) : Int) := by
      rw [IntKind.wrap_u64, IntKind.wrap_u64]
      unfold zig
      rw [if_pos c]
      omega
    rw [e, show (18446744073709551615 : Int) = ((18446744073709551615 : Nat) : Int) from rfl, u64_xor_nat _ _ (by omega) (by omega), xor64 _ (by omega)]
    omega
  · rw [if_neg c]
    congr 1
    rw [IntKind.wrap_u64, IntKind.wrap_u64]
    unfold zig
    rw [if_neg c]
    omega
theorem cPut_ev {n : Int} (h : okI n) : Ev (fun k => codec_PutInt.f k n) (ints (E (zig n))) := ⟨_, fun k hk => cPut_at h k hk⟩
theorem rPut_ev {n : Int} (h : okI n) : Ev (fun k => jobshellref03_PutInt.f k n) (ints (E (zig n))) := by
  refine ⟨14, fun k hk => ?_⟩
  obtain ⟨h1, h2⟩ := h
  obtain ⟨k, rfl⟩ : ∃ j, k = j + 1 := ⟨k - 1, by omega⟩
  have hz := zig_lt ⟨h1, h2⟩
  have hz2 : zig n < 128 ^ 10 := Nat.lt_trans hz (by decide)
  have key : jobshellref03_PutInt.j0 (k + 1) (zig n : Nat) = some (ints (E (zig n))) := by
    rw [jobshellref03_PutInt.j0, rPut_l0 10 _ [] k hz hz2 (by omega) (by decide)]
    rfl
  show jobshellref03_PutInt.f (k + 1) n = _
  rw [← key]
  unfold jobshellref03_PutInt.f
  by_cases c : n < 0
  · rw [if_pos c]
    congr 1
    rw [w64 (x := n + 1) (by omega) (by omega), w64 (by omega) (by omega), IntKind.wrap_u64, IntKind.wrap_u64, IntKind.wrap_u64]
    unfold zig
    rw [if_pos c]
    omega
  · rw [if_neg c]
    congr 1
    rw [IntKind.wrap_u64, IntKind.wrap_u64]
    unfold zig
    rw [if_neg c]
    omega
/-! ### reading -/
theorem digit_lt {i c : Nat} (h9 : i ≤ 9) (hc : c < 256) (h : ¬ (i = 9 ∧ c ≠ 1)) : c % 128 * 128 ^ i < 18446744073709551616 := by
  by_cases e : i = 9
  · subst e
    have : c = 1 := by omega
    subst this
    decide
  · have h1 : 128 ^ i ≤ 128 ^ 8 := Nat.pow_le_pow_right (by omega) (by omega)
    have h2 : c % 128 * 128 ^ i ≤ 127 * 128 ^ 8 := Nat.mul_le_mul (by omega) h1
    omega
theorem step_lt {i c z : Nat} (h9 : i ≤ 9) (hc : c < 256) (hz : z < 128 ^ i) : z + c % 128 * 128 ^ i < 128 ^ (i + 1) := by
  rw [Nat.pow_succ']
  have : c % 128 * 128 ^ i + 128 ^ i ≤ 128 * 128 ^ i := by rw [← Nat.succ_mul]; exact Nat.mul_le_mul_right _ (by omega)
  omega
theorem pow_lt {i : Nat} (h9 : i ≤ 9) : 128 ^ i ≤ 9223372036854775808 := Nat.le_trans (Nat.pow_le_pow_right (by omega) h9) (by decide)
theorem and127 (c : Nat) : c &&& 127 = c % 128 := Nat.and_two_pow_sub_one_eq_mod c 7
theorem two7 (i : Nat) : (2 : Int) ^ ((7 * (i : Int)).toNat) = ((128 ^ i : Nat) : Int) := by
  rw [show (7 * (i : Int)).toNat = 7 * i by omega, show (128 : Nat) = 2 ^ 7 by decide, ← Nat.pow_mul]
  push_cast
  rfl
theorem decNext_eq {z c i : Nat} (h9 : i ≤ 9) (hc : c < 256) (hz : z < 128 ^ i) (h : ¬ (i = 9 ∧ c ≠ 1)) : decNext z c i = ((z + c % 128 * 128 ^ i : Nat) : Int) := by
  have h1 := digit_lt h9 hc h
  have h2 := pow_lt h9
  unfold decNext
  rw [show (127 : Int) = ((127 : Nat) : Int) from rfl, u8_and_nat c 127 hc (by omega), and127, IntKind.wrap_u64, IntKind.wrap_u64, two7, Int.emod_eq_of_lt (a := ((c % 128 : Nat) : Int)) (by omega) (by omega), ← Int.natCast_mul, Int.emod_eq_of_lt (by omega) (by omega), u64_or_nat _ _ (by omega) h1]
  have e : z ||| c % 128 * 128 ^ i = z + c % 128 * 128 ^ i := by
    rw [show (128 : Nat) ^ i = 2 ^ (7 * i) by rw [Nat.pow_mul]] at hz ⊢
    rw [Nat.or_comm, Nat.mul_comm, ← Nat.two_pow_add_eq_or_of_lt hz, Nat.add_comm]
  rw [e]
theorem xor_i64 (x y : Int) : Go.bits .xor .i64 x y = IntKind.i64.wrap ((BitVec.ofInt 64 x ^^^ BitVec.ofInt 64 y).toNat : Nat) := rfl
theorem wrap_i64 (x : Int) : IntKind.i64.wrap x = if x % 18446744073709551616 ≥ 9223372036854775808 then x % 18446744073709551616 - 18446744073709551616 else x % 18446744073709551616 := by
  simp [IntKind.wrap, IntKind.bits, IntKind.signed]
theorem decFin_eq {z : Nat} (h : z < 18446744073709551616) : decFin z = unz z := by
  unfold decFin unz
  have e1 : Go.bits .and .u64 (z : Int) 1 = ((z % 2 : Nat) : Int) := by
    rw [show (1 : Int) = ((1 : Nat) : Int) from rfl, u64_and_nat z 1 h (by omega), Nat.and_one_is_mod]
  rw [e1, show (z : Int) / 2 = ((z / 2 : Nat) : Int) by omega, w64 (x := ((z / 2 : Nat) : Int)) (by omega) (by omega), w64 (x := ((z % 2 : Nat) : Int)) (by omega) (by omega), w64 (by omega) (by omega)]
  have e2 : BitVec.ofInt 64 ((z / 2 : Nat) : Int) = BitVec.ofNat 64 (z / 2) := BitVec.ofInt_natCast _ _
  have e4 : (BitVec.ofNat 64 (z / 2)).toNat = z / 2 := by
    rw [BitVec.toNat_ofNat]
    exact Nat.mod_eq_of_lt (by omega)
  rw [xor_i64, e2, wrap_i64]
  by_cases c : z % 2 = 1
  · rw [if_pos c, c]
    have e3 : BitVec.ofInt 64 (-((1 : Nat) : Int)) = BitVec.allOnes 64 := by decide
    rw [e3, BitVec.xor_allOnes, BitVec.toNat_not, e4]
    split <;> omega
  · rw [if_neg c]
    have c0 : z % 2 = 0 := by omega
    rw [c0]
    have e3 : BitVec.ofInt 64 (-((0 : Nat) : Int)) = 0#64 := by decide
    rw [e3, BitVec.xor_zero, e4]
    split <;> omega
end Go.Proofs.Ytdgdabgbdephnaa.Pure
