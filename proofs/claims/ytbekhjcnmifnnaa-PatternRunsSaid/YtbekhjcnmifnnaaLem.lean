/- Plain lemmas for chapter 04: what a valid pattern matches (M), and that the program's matching with backtracking comes to it. No conditions beyond those written at each. -/
import Derived.Test.YtbekhjcnmifnnaaQ16
set_option linter.unusedVariables false
set_option linter.unusedSimpArgs false
namespace Go.Proofs.Ytbekhjcnmifnnaa.Pure
open Go.RowKit Go.Proofs.Ytbekhjcnmifnnaa.Q Go.Proofs.YtbekhjcnmifnnaaW.PrintWords Go.Proofs.YtbekhjcnmifnnaaW.PrintLast

theorem ev_at1 {α : Type} {g : Nat → Option α} {r : α} (h : ∀ k, g (k + 1) = some r) : Ev g r := ⟨1, fun k hk => by
 obtain ⟨m, rfl⟩ : ∃ m, k = m + 1 := ⟨k - 1, by omega⟩
 exact h m⟩
theorem ev_const {α : Type} {r : α} : Ev (fun _ => some r) r := ⟨0, fun _ _ => rfl⟩
theorem ev_eq {α : Type} {g : Nat → Option α} {r r' : α} (h : Ev g r) (e : r = r') : Ev g r' := e ▸ h
theorem w64 {x : Int} (h0 : -9223372036854775808 ≤ x) (h1 : x ≤ 9223372036854775807) : wrap64 x = x := by
 unfold wrap64
 omega
theorem w64n {i n : Nat} (h : i ≤ n) (hn : n ≤ 1000000000000) : wrap64 ((i : Int) + 1) = ((i + 1 : Nat) : Int) := by
 rw [w64 (by omega) (by omega)]
 omega

/-- The bytes of a string as numbers. -/
def bl (s : ByteArray) : List Int := s.data.toList.map (fun b => (b.toNat : Int))
theorem bl_len (s : ByteArray) : (bl s).length = s.size := by
 unfold bl
 rw [List.length_map, Array.length_toList]
 rfl
theorem bl_get (s : ByteArray) (i : Nat) (h : i < s.size) : (bl s)[i]'(by rw [bl_len]; exact h) = bt s i := by
 simp [bl, bt, h]
 rfl
theorem bl_drop (s : ByteArray) (i : Nat) (h : i < s.size) : (bl s).drop i = bt s i :: (bl s).drop (i + 1) := by
 rw [List.drop_eq_getElem_cons (by rw [bl_len]; exact h), bl_get s i h]
theorem bl_done (s : ByteArray) (i : Nat) (h : s.size ≤ i) : (bl s).drop i = [] := List.drop_eq_nil_of_le (by rw [bl_len]; exact h)
theorem bl_append (a b : ByteArray) : bl (a ++ b) = bl a ++ bl b := by simp [bl, ByteArray.data_append]
theorem bl_inj {a b : ByteArray} (h : bl a = bl b) : a = b := by
 have h2 : a.data.toList = b.data.toList := by
  unfold bl at h
  refine List.map_inj_right (f := fun b : UInt8 => (b.toNat : Int)) ?_ |>.mp h
  intro x y e
  exact UInt8.toNat_inj.mp (by omega)
 cases a; cases b
 congr
 exact Array.toList_inj.mp h2
theorem bt_range (s : ByteArray) (i : Int) : 0 ≤ bt s i ∧ bt s i < 256 := by
 unfold bt
 split
 ·
  rename_i h
  have := (s[i.toNat]'h).toNat_lt
  omega
 ·
  omega

/-! reading -/
theorem rd35 (xs : List S35) (i : Nat) (h : i < xs.length) : rd_T35 xs (i : Int) = xs[i] := by
 unfold rd_T35
 rw [List.getD_eq_getElem?_getD]
 simp [h]
theorem rd58 (xs : List S58) (i : Nat) (h : i < xs.length) : rd_T58 xs (i : Int) = xs[i] := by
 unfold rd_T58
 rw [List.getD_eq_getElem?_getD]
 simp [h]

/-! what a pattern matches -/
def inS (l : List S58) (c : Int) : Bool := l.any fun s => decide (s.f0 ≤ c) && decide (c ≤ s.f1)
def oneS (x : S35) (c : Int) : Bool := if x.f0 = 1 then bt x.f1 0 == c else if x.f0 = 2 then true else (inS x.f3 c != x.f2)
def stars (f : List Int → Bool) : List Int → Bool
 | [] => f []
 | c :: t => f (c :: t) || stars f t
def oneThen (x : S35) (f : List Int → Bool) : List Int → Bool
 | [] => false
 | c :: t => oneS x c && f t
def M : List S35 → List Int → Bool
 | [], t => t.isEmpty
 | x :: p, t => if x.f0 = 3 then stars (M p) t else oneThen x (M p) t
/-- The sizes that the walks ask for. -/
structure Good (p : List S35) : Prop where
 len : p.length ≤ 100000
 each : ∀ x ∈ p, x.f3.length ≤ 100000 ∧ ∀ s ∈ x.f3, 0 ≤ s.f0 ∧ s.f0 ≤ 255 ∧ 0 ≤ s.f1 ∧ s.f1 ≤ 255

structure MInv (p : List S35) (t : List Int) (i k : Nat) (st : Option Nat) (f : Nat) : Prop where
 hi : i ≤ p.length
 hk : k ≤ t.length
 hf : f ≤ k
 hs : ∀ j, st = some j → j < i ∧ (∃ h : j < p.length, (p[j]'h).f0 = 3) ∧ k = f + (i - j - 1) ∧ ∀ m, j < m → m < i → ∀ h : m < p.length, (p[m]'h).f0 ≠ 3
theorem lift_lt {a b : Nat} (h : a < b) : (a : Int) < (b : Int) := Int.ofNat_lt.mpr h
theorem lift_not_lt {a b : Nat} (h : ¬ a < b) : ¬ (a : Int) < (b : Int) := fun e => h (Int.ofNat_lt.mp e)
theorem lift_ne {a b : Nat} (h : ¬ a = b) : ¬ (a : Int) = (b : Int) := fun e => h (Int.ofNat_inj.mp e)
theorem nn (a : Nat) : (0 : Int) ≤ (a : Int) := Int.natCast_nonneg a
end Go.Proofs.Ytbekhjcnmifnnaa.Pure
