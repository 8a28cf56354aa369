/- Comparing two arrays of four bytes. No conditions. -/
import Derived.Test.YtdgdabgbdephnaaGSeal
import Derived.Laws.StructEq
set_option linter.unusedVariables false
set_option linter.unusedSimpArgs false
namespace Go.Proofs.Ytdgdabgbdephnaa.Q
open Go.RowKit Go.Proofs.YtdgdabgbdephnaaW.PrintWords Go.Proofs.YtdgdabgbdephnaaW.PrintLast Go.Proofs.YtdgdabgbdephnaaW.PrintMore
theorem part5 (xs : Array Value) (i : Nat) (v : Value) (W : World) (h : xs[i]? = some v) : (part 5 xs i).run Try.prog W = .ok v W := by
  obtain ⟨i0, hi, hz, hs, hb⟩ := info_parts info5
  simp [part, sizeOf, typeInfo, hi, hs, h, Result.andThen]
theorem eq4 (a b c d a' b' c' d' : Int) (W : World) :
    (Op.equalIn 10000 68 (.agg #[.int .u8 a, .int .u8 b, .int .u8 c, .int .u8 d]) (.agg #[.int .u8 a', .int .u8 b', .int .u8 c', .int .u8 d'])).run Try.prog W = .ok (a == a' && (b == b' && (c == c' && d == d'))) W := by
  obtain ⟨i0, hi, hz, hs, hb⟩ := info_parts info5
  have e5 : ∀ (d : Nat) (x y : Int), (Op.equalIn (d + 1) 5 (.int .u8 x) (.int .u8 y)).run Try.prog W = .ok (x == y) W := fun d x y => run_equalIn_int W d 5 .u8 .u8 x y Try.underlying5
  have e6 := e5 9998
  simp only [Nat.reduceAdd] at e6
  have p0 : ∀ (x y z u : Int), (part 5 #[.int .u8 x, .int .u8 y, .int .u8 z, .int .u8 u] 0).run Try.prog W = .ok (.int .u8 x) W := fun x y z u => part5 _ 0 _ W rfl
  have p1 : ∀ (x y z u : Int), (part 5 #[.int .u8 x, .int .u8 y, .int .u8 z, .int .u8 u] 1).run Try.prog W = .ok (.int .u8 y) W := fun x y z u => part5 _ 1 _ W rfl
  have p2 : ∀ (x y z u : Int), (part 5 #[.int .u8 x, .int .u8 y, .int .u8 z, .int .u8 u] 2).run Try.prog W = .ok (.int .u8 z) W := fun x y z u => part5 _ 2 _ W rfl
  have p3 : ∀ (x y z u : Int), (part 5 #[.int .u8 x, .int .u8 y, .int .u8 z, .int .u8 u] 3).run Try.prog W = .ok (.int .u8 u) W := fun x y z u => part5 _ 3 _ W rfl
  rw [Op.equalIn]
  by_cases h1 : a = a'
  · by_cases h2 : b = b'
    · by_cases h3 : c = c'
      · by_cases h4 : d = d'
        · simp [List.range', run_underlying Try.underlying68, sizeOf, typeInfo, hi, hs, Result.andThen, p0, p1, p2, p3, e6, h1, h2, h3, h4]
        · simp [List.range', run_underlying Try.underlying68, sizeOf, typeInfo, hi, hs, Result.andThen, p0, p1, p2, p3, e6, h1, h2, h3, h4]
      · simp [List.range', run_underlying Try.underlying68, sizeOf, typeInfo, hi, hs, Result.andThen, p0, p1, p2, p3, e6, h1, h2, h3]
    · simp [List.range', run_underlying Try.underlying68, sizeOf, typeInfo, hi, hs, Result.andThen, p0, p1, p2, p3, e6, h1, h2]
  · simp [List.range', run_underlying Try.underlying68, sizeOf, typeInfo, hi, hs, Result.andThen, p0, p1, p2, p3, e6, h1]
theorem list4 {y : List Int} (h : y.length = 4) : y = [rd y 0, rd y 1, rd y 2, rd y 3] := by
  match y, h with
  | [a, b, c, d], _ => rfl
theorem eq4_four {y : List Int} {s : Int} (h : y.length = 4) (W : World) :
    (Op.equalIn 10000 68 (.agg (fourA s)) (.agg #[.int .u8 (rd y 0), .int .u8 (rd y 1), .int .u8 (rd y 2), .int .u8 (rd y 3)])).run Try.prog W = .ok (decide (four_ s = y)) W := by
  refine (eq4 _ _ _ _ _ _ _ _ W).trans ?_
  congr 1
  conv => rhs; rw [list4 h]
  simp only [four_, List.cons.injEq, and_true, Bool.decide_and]
  rfl
end Go.Proofs.Ytdgdabgbdephnaa.Q
