/- Plain lemmas for chapter 04: validity, Match, Literal, the elements of runs, and the pattern of quoted bytes. No conditions beyond those written at each. -/
import Derived.Test.YtbekhjcnmifnnaaLem
import Derived.Test.YtbekhjcnmifnnaaQ15
import Derived.Test.YtbekhjcnmifnnaaQ22
import Derived.Test.YtbekhjcnmifnnaaQ10
set_option linter.unusedVariables false
set_option linter.unusedSimpArgs false
namespace Go.Proofs.Ytbekhjcnmifnnaa.Pure
open Go.RowKit Go.Proofs.Ytbekhjcnmifnnaa.Q Go.Proofs.YtbekhjcnmifnnaaW.PrintWords Go.Proofs.YtbekhjcnmifnnaaW.PrintLast

/-! ### validity -/
def ascS : Option Int → List S58 → Bool
  | _, [] => true
  | none, s :: r => decide (s.f0 ≤ s.f1) && ascS (some s.f1) r
  | some h, s :: r => decide (s.f0 ≤ s.f1) && (decide (h + 1 < s.f0) && ascS (some s.f1) r)
def validS (x : S35) : Bool :=
  if x.f0 = 4 then decide (x.f1.size = 0) && ascS none x.f3
  else if x.f2 = true then false else if x.f3.length > 0 then false
  else if x.f0 = 1 then decide (x.f1.size = 1)
  else decide (x.f1.size = 0) && (decide (x.f0 = 2) || decide (x.f0 = 3))
def prevS (l : List S58) (i : Nat) : Option Int := if h : 0 < i ∧ i ≤ l.length then some (l[i - 1]'(by omega)).f1 else none
def InR (s : S58) : Prop := 0 ≤ s.f0 ∧ s.f0 ≤ 255 ∧ 0 ≤ s.f1 ∧ s.f1 ≤ 255
theorem w8 {x : Int} (h0 : 0 ≤ x) (h1 : x ≤ 255) : wrap64 x = x := w64 (by omega) (by omega)
theorem w8s {x : Int} (h0 : 0 ≤ x) (h1 : x ≤ 255) : wrap64 (x + 1) = x + 1 := w64 (by omega) (by omega)
theorem wm {i : Nat} : wrap64 (((i + 1 : Nat) : Int) - 1) = (i : Int) ∨ 1000000000000 < i := by
  by_cases h : 1000000000000 < i
  · exact .inr h
  · exact .inl (by rw [w64 (by omega) (by omega)]; omega)
theorem wmn {i : Nat} (h : i ≤ 1000000000000) : wrap64 (((i + 1 : Nat) : Int) - 1) = (i : Int) := by
  rcases wm (i := i) with h2 | h2
  · exact h2
  · omega
structure GoodX (x : S35) : Prop where
  len : x.f3.length ≤ 100000
  each : ∀ s ∈ x.f3, InR s
theorem Good.x {p : List S35} (h : Good p) {x : S35} (hx : x ∈ p) : GoodX x := ⟨(h.each x hx).1, (h.each x hx).2⟩
def matchS (p : List S35) (t : List Int) : Bool := p.all validS && M p t
end Go.Proofs.Ytbekhjcnmifnnaa.Pure
