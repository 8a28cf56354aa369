-- Written by a program of this session's (wip/fork/fprint.py over the kit's print.py). Not trusted: Lean checks it.
import Derived.Test.YtgplhdgimckfjaaQ0
import Derived.Test.YtgplhdgimckfjaaQ14
import Derived.Test.YtgplhdgimckfjaaQ18
namespace Go.Proofs.Ytgplhdgimckfjaa.Q
open Go.RowKit Go.Proofs.YtgplhdgimckfjaaW.PrintWords Go.Proofs.YtgplhdgimckfjaaW.PrintLast Go.Proofs.YtgplhdgimckfjaaW.PrintMore
attribute [local go_sem] max2_int min2_int max_two min_two max_three min_three max_four min_four   -- for this text's walks alone
set_option linter.unusedVariables false
set_option linter.unusedSimpArgs false

theorem sb_ {α : Type} {l : List α} {i : Nat} {a : α} : l.toArray.setIfInBounds i a = (l.set i a).toArray := List.setIfInBounds_toArray ..
theorem sz_ {α : Type} {x : α} {l : List α} {a : α} : (x :: l).set 0 a = a :: l := rfl
theorem ss_ {α : Type} {x : α} {l : List α} {n : Nat} {a : α} : (x :: l).set (n + 1) a = x :: l.set n a := rfl
/-! ### jobshellref16_Next: function 14 -/
mutual
def jobshellref16_Next.j0 : Nat → ByteArray → List ByteArray → Bool → Int → Int → Option (ByteArray × ByteArray × Int × ByteArray × Int × Int × Int)
 | 0, _, _, _, _, _ => none
 | k + 1, x0, x1, x56, x210000, x210001 => if x56 = true then (some ((⟨#[]⟩ : ByteArray), (⟨#[]⟩ : ByteArray), 0, (⟨#[]⟩ : ByteArray), 0, 0, 2)) else (if x210000 > (x1.length : Int) then (some ((⟨#[63]⟩ : ByteArray), (⟨#[]⟩ : ByteArray), 1, (⟨#[]⟩ : ByteArray), x210000, x210001, 0)) else (if 0 ≤ (wrap64 (x210000 - 1)) then (if (wrap64 (x210000 - 1)) < (x1.length : Int) then (if x210001 = 0 then (if (rdOf ByteArray.empty x1 (wrap64 (x210000 - 1))).toList = ([] : List UInt8) then (jobshellref16_Next.j1 k x0 x1 (rdOf ByteArray.empty x1 (wrap64 (x210000 - 1))) true x210000 x210001 (⟨#[63]⟩ : ByteArray) (⟨#[]⟩ : ByteArray) 1 (⟨#[]⟩ : ByteArray) (wrap64 (x210000 + 1)) 0) else (if (rdOf ByteArray.empty x1 (wrap64 (x210000 - 1))).toList = ([45] : List UInt8) then (jobshellref16_Next.j1 k x0 x1 (rdOf ByteArray.empty x1 (wrap64 (x210000 - 1))) true x210000 x210001 (⟨#[63]⟩ : ByteArray) (⟨#[]⟩ : ByteArray) 1 (⟨#[]⟩ : ByteArray) (wrap64 (x210000 + 1)) 0) else (if 0 < ((rdOf ByteArray.empty x1 (wrap64 (x210000 - 1))).size : Int) then (jobshellref16_Next.j1 k x0 x1 (rdOf ByteArray.empty x1 (wrap64 (x210000 - 1))) ((bt (rdOf ByteArray.empty x1 (wrap64 (x210000 - 1))) 0) != 45) x210000 x210001 (⟨#[63]⟩ : ByteArray) (⟨#[]⟩ : ByteArray) 1 (⟨#[]⟩ : ByteArray) (wrap64 (x210000 + 1)) 0) else (none)))) else (jobshellref16_Next.j2 k x0 x1 (rdOf ByteArray.empty x1 (wrap64 (x210000 - 1))) x210001 x210000 x210001 (wrap64 (x210000 + 1)) 0)) else (none)) else (none)))
def jobshellref16_Next.j2 : Nat → ByteArray → List ByteArray → ByteArray → Int → Int → Int → Int → Int → Option (ByteArray × ByteArray × Int × ByteArray × Int × Int × Int)
 | 0, _, _, _, _, _, _, _, _ => none
 | k + 1, x0, x1, x11, x13, x210000, x210001, x217000, x217001 => if (x0.size : Int) > 0 then (if 0 < (x0.size : Int) then (jobshellref16_Next.j3 k x0 x1 x11 x13 ((bt x0 0) == 58) x210000 x210001 x217000 x217001) else (none)) else (jobshellref16_Next.j3 k x0 x1 x11 x13 false x210000 x210001 x217000 x217001)
def jobshellref16_Next.j3 : Nat → ByteArray → List ByteArray → ByteArray → Int → Bool → Int → Int → Int → Int → Option (ByteArray × ByteArray × Int × ByteArray × Int × Int × Int)
 | 0, _, _, _, _, _, _, _, _, _ => none
 | k + 1, x0, x1, x11, x13, x14, x210000, x210001, x217000, x217001 => if 0 ≤ x13 then (if x13 < (x11.size : Int) then ((jobshellref16_find.f k x0 (bt x11 x13)).bind fun bt217 => (if x13 ≤ (wrap64 (x13 + 1)) then (if (wrap64 (x13 + 1)) ≤ (x11.size : Int) then (if bt217.1 = true then (jobshellref16_Next.j4 k x1 x11 x13 x14 bt217.1 (x11.extract (x13 : Int).toNat ((wrap64 (x13 + 1)) : Int).toNat) bt217.2 x210000 x210001 x217000 x217001) else (jobshellref16_Next.j4 k x1 x11 x13 x14 bt217.1 (x11.extract (x13 : Int).toNat ((wrap64 (x13 + 1)) : Int).toNat) false x210000 x210001 x217000 x217001)) else (none)) else (none))) else (none)) else (none)
def jobshellref16_Next.j4 : Nat → List ByteArray → ByteArray → Int → Bool → Bool → ByteArray → Bool → Int → Int → Int → Int → Option (ByteArray × ByteArray × Int × ByteArray × Int × Int × Int)
 | 0, _, _, _, _, _, _, _, _, _, _, _ => none
 | k + 1, x1, x11, x13, x14, x15, x17, x122, x210000, x210001, x217000, x217001 => if x122 = true then (if (wrap64 (x13 + 1)) < (x11.size : Int) then (if 0 ≤ (wrap64 (x13 + 1)) then (if (wrap64 (x13 + 1)) ≤ (x11.size : Int) then (some (x17, x11.extract ((wrap64 (x13 + 1)) : Int).toNat x11.size, 0, (⟨#[]⟩ : ByteArray), x217000, x217001, 0)) else (none)) else (none)) else (if x210000 < (x1.length : Int) then (if 0 ≤ x210000 then (some (x17, rdOf ByteArray.empty x1 x210000, 0, (⟨#[]⟩ : ByteArray), wrap64 (x210000 + 2), 0, 0)) else (none)) else (if x14 = true then (some ((⟨#[58]⟩ : ByteArray), x17, 2, (⟨#[]⟩ : ByteArray), x217000, x217001, 0)) else (if 31 + x17.size ≤ 9223372036854775807 then (some ((⟨#[63]⟩ : ByteArray), (⟨#[]⟩ : ByteArray), 2, (⟨#[111,112,116,105,111,110,32,114,101,113,117,105,114,101,115,32,97,110,32,97,114,103,117,109,101,110,116,32,45,45,32]⟩ : ByteArray) ++ x17, x217000, x217001, 0)) else (none))))) else (if (wrap64 (x13 + 1)) < (x11.size : Int) then (jobshellref16_Next.j5 k x14 x15 x17 x210000 (wrap64 (x13 + 1))) else (jobshellref16_Next.j5 k x14 x15 x17 x217000 x217001))
def jobshellref16_Next.j5 : Nat → Bool → Bool → ByteArray → Int → Int → Option (ByteArray × ByteArray × Int × ByteArray × Int × Int × Int)
 | 0, _, _, _, _, _ => none
 | k + 1, x14, x15, x17, x217000, x217001 => if x15 = true then (some (x17, (⟨#[]⟩ : ByteArray), 0, (⟨#[]⟩ : ByteArray), x217000, x217001, 0)) else (if x14 = true then (some ((⟨#[63]⟩ : ByteArray), x17, 2, (⟨#[]⟩ : ByteArray), x217000, x217001, 0)) else (if 18 + x17.size ≤ 9223372036854775807 then (some ((⟨#[63]⟩ : ByteArray), (⟨#[]⟩ : ByteArray), 2, (⟨#[105,108,108,101,103,97,108,32,111,112,116,105,111,110,32,45,45,32]⟩ : ByteArray) ++ x17, x217000, x217001, 0)) else (none)))
def jobshellref16_Next.j1 : Nat → ByteArray → List ByteArray → ByteArray → Bool → Int → Int → ByteArray → ByteArray → Int → ByteArray → Int → Int → Option (ByteArray × ByteArray × Int × ByteArray × Int × Int × Int)
 | 0, _, _, _, _, _, _, _, _, _, _, _, _ => none
 | k + 1, x0, x1, x11, x91, x210000, x210001, x215000, x215001, x215002, x215003, x217000, x217001 => if x91 = true then (some (x215000, x215001, x215002, x215003, x210000, x210001, 0)) else (if x11.toList = ([45, 45] : List UInt8) then (some (x215000, x215001, x215002, x215003, x217000, x217001, 0)) else (jobshellref16_Next.j2 k x0 x1 x11 1 x210000 x210001 x217000 x217001))
end
def jobshellref16_Next.f (k : Nat) (a0 : ByteArray) (l1 : List ByteArray) (a2_0 : Int) (a2_1 : Int) : Option (ByteArray × ByteArray × Int × ByteArray × Int × Int × Int) := (jobshellref16_Valid.f k a0).bind fun t212 => (if t212 = 0 then (if a2_0 < 1 then (jobshellref16_Next.j0 k a0 l1 true a2_0 a2_1) else (if a2_1 < 0 then (jobshellref16_Next.j0 k a0 l1 true a2_0 a2_1) else (if a2_1 > 0 then (if a2_0 > (l1.length : Int) then (jobshellref16_Next.j0 k a0 l1 true a2_0 a2_1) else (if 0 ≤ (wrap64 (a2_0 - 1)) then (if (wrap64 (a2_0 - 1)) < (l1.length : Int) then (jobshellref16_Next.j0 k a0 l1 (decide (a2_1 ≥ ((rdOf ByteArray.empty l1 (wrap64 (a2_0 - 1))).size : Int))) a2_0 a2_1) else (none)) else (none))) else (jobshellref16_Next.j0 k a0 l1 false a2_0 a2_1)))) else (some ((⟨#[]⟩ : ByteArray), (⟨#[]⟩ : ByteArray), 0, (⟨#[]⟩ : ByteArray), 0, 0, t212)))
theorem jobshellref16_Next.mono_l : ∀ k, (∀ y0 y1 y2 y3 y4, LeO (jobshellref16_Next.j0 k y0 y1 y2 y3 y4) (jobshellref16_Next.j0 (k + 1) y0 y1 y2 y3 y4)) ∧ (∀ y0 y1 y2 y3 y4 y5 y6 y7, LeO (jobshellref16_Next.j2 k y0 y1 y2 y3 y4 y5 y6 y7) (jobshellref16_Next.j2 (k + 1) y0 y1 y2 y3 y4 y5 y6 y7)) ∧ (∀ y0 y1 y2 y3 y4 y5 y6 y7 y8, LeO (jobshellref16_Next.j3 k y0 y1 y2 y3 y4 y5 y6 y7 y8) (jobshellref16_Next.j3 (k + 1) y0 y1 y2 y3 y4 y5 y6 y7 y8)) ∧ (∀ y0 y1 y2 y3 y4 y5 y6 y7 y8 y9 y10, LeO (jobshellref16_Next.j4 k y0 y1 y2 y3 y4 y5 y6 y7 y8 y9 y10) (jobshellref16_Next.j4 (k + 1) y0 y1 y2 y3 y4 y5 y6 y7 y8 y9 y10)) ∧ (∀ y0 y1 y2 y3 y4, LeO (jobshellref16_Next.j5 k y0 y1 y2 y3 y4) (jobshellref16_Next.j5 (k + 1) y0 y1 y2 y3 y4)) ∧ (∀ y0 y1 y2 y3 y4 y5 y6 y7 y8 y9 y10 y11, LeO (jobshellref16_Next.j1 k y0 y1 y2 y3 y4 y5 y6 y7 y8 y9 y10 y11) (jobshellref16_Next.j1 (k + 1) y0 y1 y2 y3 y4 y5 y6 y7 y8 y9 y10 y11))
 | 0 => ⟨fun _ _ _ _ _ r h => by simp [jobshellref16_Next.j0] at h, fun _ _ _ _ _ _ _ _ r h => by simp [jobshellref16_Next.j2] at h, fun _ _ _ _ _ _ _ _ _ r h => by simp [jobshellref16_Next.j3] at h, fun _ _ _ _ _ _ _ _ _ _ _ r h => by simp [jobshellref16_Next.j4] at h, fun _ _ _ _ _ r h => by simp [jobshellref16_Next.j5] at h, fun _ _ _ _ _ _ _ _ _ _ _ _ r h => by simp [jobshellref16_Next.j1] at h⟩
 | k + 1 => by
  obtain ⟨ih0, ih1, ih2, ih3, ih4, ih5⟩ := jobshellref16_Next.mono_l k
  refine ⟨?_, ?_, ?_, ?_, ?_, ?_⟩
  ·intro y0 y1 y2 y3 y4
   unfold jobshellref16_Next.j0
   repeat' first
   | (with_reducible exact ih0 _ _ _ _ _)
   | (with_reducible exact ih1 _ _ _ _ _ _ _ _)
   | (with_reducible exact ih2 _ _ _ _ _ _ _ _ _)
   | (with_reducible exact ih3 _ _ _ _ _ _ _ _ _ _ _)
   | (with_reducible exact ih4 _ _ _ _ _)
   | (with_reducible exact ih5 _ _ _ _ _ _ _ _ _ _ _ _)
   | (with_reducible exact jobshellref16_Valid.mono _ _)
   | (with_reducible exact jobshellref16_find.mono _ _ _)
   | (with_reducible exact LeO.refl _)
   | (with_reducible exact LeO.none _)
   | (with_reducible refine LeO.ite ?_ ?_)
   | (with_reducible refine LeO.bind ?_ (fun _ => ?_))
   | exact ih0 _ _ _ _ _
   | exact ih1 _ _ _ _ _ _ _ _
   | exact ih2 _ _ _ _ _ _ _ _ _
   | exact ih3 _ _ _ _ _ _ _ _ _ _ _
   | exact ih4 _ _ _ _ _
   | exact ih5 _ _ _ _ _ _ _ _ _ _ _ _
   | exact jobshellref16_Valid.mono _ _
   | exact jobshellref16_find.mono _ _ _
   | exact LeO.none _
   | refine LeO.ite ?_ ?_
   | refine LeO.bind ?_ (fun _ => ?_)
  ·intro y0 y1 y2 y3 y4 y5 y6 y7
   unfold jobshellref16_Next.j2
   repeat' first
   | (with_reducible exact ih0 _ _ _ _ _)
   | (with_reducible exact ih1 _ _ _ _ _ _ _ _)
   | (with_reducible exact ih2 _ _ _ _ _ _ _ _ _)
   | (with_reducible exact ih3 _ _ _ _ _ _ _ _ _ _ _)
   | (with_reducible exact ih4 _ _ _ _ _)
   | (with_reducible exact ih5 _ _ _ _ _ _ _ _ _ _ _ _)
   | (with_reducible exact jobshellref16_Valid.mono _ _)
   | (with_reducible exact jobshellref16_find.mono _ _ _)
   | (with_reducible exact LeO.refl _)
   | (with_reducible exact LeO.none _)
   | (with_reducible refine LeO.ite ?_ ?_)
   | (with_reducible refine LeO.bind ?_ (fun _ => ?_))
   | exact ih0 _ _ _ _ _
   | exact ih1 _ _ _ _ _ _ _ _
   | exact ih2 _ _ _ _ _ _ _ _ _
   | exact ih3 _ _ _ _ _ _ _ _ _ _ _
   | exact ih4 _ _ _ _ _
   | exact ih5 _ _ _ _ _ _ _ _ _ _ _ _
   | exact jobshellref16_Valid.mono _ _
   | exact jobshellref16_find.mono _ _ _
   | exact LeO.none _
   | refine LeO.ite ?_ ?_
   | refine LeO.bind ?_ (fun _ => ?_)
  ·intro y0 y1 y2 y3 y4 y5 y6 y7 y8
   unfold jobshellref16_Next.j3
   repeat' first
   | (with_reducible exact ih0 _ _ _ _ _)
   | (with_reducible exact ih1 _ _ _ _ _ _ _ _)
   | (with_reducible exact ih2 _ _ _ _ _ _ _ _ _)
   | (with_reducible exact ih3 _ _ _ _ _ _ _ _ _ _ _)
   | (with_reducible exact ih4 _ _ _ _ _)
   | (with_reducible exact ih5 _ _ _ _ _ _ _ _ _ _ _ _)
   | (with_reducible exact jobshellref16_Valid.mono _ _)
   | (with_reducible exact jobshellref16_find.mono _ _ _)
   | (with_reducible exact LeO.refl _)
   | (with_reducible exact LeO.none _)
   | (with_reducible refine LeO.ite ?_ ?_)
   | (with_reducible refine LeO.bind ?_ (fun _ => ?_))
   | exact ih0 _ _ _ _ _
   | exact ih1 _ _ _ _ _ _ _ _
   | exact ih2 _ _ _ _ _ _ _ _ _
   | exact ih3 _ _ _ _ _ _ _ _ _ _ _
   | exact ih4 _ _ _ _ _
   | exact ih5 _ _ _ _ _ _ _ _ _ _ _ _
   | exact jobshellref16_Valid.mono _ _
   | exact jobshellref16_find.mono _ _ _
   | exact LeO.none _
   | refine LeO.ite ?_ ?_
   | refine LeO.bind ?_ (fun _ => ?_)
  ·intro y0 y1 y2 y3 y4 y5 y6 y7 y8 y9 y10
   unfold jobshellref16_Next.j4
   repeat' first
   | (with_reducible exact ih0 _ _ _ _ _)
   | (with_reducible exact ih1 _ _ _ _ _ _ _ _)
   | (with_reducible exact ih2 _ _ _ _ _ _ _ _ _)
   | (with_reducible exact ih3 _ _ _ _ _ _ _ _ _ _ _)
   | (with_reducible exact ih4 _ _ _ _ _)
   | (with_reducible exact ih5 _ _ _ _ _ _ _ _ _ _ _ _)
   | (with_reducible exact jobshellref16_Valid.mono _ _)
   | (with_reducible exact jobshellref16_find.mono _ _ _)
   | (with_reducible exact LeO.refl _)
   | (with_reducible exact LeO.none _)
   | (with_reducible refine LeO.ite ?_ ?_)
   | (with_reducible refine LeO.bind ?_ (fun _ => ?_))
   | exact ih0 _ _ _ _ _
   | exact ih1 _ _ _ _ _ _ _ _
   | exact ih2 _ _ _ _ _ _ _ _ _
   | exact ih3 _ _ _ _ _ _ _ _ _ _ _
   | exact ih4 _ _ _ _ _
   | exact ih5 _ _ _ _ _ _ _ _ _ _ _ _
   | exact jobshellref16_Valid.mono _ _
   | exact jobshellref16_find.mono _ _ _
   | exact LeO.none _
   | refine LeO.ite ?_ ?_
   | refine LeO.bind ?_ (fun _ => ?_)
  ·intro y0 y1 y2 y3 y4
   unfold jobshellref16_Next.j5
   repeat' first
   | (with_reducible exact ih0 _ _ _ _ _)
   | (with_reducible exact ih1 _ _ _ _ _ _ _ _)
   | (with_reducible exact ih2 _ _ _ _ _ _ _ _ _)
   | (with_reducible exact ih3 _ _ _ _ _ _ _ _ _ _ _)
   | (with_reducible exact ih4 _ _ _ _ _)
   | (with_reducible exact ih5 _ _ _ _ _ _ _ _ _ _ _ _)
   | (with_reducible exact jobshellref16_Valid.mono _ _)
   | (with_reducible exact jobshellref16_find.mono _ _ _)
   | (with_reducible exact LeO.refl _)
   | (with_reducible exact LeO.none _)
   | (with_reducible refine LeO.ite ?_ ?_)
   | (with_reducible refine LeO.bind ?_ (fun _ => ?_))
   | exact ih0 _ _ _ _ _
   | exact ih1 _ _ _ _ _ _ _ _
   | exact ih2 _ _ _ _ _ _ _ _ _
   | exact ih3 _ _ _ _ _ _ _ _ _ _ _
   | exact ih4 _ _ _ _ _
   | exact ih5 _ _ _ _ _ _ _ _ _ _ _ _
   | exact jobshellref16_Valid.mono _ _
   | exact jobshellref16_find.mono _ _ _
   | exact LeO.none _
   | refine LeO.ite ?_ ?_
   | refine LeO.bind ?_ (fun _ => ?_)
  ·intro y0 y1 y2 y3 y4 y5 y6 y7 y8 y9 y10 y11
   unfold jobshellref16_Next.j1
   repeat' first
   | (with_reducible exact ih0 _ _ _ _ _)
   | (with_reducible exact ih1 _ _ _ _ _ _ _ _)
   | (with_reducible exact ih2 _ _ _ _ _ _ _ _ _)
   | (with_reducible exact ih3 _ _ _ _ _ _ _ _ _ _ _)
   | (with_reducible exact ih4 _ _ _ _ _)
   | (with_reducible exact ih5 _ _ _ _ _ _ _ _ _ _ _ _)
   | (with_reducible exact jobshellref16_Valid.mono _ _)
   | (with_reducible exact jobshellref16_find.mono _ _ _)
   | (with_reducible exact LeO.refl _)
   | (with_reducible exact LeO.none _)
   | (with_reducible refine LeO.ite ?_ ?_)
   | (with_reducible refine LeO.bind ?_ (fun _ => ?_))
   | exact ih0 _ _ _ _ _
   | exact ih1 _ _ _ _ _ _ _ _
   | exact ih2 _ _ _ _ _ _ _ _ _
   | exact ih3 _ _ _ _ _ _ _ _ _ _ _
   | exact ih4 _ _ _ _ _
   | exact ih5 _ _ _ _ _ _ _ _ _ _ _ _
   | exact jobshellref16_Valid.mono _ _
   | exact jobshellref16_find.mono _ _ _
   | exact LeO.none _
   | refine LeO.ite ?_ ?_
   | refine LeO.bind ?_ (fun _ => ?_)
theorem jobshellref16_Next.mono : ∀ a0 a1 a2 a3 k, LeO (jobshellref16_Next.f k a0 a1 a2 a3) (jobshellref16_Next.f (k + 1) a0 a1 a2 a3) := by
 intro a0 a1 a2 a3 k
 obtain ⟨ih0, ih1, ih2, ih3, ih4, ih5⟩ := jobshellref16_Next.mono_l k
 unfold jobshellref16_Next.f
 repeat' first
   | (with_reducible exact ih0 _ _ _ _ _)
   | (with_reducible exact ih1 _ _ _ _ _ _ _ _)
   | (with_reducible exact ih2 _ _ _ _ _ _ _ _ _)
   | (with_reducible exact ih3 _ _ _ _ _ _ _ _ _ _ _)
   | (with_reducible exact ih4 _ _ _ _ _)
   | (with_reducible exact ih5 _ _ _ _ _ _ _ _ _ _ _ _)
   | (with_reducible exact jobshellref16_Valid.mono _ _)
   | (with_reducible exact jobshellref16_find.mono _ _ _)
   | (with_reducible exact LeO.refl _)
   | (with_reducible exact LeO.none _)
   | (with_reducible refine LeO.ite ?_ ?_)
   | (with_reducible refine LeO.bind ?_ (fun _ => ?_))
   | exact ih0 _ _ _ _ _
   | exact ih1 _ _ _ _ _ _ _ _
   | exact ih2 _ _ _ _ _ _ _ _ _
   | exact ih3 _ _ _ _ _ _ _ _ _ _ _
   | exact ih4 _ _ _ _ _
   | exact ih5 _ _ _ _ _ _ _ _ _ _ _ _
   | exact jobshellref16_Valid.mono _ _
   | exact jobshellref16_find.mono _ _ _
   | exact LeO.none _
   | refine LeO.ite ?_ ?_
   | refine LeO.bind ?_ (fun _ => ?_)
def jobshellref16_Next.T23 : Bool × List (List Nat × List Nat) := (true, [([], []), ([], []), ([], []), ([2], [2]), ([1, 3], [1, 3]), ([0, 4], [0, 4]), ([], []), ([5, 0, 1, 2, 3, 4, 5], [5]), ([6, 7, 0, 1, 2, 3, 4, 5, 6, 7], [6]), ([8, 0, 1, 2, 3, 4, 5, 6, 7, 8], [])])
def jobshellref16_Next.B23 : List Nat := [0, 0, 0, 4, 14, 31, 0, 63, 255, 511]
theorem jobshellref16_Next.tab23 : rtab .any (opsOf Try.f14 23) = jobshellref16_Next.T23 := by kernel_rfl
theorem jobshellref16_Next.bits23 : waitsOk jobshellref16_Next.T23.2 jobshellref16_Next.B23 = true := by kernel_rfl
def jobshellref16_Next.T25 : Bool × List (List Nat × List Nat) := (true, [([], []), ([], []), ([], []), ([2], [2]), ([1, 3], [1, 3]), ([4], [4]), ([0, 5], [0, 5]), ([], []), ([7], [7]), ([8], [8]), ([9], [9]), ([6, 0, 1, 2, 3, 4, 5, 6], [6]), ([10, 11, 0, 1, 2, 3, 4, 5, 6, 7, 8, 9, 10, 11], [10]), ([12, 0, 1, 2, 3, 4, 5, 6, 7, 8, 9, 10, 11, 12], [])])
def jobshellref16_Next.B25 : List Nat := [0, 0, 0, 4, 14, 30, 63, 0, 128, 384, 896, 127, 4095, 8191]
theorem jobshellref16_Next.tab25 : rtab .any (opsOf Try.f14 25) = jobshellref16_Next.T25 := by kernel_rfl
theorem jobshellref16_Next.bits25 : waitsOk jobshellref16_Next.T25.2 jobshellref16_Next.B25 = true := by kernel_rfl
set_option maxHeartbeats 40000000 in
set_option maxRecDepth 100000 in
theorem jobshellref16_Next.calls (k : Nat) (a0 : ByteArray) (A1 : Option Addr) (c1 : Nat) (l1 : List ByteArray) (a2_0 : Int) (a2_1 : Int) (r1 : ByteArray) (r2 : ByteArray) (r3 : Int) (r4 : ByteArray) (r5 : Int) (r6 : Int) (r7 : Int) (w : World) (hr1 : Kd.C Kd.string w A1 l1.length l1) (hc1 : l1.length ≤ c1) (h : jobshellref16_Next.f k a0 l1 a2_0 a2_1 = some (r1, r2, r3, r4, r5, r6, r7)) :
  Calls Try.prog 14 #[.string a0, .slice A1 l1.length c1, .agg #[.int .i64 a2_0, .int .i64 a2_1]] w fun e w' => e = .returned (.tuple #[.agg #[.string r1, .string r2, .int .i64 r3, .string r4], .agg #[.int .i64 r5, .int .i64 r6], .int .i64 r7]) ∧ Below w.heap.size w w' := by
 have hu29 := Try.underlying29; have hu32 := Try.underlying32
 have HR1 := Aside0.mk hr1
 have HC1 := Aside0.mk hc1
 clear hr1 hc1
 have HB := Aside0.mk (Below.refl w.heap.size w)
 have H : ((jobshellref16_Valid.f k a0).bind fun t212 => (if t212 = 0 then (if a2_0 < 1 then (jobshellref16_Next.j0 k a0 l1 true a2_0 a2_1) else (if a2_1 < 0 then (jobshellref16_Next.j0 k a0 l1 true a2_0 a2_1) else (if a2_1 > 0 then (if a2_0 > (l1.length : Int) then (jobshellref16_Next.j0 k a0 l1 true a2_0 a2_1) else (if 0 ≤ (wrap64 (a2_0 - 1)) then (if (wrap64 (a2_0 - 1)) < (l1.length : Int) then (jobshellref16_Next.j0 k a0 l1 (decide (a2_1 ≥ ((rdOf ByteArray.empty l1 (wrap64 (a2_0 - 1))).size : Int))) a2_0 a2_1) else (none)) else (none))) else (jobshellref16_Next.j0 k a0 l1 false a2_0 a2_1)))) else (some ((⟨#[]⟩ : ByteArray), (⟨#[]⟩ : ByteArray), 0, (⟨#[]⟩ : ByteArray), 0, 0, t212)))) = some (r1, r2, r3, r4, r5, r6, r7) := h
 clear h
 replace H := Option.bind_eq_some_iff.mp H
 obtain ⟨t212, A40, H⟩ := H
 replace H : (if t212 = 0 then (if a2_0 < 1 then (jobshellref16_Next.j0 k a0 l1 true a2_0 a2_1) else (if a2_1 < 0 then (jobshellref16_Next.j0 k a0 l1 true a2_0 a2_1) else (if a2_1 > 0 then (if a2_0 > (l1.length : Int) then (jobshellref16_Next.j0 k a0 l1 true a2_0 a2_1) else (if 0 ≤ (wrap64 (a2_0 - 1)) then (if (wrap64 (a2_0 - 1)) < (l1.length : Int) then (jobshellref16_Next.j0 k a0 l1 (decide (a2_1 ≥ ((rdOf ByteArray.empty l1 (wrap64 (a2_0 - 1))).size : Int))) a2_0 a2_1) else (none)) else (none))) else (jobshellref16_Next.j0 k a0 l1 false a2_0 a2_1)))) else (some ((⟨#[]⟩ : ByteArray), (⟨#[]⟩ : ByteArray), 0, (⟨#[]⟩ : ByteArray), 0, 0, t212))) = some (r1, r2, r3, r4, r5, r6, r7) := H
 have A4 := Aside0.mk A40
 clear A40
 by_cases c5 : t212 = 0
 ·rw [if_pos c5] at H
  have c5b0 : (t212 == 0) = true := beq_iff_eq.mpr c5
  have c5b1 : (t212 != 0) = false := bne_eq_false_iff_eq.mpr c5
  clear c5
  have HC6 := Aside0.mk H
  clear H
  go_enter Try.func14, Try.ntmps14
  iterate 6 (try (go_upto_region 4 with (first | ((with_reducible refine gate_dst (N := 5) rfl ?_); (try (refine gate_guard (by rfl) ?_; dsimp only)); refine box_event ?hg (N := 5) ?hd (cs := #[.int .i64 a2_0, .int .i64 a2_1]) (t := 29) ?hr ?_; (case hd => rfl); (case hg => rfl); (case hr => first | (go_simp; done) | (go_simp; rfl)); intro gb209 hg w7 hbox hb; have n0_ := Aside0.mk (below_step (by repeat (first | (with_reducible first | exact HB.out | apply below_alloc | apply pw_below_drewN | apply below_drew1) | exact HB.out)) hb); have n1_ := Aside0.mk (hbox); have n2_ := Aside0.mk ((by rw [hg]; exact (below_size (by repeat (first | (with_reducible first | exact HB.out | apply below_alloc | apply pw_below_drewN | apply below_drew1) | exact HB.out))) : w.heap.size ≤ gb209)); have n3_ := Aside0.mk ((by rw [hg]; exact (below_size (by repeat (first | (with_reducible first | exact HB.out | apply below_alloc | apply pw_below_drewN | apply below_drew1) | exact HB.out))) : w.heap.size ≤ gb209)); clear HB; have HB := n0_; have BK209 := n1_; have GW209 := n2_; have GE209 := n3_; clear n0_ n1_ n2_ n3_; clear hb hbox hg) | ((with_reducible refine gate_dst (N := 6) rfl ?_); (try (refine gate_guard (by rfl) ?_; dsimp only)); refine box_event ?hg (N := 6) ?hd (cs := #[.string (⟨#[]⟩ : ByteArray), .string (⟨#[]⟩ : ByteArray), .int .i64 0, .string (⟨#[]⟩ : ByteArray)]) (t := 32) ?hr ?_; (case hd => rfl); (case hg => rfl); (case hr => first | (go_simp; done) | (go_simp; rfl)); intro gb210 hg w8 hbox hb; have n0_ := Aside0.mk (blk_below (g := gb209) (o := .cells #[.int .i64 a2_0, .int .i64 a2_1] 29 (0, 0)) (by (with_reducible repeat (first | apply bq | apply bd | apply ba)); exact BK209.out) hb); have n1_ := Aside0.mk (below_step (by repeat (first | (with_reducible first | exact HB.out | apply below_alloc | apply pw_below_drewN | apply below_drew1 | refine below_set ?_ GE209.out) | exact HB.out)) hb); have n2_ := Aside0.mk (hbox); have n3_ := Aside0.mk ((by rw [hg]; exact (below_size (by repeat (first | (with_reducible first | exact HB.out | apply below_alloc | apply pw_below_drewN | apply below_drew1 | refine below_set ?_ GE209.out) | exact HB.out))) : w.heap.size ≤ gb210)); have n4_ := Aside0.mk ((by rw [hg]; exact (below_size (by repeat (first | (with_reducible first | exact HB.out | apply below_alloc | apply pw_below_drewN | apply below_drew1 | refine below_set ?_ GE209.out) | exact HB.out))) : w.heap.size ≤ gb210)); have n5_ := Aside0.mk ((by rw [hg]; exact Nat.ne_of_lt (blk_lt (g := gb209) (o := .cells #[.int .i64 a2_0, .int .i64 a2_1] 29 (0, 0)) (by (with_reducible repeat (first | apply bq | apply bd | apply ba)); exact BK209.out)) : gb209 ≠ gb210)); have n6_ := Aside0.mk ((by rw [hg]; exact Nat.ne_of_gt (blk_lt (g := gb209) (o := .cells #[.int .i64 a2_0, .int .i64 a2_1] 29 (0, 0)) (by (with_reducible repeat (first | apply bq | apply bd | apply ba)); exact BK209.out)) : gb210 ≠ gb209)); clear BK209; clear HB; have BK209 := n0_; have HB := n1_; have BK210 := n2_; have GW210 := n3_; have GE210 := n4_; have NB209_210 := n5_; have NB210_209 := n6_; clear n0_ n1_ n2_ n3_ n4_ n5_ n6_; clear hb hbox hg) | ((with_reducible refine gate_dst (N := 7) rfl ?_); (try (refine gate_guard (by rfl) ?_; dsimp only)); refine box_event ?hg (N := 7) ?hd (cs := #[.int .i64 0, .int .i64 0]) (t := 29) ?hr ?_; (case hd => rfl); (case hg => rfl); (case hr => first | (go_simp; done) | (go_simp; rfl)); intro gb211 hg w9 hbox hb; have n0_ := Aside0.mk (blk_below (g := gb209) (o := .cells #[.int .i64 a2_0, .int .i64 a2_1] 29 (0, 0)) (by (with_reducible repeat (first | apply bq | apply bd | apply ba)); exact BK209.out) hb); have n1_ := Aside0.mk (blk_below (g := gb210) (o := .cells #[.string (⟨#[]⟩ : ByteArray), .string (⟨#[]⟩ : ByteArray), .int .i64 0, .string (⟨#[]⟩ : ByteArray)] 32 (0, 0)) (by (with_reducible repeat (first | apply bq | apply bd | apply ba)); exact BK210.out) hb); have n2_ := Aside0.mk (below_step (by repeat (first | (with_reducible first | exact HB.out | apply below_alloc | apply pw_below_drewN | apply below_drew1 | refine below_set ?_ GE209.out | refine below_set ?_ GE210.out) | exact HB.out)) hb); have n3_ := Aside0.mk (hbox); have n4_ := Aside0.mk ((by rw [hg]; exact (below_size (by repeat (first | (with_reducible first | exact HB.out | apply below_alloc | apply pw_below_drewN | apply below_drew1 | refine below_set ?_ GE209.out | refine below_set ?_ GE210.out) | exact HB.out))) : w.heap.size ≤ gb211)); have n5_ := Aside0.mk ((by rw [hg]; exact (below_size (by repeat (first | (with_reducible first | exact HB.out | apply below_alloc | apply pw_below_drewN | apply below_drew1 | refine below_set ?_ GE209.out | refine below_set ?_ GE210.out) | exact HB.out))) : w.heap.size ≤ gb211)); have n6_ := Aside0.mk ((by rw [hg]; exact Nat.ne_of_lt (blk_lt (g := gb209) (o := .cells #[.int .i64 a2_0, .int .i64 a2_1] 29 (0, 0)) (by (with_reducible repeat (first | apply bq | apply bd | apply ba)); exact BK209.out)) : gb209 ≠ gb211)); have n7_ := Aside0.mk ((by rw [hg]; exact Nat.ne_of_gt (blk_lt (g := gb209) (o := .cells #[.int .i64 a2_0, .int .i64 a2_1] 29 (0, 0)) (by (with_reducible repeat (first | apply bq | apply bd | apply ba)); exact BK209.out)) : gb211 ≠ gb209)); have n8_ := Aside0.mk ((by rw [hg]; exact Nat.ne_of_lt (blk_lt (g := gb210) (o := .cells #[.string (⟨#[]⟩ : ByteArray), .string (⟨#[]⟩ : ByteArray), .int .i64 0, .string (⟨#[]⟩ : ByteArray)] 32 (0, 0)) (by (with_reducible repeat (first | apply bq | apply bd | apply ba)); exact BK210.out)) : gb210 ≠ gb211)); have n9_ := Aside0.mk ((by rw [hg]; exact Nat.ne_of_gt (blk_lt (g := gb210) (o := .cells #[.string (⟨#[]⟩ : ByteArray), .string (⟨#[]⟩ : ByteArray), .int .i64 0, .string (⟨#[]⟩ : ByteArray)] 32 (0, 0)) (by (with_reducible repeat (first | apply bq | apply bd | apply ba)); exact BK210.out)) : gb211 ≠ gb210)); clear BK209; clear BK210; clear HB; have BK209 := n0_; have BK210 := n1_; have HB := n2_; have BK211 := n3_; have GW211 := n4_; have GE211 := n5_; have NB209_211 := n6_; have NB211_209 := n7_; have NB210_211 := n8_; have NB211_210 := n9_; clear n0_ n1_ n2_ n3_ n4_ n5_ n6_ n7_ n8_ n9_; clear hb hbox hg) | ((with_reducible refine gate_callee (f := 11) rfl ?_); refine goesL_ (some 19) rfl rfl Try.func11 (by kernel_rfl) rfl #[.string a0] rfl (by (try simp only [List.map_toArray, List.map_cons, List.map_nil]); first | done | rfl | (simp only [List.length_drop, List.length_take]; rfl)) ?_; (with_reducible refine (jobshellref16_Valid.calls k a0 t212 _ A4.out).mono ?_); rintro e w10 ⟨rfl, hb⟩; refine ⟨_, rfl, ?_⟩; have n0_ := Aside0.mk (blk_below (g := gb209) (o := .cells #[.int .i64 a2_0, .int .i64 a2_1] 29 (0, 0)) (by (with_reducible repeat (first | apply bq | apply bd | apply ba)); exact BK209.out) hb); have n1_ := Aside0.mk (blk_below (g := gb210) (o := .cells #[.string (⟨#[]⟩ : ByteArray), .string (⟨#[]⟩ : ByteArray), .int .i64 0, .string (⟨#[]⟩ : ByteArray)] 32 (0, 0)) (by (with_reducible repeat (first | apply bq | apply bd | apply ba)); exact BK210.out) hb); have n2_ := Aside0.mk (blk_below (g := gb211) (o := .cells #[.int .i64 0, .int .i64 0] 29 (0, 0)) (by (with_reducible repeat (first | apply bq | apply bd | apply ba)); exact BK211.out) hb); have n3_ := Aside0.mk (below_step (by repeat (first | (with_reducible first | exact HB.out | apply below_alloc | apply pw_below_drewN | apply below_drew1 | refine below_set ?_ GE209.out | refine below_set ?_ GE210.out | refine below_set ?_ GE211.out) | exact HB.out)) hb); clear BK209; clear BK210; clear BK211; clear HB; have BK209 := n0_; have BK210 := n1_; have BK211 := n2_; have HB := n3_; clear n0_ n1_ n2_ n3_; (try clear hb); (try clear hb2); (try clear hk); (try clear hi)))); try go_quiet (fail))
  (try simp only [Act.put, sb_, sz_, ss_])
  go_cut [56] (fun v56 wc => ∃ (kq : Nat) (x56_5 : Bool), v56 = .bool x56_5 ∧ Aside0 (jobshellref16_Next.j0 kq a0 l1 x56_5 a2_0 a2_1 = some (r1, r2, r3, r4, r5, r6, r7)) ∧ Aside0 (kq ≤ k) ∧ Aside0 (wc.heap[gb209]? = some (.cells #[.int .i64 a2_0, .int .i64 a2_1] 29 (0, 0))) ∧ Aside0 (wc.heap[gb210]? = some (.cells #[.string (⟨#[]⟩ : ByteArray), .string (⟨#[]⟩ : ByteArray), .int .i64 0, .string (⟨#[]⟩ : ByteArray)] 32 (0, 0))) ∧ Aside0 (wc.heap[gb211]? = some (.cells #[.int .i64 0, .int .i64 0] 29 (0, 0))) ∧ Aside0 (Below w.heap.size w wc))
  case first => as_aux_lemma =>
   have H := HC6.out; clear HC6
   by_cases c11 : a2_0 < 1
   ·rw [if_pos c11] at H
    have c11b0 : decide (a2_0 < 1) = true := decide_eq_true c11
    clear c11
    (first | rw [c11b0] | (simp only [i64_w, i32_w]; rw [c11b0]) | skip)
    have H' := Aside0.mk H
    clear H; have hnb12 := NB209_210.out; have hnc12 := NB210_209.out; have hnb13 := NB209_211.out; have hnc13 := NB211_209.out
    have hcz14_0 : w10.cell? ⟨gb209,0,none⟩ = some (.int .i64 a2_0) := (blk_cell BK209.out 0).trans rfl
    have hcz14_1 : w10.cell? ⟨gb209,1,none⟩ = some (.int .i64 a2_1) := (blk_cell BK209.out 1).trans rfl
    have hfz14_0 := blk_frozen BK209.out 0
    have hfz14_1 := blk_frozen BK209.out 1
    iterate 6 (try go_wp2; try go_quiet (fail))
    go_meet
    case rel => exact ⟨_, (true), (by first | rfl | (simp; done) | (simp [*]; done)), H', ⟨by first | omega | exact Nat.le_refl _⟩, ⟨by (with_reducible repeat (first | apply bq | apply bd | apply ba)); exact BK209.out⟩, ⟨by (with_reducible repeat (first | apply bq | apply bd | apply ba)); exact BK210.out⟩, ⟨by (with_reducible repeat (first | apply bq | apply bd | apply ba)); exact BK211.out⟩, ⟨by repeat (first | (with_reducible first | exact HB.out | apply below_alloc | apply pw_below_drewN | apply below_drew1 | refine below_set ?_ GE209.out | refine below_set ?_ GE210.out | refine below_set ?_ GE211.out) | exact HB.out)⟩⟩
   rw [if_neg c11] at H
   have c11b0 : decide (a2_0 < 1) = false := decide_eq_false c11
   clear c11
   (first | rw [c11b0] | (simp only [i64_w, i32_w]; rw [c11b0]) | skip)
   by_cases c15 : a2_1 < 0
   ·rw [if_pos c15] at H
    have c15b0 : decide (a2_1 < 0) = true := decide_eq_true c15
    clear c15
    have H' := Aside0.mk H
    clear H; have hnb16 := NB209_210.out; have hnc16 := NB210_209.out; have hnb17 := NB209_211.out; have hnc17 := NB211_209.out
    have hcz18_0 : w10.cell? ⟨gb209,0,none⟩ = some (.int .i64 a2_0) := (blk_cell BK209.out 0).trans rfl
    have hcz18_1 : w10.cell? ⟨gb209,1,none⟩ = some (.int .i64 a2_1) := (blk_cell BK209.out 1).trans rfl
    have hfz18_0 := blk_frozen BK209.out 0
    have hfz18_1 := blk_frozen BK209.out 1
    iterate 6 (try go_wp2; try go_quiet (fail))
    go_meet
    case rel => exact ⟨_, (true), (by first | rfl | (simp; done) | (simp [*]; done)), H', ⟨by first | omega | exact Nat.le_refl _⟩, ⟨by (with_reducible repeat (first | apply bq | apply bd | apply ba)); exact BK209.out⟩, ⟨by (with_reducible repeat (first | apply bq | apply bd | apply ba)); exact BK210.out⟩, ⟨by (with_reducible repeat (first | apply bq | apply bd | apply ba)); exact BK211.out⟩, ⟨by repeat (first | (with_reducible first | exact HB.out | apply below_alloc | apply pw_below_drewN | apply below_drew1 | refine below_set ?_ GE209.out | refine below_set ?_ GE210.out | refine below_set ?_ GE211.out) | exact HB.out)⟩⟩
   rw [if_neg c15] at H
   have c15b0 : decide (a2_1 < 0) = false := decide_eq_false c15
   clear c15
   by_cases c19 : a2_1 > 0
   ·rw [if_pos c19] at H
    have c19b0 : decide (0 < a2_1) = true := decide_eq_true c19
    clear c19
    by_cases c20 : a2_0 > (l1.length : Int)
    ·rw [if_pos c20] at H
     have c20b0 : decide ((l1.length : Int) < a2_0) = true := decide_eq_true c20
     clear c20
     have H' := Aside0.mk H
     clear H; have hnb21 := NB209_210.out; have hnc21 := NB210_209.out; have hnb22 := NB209_211.out; have hnc22 := NB211_209.out
     have hcz23_0 : w10.cell? ⟨gb209,0,none⟩ = some (.int .i64 a2_0) := (blk_cell BK209.out 0).trans rfl
     have hcz23_1 : w10.cell? ⟨gb209,1,none⟩ = some (.int .i64 a2_1) := (blk_cell BK209.out 1).trans rfl
     have hfz23_0 := blk_frozen BK209.out 0
     have hfz23_1 := blk_frozen BK209.out 1
     iterate 6 (try go_wp2; try go_quiet (fail))
     go_meet
     case rel => exact ⟨_, (true), (by first | rfl | (simp; done) | (simp [*]; done)), H', ⟨by first | omega | exact Nat.le_refl _⟩, ⟨by (with_reducible repeat (first | apply bq | apply bd | apply ba)); exact BK209.out⟩, ⟨by (with_reducible repeat (first | apply bq | apply bd | apply ba)); exact BK210.out⟩, ⟨by (with_reducible repeat (first | apply bq | apply bd | apply ba)); exact BK211.out⟩, ⟨by repeat (first | (with_reducible first | exact HB.out | apply below_alloc | apply pw_below_drewN | apply below_drew1 | refine below_set ?_ GE209.out | refine below_set ?_ GE210.out | refine below_set ?_ GE211.out) | exact HB.out)⟩⟩
    rw [if_neg c20] at H
    have c20b0 : decide ((l1.length : Int) < a2_0) = false := decide_eq_false c20
    clear c20
    obtain ⟨ji24, hji24⟩ : ∃ j_ : Int, (wrap64 (a2_0 - 1)) = j_ := ⟨_, rfl⟩
    replace H : (if 0 ≤ (ji24) then (if (ji24) < (l1.length : Int) then (jobshellref16_Next.j0 k a0 l1 (decide (a2_1 ≥ ((rdOf ByteArray.empty l1 (ji24)).size : Int))) a2_0 a2_1) else (none)) else (none)) = some (r1, r2, r3, r4, r5, r6, r7) := by first | (rw [hji24] at H; exact H) | (simp only [hji24] at H ⊢; exact H)
    have hji24w : (IntKind.i64.wrap (a2_0 - 1)) = ji24 := (i64_w _).trans hji24
    by_cases c25 : 0 ≤ (ji24)
    ·rw [if_pos c25] at H
     have c25b0 : decide (0 ≤ (ji24)) = true := decide_eq_true c25
     clear c25
     by_cases c26 : (ji24) < (l1.length : Int)
     ·rw [if_pos c26] at H
      have c26b0 : decide ((ji24) < (l1.length : Int)) = true := decide_eq_true c26
      clear c26
      have H' := Aside0.mk H
      clear H; have hnb27 := NB209_210.out; have hnc27 := NB210_209.out; have hnb28 := NB209_211.out; have hnc28 := NB211_209.out
      have hcz29_0 : w10.cell? ⟨gb209,0,none⟩ = some (.int .i64 a2_0) := (blk_cell BK209.out 0).trans rfl
      have hcz29_1 : w10.cell? ⟨gb209,1,none⟩ = some (.int .i64 a2_1) := (blk_cell BK209.out 1).trans rfl
      have hfz29_0 := blk_frozen BK209.out 0
      have hfz29_1 := blk_frozen BK209.out 1
      have p213 : 0 ≤ ((ji24) : Int) := of_decide_eq_true (by first | (with_reducible assumption) | assumption)
      have q213 : (ji24) < (l1.length : Int) := of_decide_eq_true (by first | (with_reducible assumption) | assumption)
      obtain ⟨ad213, e213, hx213_0⟩ := Kd.at_string HR1.out (ji24) p213 q213
      cases e213
      replace hx213_0 := (HB.out.cell (World.block_lt_of_cell? w _ hx213_0)).trans hx213_0
      replace p213 := eq_true p213
      replace q213 := eq_true q213
      iterate 6 (try go_wp2; try go_quiet (fail))
      go_meet
      case rel => exact ⟨_, (decide (a2_1 ≥ ((rdOf ByteArray.empty l1 (ji24)).size : Int))), (by first | rfl | (simp; done) | (simp only [← hji24] <;> (first | rfl | simp)) | (simp [*]; done)), H', ⟨by first | omega | exact Nat.le_refl _⟩, ⟨by (with_reducible repeat (first | apply bq | apply bd | apply ba)); exact BK209.out⟩, ⟨by (with_reducible repeat (first | apply bq | apply bd | apply ba)); exact BK210.out⟩, ⟨by (with_reducible repeat (first | apply bq | apply bd | apply ba)); exact BK211.out⟩, ⟨by repeat (first | (with_reducible first | exact HB.out | apply below_alloc | apply pw_below_drewN | apply below_drew1 | refine below_set ?_ GE209.out | refine below_set ?_ GE210.out | refine below_set ?_ GE211.out) | exact HB.out)⟩⟩
     rw [if_neg c26] at H
     exact absurd H (by simp)
    rw [if_neg c25] at H
    exact absurd H (by simp)
   rw [if_neg c19] at H
   have c19b0 : decide (0 < a2_1) = false := decide_eq_false c19
   clear c19
   have H' := Aside0.mk H
   clear H; have hnb30 := NB209_210.out; have hnc30 := NB210_209.out; have hnb31 := NB209_211.out; have hnc31 := NB211_209.out
   have hcz32_0 : w10.cell? ⟨gb209,0,none⟩ = some (.int .i64 a2_0) := (blk_cell BK209.out 0).trans rfl
   have hcz32_1 : w10.cell? ⟨gb209,1,none⟩ = some (.int .i64 a2_1) := (blk_cell BK209.out 1).trans rfl
   have hfz32_0 := blk_frozen BK209.out 0
   have hfz32_1 := blk_frozen BK209.out 1
   iterate 6 (try go_wp2; try go_quiet (fail))
   go_meet
   case rel => exact ⟨_, (false), (by first | rfl | (simp; done) | (simp [*]; done)), H', ⟨by first | omega | exact Nat.le_refl _⟩, ⟨by (with_reducible repeat (first | apply bq | apply bd | apply ba)); exact BK209.out⟩, ⟨by (with_reducible repeat (first | apply bq | apply bd | apply ba)); exact BK210.out⟩, ⟨by (with_reducible repeat (first | apply bq | apply bd | apply ba)); exact BK211.out⟩, ⟨by repeat (first | (with_reducible first | exact HB.out | apply below_alloc | apply pw_below_drewN | apply below_drew1 | refine below_set ?_ GE209.out | refine below_set ?_ GE210.out | refine below_set ?_ GE211.out) | exact HB.out)⟩⟩
  case rest => as_aux_lemma =>
   clear HC6; (try clear c1); (try clear c2); (try clear p2); (try clear q2); (try clear hx2); (try clear c3); (try clear c5); (try clear c5b0); (try clear c5b1); (try clear p6); (try clear c11); (try clear c11b0); (try clear c12); (try clear c13); (try clear c14); (try clear c15); (try clear c15b0); (try clear c16); (try clear c17); (try clear c19); (try clear c19b0); (try clear c20); (try clear c20b0); (try clear c21); (try clear p21); (try clear q21); (try clear hx21); (try clear c22); (try clear c25); (try clear c25b0); (try clear c26); (try clear c26b0); (try clear c27); (try clear c28); (try clear c30); (try clear c31); (try clear hcz14_0); (try clear hcz14_1); (try clear hcz18_0); (try clear hcz18_1); (try clear hcz23_0); (try clear hcz23_1); (try clear hcz29_0); (try clear hcz29_1); (try clear hcz32_0); (try clear hcz32_1); (try clear hfz14_0); (try clear hfz14_1); (try clear hfz18_0); (try clear hfz18_1); (try clear hfz23_0); (try clear hfz23_1); (try clear hfz29_0); (try clear hfz29_1); (try clear hfz32_0); (try clear hfz32_1); (try clear hx213_0); (try clear p213); (try clear q213)
   obtain ⟨kq, x56_5, rfl, HA, HJ5, BK209, BK210, BK211, HB⟩ := hcut
   cases kq with
   | zero => exact absurd HA.out (by simp [jobshellref16_Next.j0])
   | succ kj5 =>
    have H := HA.out; clear HA
    simp only [jobshellref16_Next.j0] at H
    by_cases c33 : x56_5 = true
    ·subst c33
     have H1 : (some ((⟨#[]⟩ : ByteArray), (⟨#[]⟩ : ByteArray), 0, (⟨#[]⟩ : ByteArray), 0, 0, 2)) = some (r1, r2, r3, r4, r5, r6, r7) := by rw [if_pos rfl] at H; exact H
     clear H; have H := H1; clear H1
     simp only [Option.some.injEq, Prod.mk.injEq] at H
     obtain ⟨rfl, rfl, rfl, rfl, rfl, rfl, rfl⟩ := H
     have hnb34 := NB210_209.out; have hnc34 := NB209_210.out; have hnb35 := NB210_211.out; have hnc35 := NB211_210.out
     have hcz36_0 : wc.cell? ⟨gb210,0,none⟩ = some (.string (⟨#[]⟩ : ByteArray)) := (blk_cell BK210.out 0).trans rfl
     have hcz36_1 : wc.cell? ⟨gb210,1,none⟩ = some (.string (⟨#[]⟩ : ByteArray)) := (blk_cell BK210.out 1).trans rfl
     have hcz36_2 : wc.cell? ⟨gb210,2,none⟩ = some (.int .i64 0) := (blk_cell BK210.out 2).trans rfl
     have hcz36_3 : wc.cell? ⟨gb210,3,none⟩ = some (.string (⟨#[]⟩ : ByteArray)) := (blk_cell BK210.out 3).trans rfl
     have hfz36_0 := blk_frozen BK210.out 0
     have hfz36_1 := blk_frozen BK210.out 1
     have hfz36_2 := blk_frozen BK210.out 2
     have hfz36_3 := blk_frozen BK210.out 3
     have hnb37 := NB211_209.out; have hnc37 := NB209_211.out
     have hcz38_0 : wc.cell? ⟨gb211,0,none⟩ = some (.int .i64 0) := (blk_cell BK211.out 0).trans rfl
     have hcz38_1 : wc.cell? ⟨gb211,1,none⟩ = some (.int .i64 0) := (blk_cell BK211.out 1).trans rfl
     have hfz38_0 := blk_frozen BK211.out 0
     have hfz38_1 := blk_frozen BK211.out 1
     iterate 6 (try go_wp2; try go_quiet (fail))
     refine bodyPost_ret (results_list (rs := [.cell 6 32, .cell 7 29, .tmp 8]) rfl (by simp) (.cell gb210 32 #[.string (⟨#[]⟩ : ByteArray), .string (⟨#[]⟩ : ByteArray), .int .i64 0, .string (⟨#[]⟩ : ByteArray)] (0, 0) _ rfl (by (with_reducible repeat (first | apply bq | apply bd | apply ba)); refine blk_far ?_ NB210_211.out _; (with_reducible repeat (first | apply bq | apply bd | apply ba)); refine blk_far ?_ NB210_211.out _; (with_reducible repeat (first | apply bq | apply bd | apply ba)); refine blk_put (cs := #[.string (⟨#[]⟩ : ByteArray), .string (⟨#[]⟩ : ByteArray), .int .i64 0, .string (⟨#[]⟩ : ByteArray)]) ?_ 3 _ rfl; (with_reducible repeat (first | apply bq | apply bd | apply ba)); refine blk_put (cs := #[.string (⟨#[]⟩ : ByteArray), .string (⟨#[]⟩ : ByteArray), .int .i64 0, .string (⟨#[]⟩ : ByteArray)]) ?_ 2 _ rfl; (with_reducible repeat (first | apply bq | apply bd | apply ba)); refine blk_put (cs := #[.string (⟨#[]⟩ : ByteArray), .string (⟨#[]⟩ : ByteArray), .int .i64 0, .string (⟨#[]⟩ : ByteArray)]) ?_ 1 _ rfl; (with_reducible repeat (first | apply bq | apply bd | apply ba)); refine blk_put (cs := #[.string (⟨#[]⟩ : ByteArray), .string (⟨#[]⟩ : ByteArray), .int .i64 0, .string (⟨#[]⟩ : ByteArray)]) ?_ 0 _ rfl; (with_reducible repeat (first | apply bq | apply bd | apply ba)); exact BK210.out) Try.underlying32 rfl (by kernel_rfl) (.cell gb211 29 #[.int .i64 0, .int .i64 0] (0, 0) _ rfl (by (with_reducible repeat (first | apply bq | apply bd | apply ba)); refine blk_put (cs := #[.int .i64 0, .int .i64 0]) ?_ 1 _ rfl; (with_reducible repeat (first | apply bq | apply bd | apply ba)); refine blk_put (cs := #[.int .i64 0, .int .i64 0]) ?_ 0 _ rfl; (with_reducible repeat (first | apply bq | apply bd | apply ba)); refine blk_far ?_ NB211_210.out _; (with_reducible repeat (first | apply bq | apply bd | apply ba)); refine blk_far ?_ NB211_210.out _; (with_reducible repeat (first | apply bq | apply bd | apply ba)); refine blk_far ?_ NB211_210.out _; (with_reducible repeat (first | apply bq | apply bd | apply ba)); refine blk_far ?_ NB211_210.out _; (with_reducible repeat (first | apply bq | apply bd | apply ba)); exact BK211.out) Try.underlying29 rfl (by kernel_rfl) (.tmp .nil)))) rfl ?_
     exact ⟨by first | rfl | (simp [errW_none, errW_some] <;> rfl) | (simp [*, errW_none, errW_some] <;> rfl), by repeat (first | (with_reducible first | exact HB.out | apply below_alloc | apply pw_below_drewN | apply below_drew1 | refine below_set ?_ GE209.out | refine below_set ?_ GE210.out | refine below_set ?_ GE211.out) | exact HB.out)⟩
    ·replace c33 := Bool.eq_false_iff.mpr c33
     subst c33
     have H1 : (if a2_0 > (l1.length : Int) then (some ((⟨#[63]⟩ : ByteArray), (⟨#[]⟩ : ByteArray), 1, (⟨#[]⟩ : ByteArray), a2_0, a2_1, 0)) else (if 0 ≤ (wrap64 (a2_0 - 1)) then (if (wrap64 (a2_0 - 1)) < (l1.length : Int) then (if a2_1 = 0 then (if (rdOf ByteArray.empty l1 (wrap64 (a2_0 - 1))).toList = ([] : List UInt8) then (jobshellref16_Next.j1 kj5 a0 l1 (rdOf ByteArray.empty l1 (wrap64 (a2_0 - 1))) true a2_0 a2_1 (⟨#[63]⟩ : ByteArray) (⟨#[]⟩ : ByteArray) 1 (⟨#[]⟩ : ByteArray) (wrap64 (a2_0 + 1)) 0) else (if (rdOf ByteArray.empty l1 (wrap64 (a2_0 - 1))).toList = ([45] : List UInt8) then (jobshellref16_Next.j1 kj5 a0 l1 (rdOf ByteArray.empty l1 (wrap64 (a2_0 - 1))) true a2_0 a2_1 (⟨#[63]⟩ : ByteArray) (⟨#[]⟩ : ByteArray) 1 (⟨#[]⟩ : ByteArray) (wrap64 (a2_0 + 1)) 0) else (if 0 < ((rdOf ByteArray.empty l1 (wrap64 (a2_0 - 1))).size : Int) then (jobshellref16_Next.j1 kj5 a0 l1 (rdOf ByteArray.empty l1 (wrap64 (a2_0 - 1))) ((bt (rdOf ByteArray.empty l1 (wrap64 (a2_0 - 1))) 0) != 45) a2_0 a2_1 (⟨#[63]⟩ : ByteArray) (⟨#[]⟩ : ByteArray) 1 (⟨#[]⟩ : ByteArray) (wrap64 (a2_0 + 1)) 0) else (none)))) else (jobshellref16_Next.j2 kj5 a0 l1 (rdOf ByteArray.empty l1 (wrap64 (a2_0 - 1))) a2_1 a2_0 a2_1 (wrap64 (a2_0 + 1)) 0)) else (none)) else (none))) = some (r1, r2, r3, r4, r5, r6, r7) := by rw [if_neg (show ¬ (false = true) by decide)] at H; exact H
     clear H; have H := H1; clear H1
     by_cases c39 : a2_0 > (l1.length : Int)
     ·rw [if_pos c39] at H
      have c39b0 : decide ((l1.length : Int) < a2_0) = true := decide_eq_true c39
      clear c39
      simp only [Option.some.injEq, Prod.mk.injEq] at H
      obtain ⟨rfl, rfl, rfl, rfl, rfl, rfl, rfl⟩ := H
      iterate 6 (try go_wp2_with (first | ((with_reducible refine gate_dst (N := 10) rfl ?_); (try (refine gate_guard (by rfl) ?_; dsimp only)); refine box_event ?hg (N := 10) ?hd (cs := #[.string (⟨#[]⟩ : ByteArray), .string (⟨#[]⟩ : ByteArray), .int .i64 0, .string (⟨#[]⟩ : ByteArray)]) (t := 32) ?hr ?_; (case hd => rfl); (case hg => rfl); (case hr => first | (go_simp; done) | (go_simp; rfl)); intro gb214 hg w40 hbox hb; have n0_ := Aside0.mk (blk_below (g := gb209) (o := .cells #[.int .i64 a2_0, .int .i64 a2_1] 29 (0, 0)) (by (with_reducible repeat (first | apply bq | apply bd | apply ba)); exact BK209.out) hb); have n1_ := Aside0.mk (blk_below (g := gb210) (o := .cells #[.string (⟨#[]⟩ : ByteArray), .string (⟨#[]⟩ : ByteArray), .int .i64 0, .string (⟨#[]⟩ : ByteArray)] 32 (0, 0)) (by (with_reducible repeat (first | apply bq | apply bd | apply ba)); exact BK210.out) hb); have n2_ := Aside0.mk (blk_below (g := gb211) (o := .cells #[.int .i64 0, .int .i64 0] 29 (0, 0)) (by (with_reducible repeat (first | apply bq | apply bd | apply ba)); exact BK211.out) hb); have n3_ := Aside0.mk (below_step (by repeat (first | (with_reducible first | exact HB.out | apply below_alloc | apply pw_below_drewN | apply below_drew1 | refine below_set ?_ GE209.out | refine below_set ?_ GE210.out | refine below_set ?_ GE211.out) | exact HB.out)) hb); have n4_ := Aside0.mk (hbox); have n5_ := Aside0.mk ((by rw [hg]; exact (below_size (by repeat (first | (with_reducible first | exact HB.out | apply below_alloc | apply pw_below_drewN | apply below_drew1 | refine below_set ?_ GE209.out | refine below_set ?_ GE210.out | refine below_set ?_ GE211.out) | exact HB.out))) : w.heap.size ≤ gb214)); have n6_ := Aside0.mk ((by rw [hg]; exact (below_size (by repeat (first | (with_reducible first | exact HB.out | apply below_alloc | apply pw_below_drewN | apply below_drew1 | refine below_set ?_ GE209.out | refine below_set ?_ GE210.out | refine below_set ?_ GE211.out) | exact HB.out))) : w.heap.size ≤ gb214)); have n7_ := Aside0.mk ((by rw [hg]; exact Nat.ne_of_lt (blk_lt (g := gb209) (o := .cells #[.int .i64 a2_0, .int .i64 a2_1] 29 (0, 0)) (by (with_reducible repeat (first | apply bq | apply bd | apply ba)); exact BK209.out)) : gb209 ≠ gb214)); have n8_ := Aside0.mk ((by rw [hg]; exact Nat.ne_of_gt (blk_lt (g := gb209) (o := .cells #[.int .i64 a2_0, .int .i64 a2_1] 29 (0, 0)) (by (with_reducible repeat (first | apply bq | apply bd | apply ba)); exact BK209.out)) : gb214 ≠ gb209)); have n9_ := Aside0.mk ((by rw [hg]; exact Nat.ne_of_lt (blk_lt (g := gb210) (o := .cells #[.string (⟨#[]⟩ : ByteArray), .string (⟨#[]⟩ : ByteArray), .int .i64 0, .string (⟨#[]⟩ : ByteArray)] 32 (0, 0)) (by (with_reducible repeat (first | apply bq | apply bd | apply ba)); exact BK210.out)) : gb210 ≠ gb214)); have n10_ := Aside0.mk ((by rw [hg]; exact Nat.ne_of_gt (blk_lt (g := gb210) (o := .cells #[.string (⟨#[]⟩ : ByteArray), .string (⟨#[]⟩ : ByteArray), .int .i64 0, .string (⟨#[]⟩ : ByteArray)] 32 (0, 0)) (by (with_reducible repeat (first | apply bq | apply bd | apply ba)); exact BK210.out)) : gb214 ≠ gb210)); have n11_ := Aside0.mk ((by rw [hg]; exact Nat.ne_of_lt (blk_lt (g := gb211) (o := .cells #[.int .i64 0, .int .i64 0] 29 (0, 0)) (by (with_reducible repeat (first | apply bq | apply bd | apply ba)); exact BK211.out)) : gb211 ≠ gb214)); have n12_ := Aside0.mk ((by rw [hg]; exact Nat.ne_of_gt (blk_lt (g := gb211) (o := .cells #[.int .i64 0, .int .i64 0] 29 (0, 0)) (by (with_reducible repeat (first | apply bq | apply bd | apply ba)); exact BK211.out)) : gb214 ≠ gb211)); clear BK209; clear BK210; clear BK211; clear HB; have BK209 := n0_; have BK210 := n1_; have BK211 := n2_; have HB := n3_; have BK214 := n4_; have GW214 := n5_; have GE214 := n6_; have NB209_214 := n7_; have NB214_209 := n8_; have NB210_214 := n9_; have NB214_210 := n10_; have NB211_214 := n11_; have NB214_211 := n12_; clear n0_ n1_ n2_ n3_ n4_ n5_ n6_ n7_ n8_ n9_ n10_ n11_ n12_; clear hb hbox hg; have hnb41 := NB214_209.out; have hnc41 := NB209_214.out; have hnb42 := NB214_210.out; have hnc42 := NB210_214.out; have hnb43 := NB214_211.out; have hnc43 := NB211_214.out; have hcz44_0 : w40.cell? ⟨gb214,0,none⟩ = some (.string (⟨#[]⟩ : ByteArray)) := (blk_cell BK214.out 0).trans rfl; have hcz44_1 : w40.cell? ⟨gb214,1,none⟩ = some (.string (⟨#[]⟩ : ByteArray)) := (blk_cell BK214.out 1).trans rfl; have hcz44_2 : w40.cell? ⟨gb214,2,none⟩ = some (.int .i64 0) := (blk_cell BK214.out 2).trans rfl; have hcz44_3 : w40.cell? ⟨gb214,3,none⟩ = some (.string (⟨#[]⟩ : ByteArray)) := (blk_cell BK214.out 3).trans rfl; have hfz44_0 := blk_frozen BK214.out 0; have hfz44_1 := blk_frozen BK214.out 1; have hfz44_2 := blk_frozen BK214.out 2; have hfz44_3 := blk_frozen BK214.out 3; have hnb45 := NB209_210.out; have hnc45 := NB210_209.out; have hnb46 := NB209_211.out; have hnc46 := NB211_209.out; have hcz47_0 : w40.cell? ⟨gb209,0,none⟩ = some (.int .i64 a2_0) := (blk_cell BK209.out 0).trans rfl; have hcz47_1 : w40.cell? ⟨gb209,1,none⟩ = some (.int .i64 a2_1) := (blk_cell BK209.out 1).trans rfl; have hfz47_0 := blk_frozen BK209.out 0; have hfz47_1 := blk_frozen BK209.out 1)); try go_quiet (fail))
      have n0_ : Aside0 (((((w40.setCell ⟨gb214,0,none⟩ (.string (⟨#[63]⟩ : ByteArray))).setCell ⟨gb214,1,none⟩ (.string (⟨#[]⟩ : ByteArray))).setCell ⟨gb214,2,none⟩ (.int .i64 1)).setCell ⟨gb214,3,none⟩ (.string (⟨#[]⟩ : ByteArray))).heap[gb209]? = some (.cells #[.int .i64 a2_0, .int .i64 a2_1] 29 (0, 0))) := ⟨by (with_reducible repeat (first | apply bq | apply bd | apply ba)); refine blk_far ?_ NB209_214.out _; (with_reducible repeat (first | apply bq | apply bd | apply ba)); refine blk_far ?_ NB209_214.out _; (with_reducible repeat (first | apply bq | apply bd | apply ba)); refine blk_far ?_ NB209_214.out _; (with_reducible repeat (first | apply bq | apply bd | apply ba)); refine blk_far ?_ NB209_214.out _; (with_reducible repeat (first | apply bq | apply bd | apply ba)); exact BK209.out⟩
      have n1_ : Aside0 (((((w40.setCell ⟨gb214,0,none⟩ (.string (⟨#[63]⟩ : ByteArray))).setCell ⟨gb214,1,none⟩ (.string (⟨#[]⟩ : ByteArray))).setCell ⟨gb214,2,none⟩ (.int .i64 1)).setCell ⟨gb214,3,none⟩ (.string (⟨#[]⟩ : ByteArray))).heap[gb210]? = some (.cells #[.string (⟨#[]⟩ : ByteArray), .string (⟨#[]⟩ : ByteArray), .int .i64 0, .string (⟨#[]⟩ : ByteArray)] 32 (0, 0))) := ⟨by (with_reducible repeat (first | apply bq | apply bd | apply ba)); refine blk_far ?_ NB210_214.out _; (with_reducible repeat (first | apply bq | apply bd | apply ba)); refine blk_far ?_ NB210_214.out _; (with_reducible repeat (first | apply bq | apply bd | apply ba)); refine blk_far ?_ NB210_214.out _; (with_reducible repeat (first | apply bq | apply bd | apply ba)); refine blk_far ?_ NB210_214.out _; (with_reducible repeat (first | apply bq | apply bd | apply ba)); exact BK210.out⟩
      have n2_ : Aside0 (((((w40.setCell ⟨gb214,0,none⟩ (.string (⟨#[63]⟩ : ByteArray))).setCell ⟨gb214,1,none⟩ (.string (⟨#[]⟩ : ByteArray))).setCell ⟨gb214,2,none⟩ (.int .i64 1)).setCell ⟨gb214,3,none⟩ (.string (⟨#[]⟩ : ByteArray))).heap[gb211]? = some (.cells #[.int .i64 0, .int .i64 0] 29 (0, 0))) := ⟨by (with_reducible repeat (first | apply bq | apply bd | apply ba)); refine blk_far ?_ NB211_214.out _; (with_reducible repeat (first | apply bq | apply bd | apply ba)); refine blk_far ?_ NB211_214.out _; (with_reducible repeat (first | apply bq | apply bd | apply ba)); refine blk_far ?_ NB211_214.out _; (with_reducible repeat (first | apply bq | apply bd | apply ba)); refine blk_far ?_ NB211_214.out _; (with_reducible repeat (first | apply bq | apply bd | apply ba)); exact BK211.out⟩
      have n3_ : Aside0 (((((w40.setCell ⟨gb214,0,none⟩ (.string (⟨#[63]⟩ : ByteArray))).setCell ⟨gb214,1,none⟩ (.string (⟨#[]⟩ : ByteArray))).setCell ⟨gb214,2,none⟩ (.int .i64 1)).setCell ⟨gb214,3,none⟩ (.string (⟨#[]⟩ : ByteArray))).heap[gb214]? = some (.cells #[.string (⟨#[63]⟩ : ByteArray), .string (⟨#[]⟩ : ByteArray), .int .i64 1, .string (⟨#[]⟩ : ByteArray)] 32 (0, 0))) := ⟨by (with_reducible repeat (first | apply bq | apply bd | apply ba)); refine blk_put (cs := #[.string (⟨#[63]⟩ : ByteArray), .string (⟨#[]⟩ : ByteArray), .int .i64 1, .string (⟨#[]⟩ : ByteArray)]) ?_ 3 _ rfl; (with_reducible repeat (first | apply bq | apply bd | apply ba)); refine blk_put (cs := #[.string (⟨#[63]⟩ : ByteArray), .string (⟨#[]⟩ : ByteArray), .int .i64 0, .string (⟨#[]⟩ : ByteArray)]) ?_ 2 _ rfl; (with_reducible repeat (first | apply bq | apply bd | apply ba)); refine blk_put (cs := #[.string (⟨#[63]⟩ : ByteArray), .string (⟨#[]⟩ : ByteArray), .int .i64 0, .string (⟨#[]⟩ : ByteArray)]) ?_ 1 _ rfl; (with_reducible repeat (first | apply bq | apply bd | apply ba)); refine blk_put (cs := #[.string (⟨#[]⟩ : ByteArray), .string (⟨#[]⟩ : ByteArray), .int .i64 0, .string (⟨#[]⟩ : ByteArray)]) ?_ 0 _ rfl; (with_reducible repeat (first | apply bq | apply bd | apply ba)); exact BK214.out⟩
      have n4_ : Aside0 (Below w.heap.size w ((((w40.setCell ⟨gb214,0,none⟩ (.string (⟨#[63]⟩ : ByteArray))).setCell ⟨gb214,1,none⟩ (.string (⟨#[]⟩ : ByteArray))).setCell ⟨gb214,2,none⟩ (.int .i64 1)).setCell ⟨gb214,3,none⟩ (.string (⟨#[]⟩ : ByteArray)))) := ⟨by repeat (first | (with_reducible first | exact HB.out | apply below_alloc | apply pw_below_drewN | apply below_drew1 | refine below_set ?_ GE209.out | refine below_set ?_ GE210.out | refine below_set ?_ GE211.out | refine below_set ?_ GE214.out) | exact HB.out)⟩
      (try clear BK209)
      (try clear BK210)
      (try clear BK211)
      (try clear BK214)
      (try clear HB)
      (try simp only [fk_setCell_drewN, World.drewN_drewN])
      generalize ((((w40.setCell ⟨gb214,0,none⟩ (.string (⟨#[63]⟩ : ByteArray))).setCell ⟨gb214,1,none⟩ (.string (⟨#[]⟩ : ByteArray))).setCell ⟨gb214,2,none⟩ (.int .i64 1)).setCell ⟨gb214,3,none⟩ (.string (⟨#[]⟩ : ByteArray))) = w48 at n0_ n1_ n2_ n3_ n4_ ⊢
      have BK209 := n0_; have BK210 := n1_; have BK211 := n2_; have BK214 := n3_; have HB := n4_; clear n0_ n1_ n2_ n3_ n4_
      (try (rw [drewN_self w48]; generalize hq_ : World.drewN w48 _ = w48; have n0_ : Aside0 (w48.heap[gb209]? = some (.cells #[.int .i64 a2_0, .int .i64 a2_1] 29 (0, 0))) := ⟨by rw [← hq_]; exact (by (with_reducible repeat (first | apply bq | apply bd | apply ba)); exact BK209.out)⟩; have n1_ : Aside0 (w48.heap[gb210]? = some (.cells #[.string (⟨#[]⟩ : ByteArray), .string (⟨#[]⟩ : ByteArray), .int .i64 0, .string (⟨#[]⟩ : ByteArray)] 32 (0, 0))) := ⟨by rw [← hq_]; exact (by (with_reducible repeat (first | apply bq | apply bd | apply ba)); exact BK210.out)⟩; have n2_ : Aside0 (w48.heap[gb211]? = some (.cells #[.int .i64 0, .int .i64 0] 29 (0, 0))) := ⟨by rw [← hq_]; exact (by (with_reducible repeat (first | apply bq | apply bd | apply ba)); exact BK211.out)⟩; have n3_ : Aside0 (w48.heap[gb214]? = some (.cells #[.string (⟨#[63]⟩ : ByteArray), .string (⟨#[]⟩ : ByteArray), .int .i64 1, .string (⟨#[]⟩ : ByteArray)] 32 (0, 0))) := ⟨by rw [← hq_]; exact (by (with_reducible repeat (first | apply bq | apply bd | apply ba)); exact BK214.out)⟩; have n4_ : Aside0 (Below w.heap.size w w48) := ⟨by rw [← hq_]; exact (by repeat (first | (with_reducible first | exact HB.out | apply below_alloc | apply pw_below_drewN | apply below_drew1 | refine below_set ?_ GE209.out | refine below_set ?_ GE210.out | refine below_set ?_ GE211.out | refine below_set ?_ GE214.out) | exact HB.out))⟩; clear BK209 BK210 BK211 BK214 HB hq_; have BK209 := n0_; have BK210 := n1_; have BK211 := n2_; have BK214 := n3_; have HB := n4_; clear n0_ n1_ n2_ n3_ n4_))
      have n0_ := Aside0.mk (blk_drew BK209.out)
      have n1_ := Aside0.mk (blk_drew BK210.out)
      have n2_ := Aside0.mk (blk_drew BK211.out)
      have n3_ := Aside0.mk (blk_drew BK214.out)
      have n4_ := Aside0.mk (below_drew1 HB.out)
      clear BK209; clear BK210; clear BK211; clear BK214; clear HB; have BK209 := n0_; have BK210 := n1_; have BK211 := n2_; have BK214 := n3_; have HB := n4_; clear n0_ n1_ n2_ n3_ n4_
      refine start_ (n := 5) (S := fun w' => w'.cell? ⟨gb214,0,none⟩ = some (.string (⟨#[63]⟩ : ByteArray)) ∧ w'.cell? ⟨gb214,1,none⟩ = some (.string (⟨#[]⟩ : ByteArray)) ∧ w'.cell? ⟨gb214,2,none⟩ = some (.int .i64 1) ∧ w'.cell? ⟨gb214,3,none⟩ = some (.string (⟨#[]⟩ : ByteArray)) ∧ w'.cell? ⟨gb209,0,none⟩ = some (.int .i64 a2_0) ∧ w'.cell? ⟨gb209,1,none⟩ = some (.int .i64 a2_1)) (ds := []) #[ff,ff,ff,ff,ff] (by kernel_rfl) rfl rfl ⟨(blk_cell BK214.out 0).trans rfl, (blk_cell BK214.out 1).trans rfl, (blk_cell BK214.out 2).trans rfl, (blk_cell BK214.out 3).trans rfl, (blk_cell BK209.out 0).trans rfl, (blk_cell BK209.out 1).trans rfl⟩ (fun hHeld => ?_)
      generalize w48.drew = w49 at BK209 BK210 BK211 BK214 HB hHeld ⊢
      refine take_ (i := 0) (N := some 65) (v := ?_) (a' := ?_) #[tt,ff,ff,ff,ff] rfl rfl (by kernel_rfl) (fun _ _ _ h => h) (Or.inl ⟨by rfl, ?_⟩) hHeld ?_ ?_
      rotate_left
      ·rintro w' ⟨s0, s1, s2, s3, s4, s5⟩
       go_simp
       with_reducible rfl
      rotate_left
      ·simp only [Act.put, sb_, sz_, ss_, i64_w, i32_w]
       rfl
      refine take_ (i := 1) (N := some 66) (v := ?_) (a' := ?_) #[tt,tt,ff,ff,ff] rfl rfl (by kernel_rfl) (fun _ _ _ h => h) (Or.inl ⟨by rfl, ?_⟩) hHeld ?_ ?_
      rotate_left
      ·rintro w' ⟨s0, s1, s2, s3, s4, s5⟩
       go_simp
       with_reducible rfl
      rotate_left
      ·simp only [Act.put, sb_, sz_, ss_, i64_w, i32_w]
       rfl
      refine one_ (i := 2) (N := none) #[tt,tt,tt,ff,ff] rfl rfl (by kernel_rfl) (by decide) (fun K hK => ?_)
      have hs50 : w49.cell? ⟨gb210,0,none⟩ = some (.string (⟨#[]⟩ : ByteArray)) := (blk_cell BK210.out 0).trans rfl
      have hfs50 := blk_frozen BK210.out 0
      have hns50_0 := NB209_210.out; have hns50_2 := NB211_210.out; have hns50_3 := NB214_210.out; have hms50_0 := NB210_209.out; have hms50_2 := NB210_211.out; have hms50_3 := NB210_214.out
      have hs51 : w49.cell? ⟨gb210,1,none⟩ = some (.string (⟨#[]⟩ : ByteArray)) := (blk_cell BK210.out 1).trans rfl
      have hfs51 := blk_frozen BK210.out 1
      have hns51_0 := NB209_210.out; have hns51_2 := NB211_210.out; have hns51_3 := NB214_210.out; have hms51_0 := NB210_209.out; have hms51_2 := NB210_211.out; have hms51_3 := NB210_214.out
      have hs52 : w49.cell? ⟨gb210,2,none⟩ = some (.int .i64 0) := (blk_cell BK210.out 2).trans rfl
      have hfs52 := blk_frozen BK210.out 2
      have hns52_0 := NB209_210.out; have hns52_2 := NB211_210.out; have hns52_3 := NB214_210.out; have hms52_0 := NB210_209.out; have hms52_2 := NB210_211.out; have hms52_3 := NB210_214.out
      have hs53 : w49.cell? ⟨gb210,3,none⟩ = some (.string (⟨#[]⟩ : ByteArray)) := (blk_cell BK210.out 3).trans rfl
      have hfs53 := blk_frozen BK210.out 3
      have hns53_0 := NB209_210.out; have hns53_2 := NB211_210.out; have hns53_3 := NB214_210.out; have hms53_0 := NB210_209.out; have hms53_2 := NB210_211.out; have hms53_3 := NB210_214.out
      refine skip_ (w1 := (((w49.setCell ⟨gb210,0,none⟩ (.string ⟨#[63]⟩)).setCell ⟨gb210,1,none⟩ (.string ⟨#[]⟩)).setCell ⟨gb210,2,none⟩ (.int .i64 1)).setCell ⟨gb210,3,none⟩ (.string ⟨#[]⟩)) (by rfl) rfl ?_ ?_
      ·as_aux_lemma => go_simp
      refine hK.out _ _ ⟨((cell_far (p := ⟨gb210,_,none⟩) NB214_210.out _).trans (((cell_far (p := ⟨gb210,_,none⟩) NB214_210.out _).trans (((cell_far (p := ⟨gb210,_,none⟩) NB214_210.out _).trans (((cell_far (p := ⟨gb210,_,none⟩) NB214_210.out _).trans (hHeld.1)))))))), ((cell_far (p := ⟨gb210,_,none⟩) NB214_210.out _).trans (((cell_far (p := ⟨gb210,_,none⟩) NB214_210.out _).trans (((cell_far (p := ⟨gb210,_,none⟩) NB214_210.out _).trans (((cell_far (p := ⟨gb210,_,none⟩) NB214_210.out _).trans (hHeld.2.1)))))))), ((cell_far (p := ⟨gb210,_,none⟩) NB214_210.out _).trans (((cell_far (p := ⟨gb210,_,none⟩) NB214_210.out _).trans (((cell_far (p := ⟨gb210,_,none⟩) NB214_210.out _).trans (((cell_far (p := ⟨gb210,_,none⟩) NB214_210.out _).trans (hHeld.2.2.1)))))))), ((cell_far (p := ⟨gb210,_,none⟩) NB214_210.out _).trans (((cell_far (p := ⟨gb210,_,none⟩) NB214_210.out _).trans (((cell_far (p := ⟨gb210,_,none⟩) NB214_210.out _).trans (((cell_far (p := ⟨gb210,_,none⟩) NB214_210.out _).trans (hHeld.2.2.2.1)))))))), ((cell_far (p := ⟨gb210,_,none⟩) NB209_210.out _).trans (((cell_far (p := ⟨gb210,_,none⟩) NB209_210.out _).trans (((cell_far (p := ⟨gb210,_,none⟩) NB209_210.out _).trans (((cell_far (p := ⟨gb210,_,none⟩) NB209_210.out _).trans (hHeld.2.2.2.2.1)))))))), ((cell_far (p := ⟨gb210,_,none⟩) NB209_210.out _).trans (((cell_far (p := ⟨gb210,_,none⟩) NB209_210.out _).trans (((cell_far (p := ⟨gb210,_,none⟩) NB209_210.out _).trans (((cell_far (p := ⟨gb210,_,none⟩) NB209_210.out _).trans (hHeld.2.2.2.2.2))))))))⟩ (fun hHeld => ?_)
      clear hK K
      refine one_ (i := 3) (N := none) #[tt,tt,tt,tt,ff] rfl rfl (by kernel_rfl) (by decide) (fun K hK => ?_)
      have hs54 : w49.cell? ⟨gb211,0,none⟩ = some (.int .i64 0) := (blk_cell BK211.out 0).trans rfl
      have hfs54 := blk_frozen BK211.out 0
      have hns54_0 := NB209_211.out; have hns54_1 := NB210_211.out; have hns54_3 := NB214_211.out; have hms54_0 := NB211_209.out; have hms54_1 := NB211_210.out; have hms54_3 := NB211_214.out
      have hs55 : w49.cell? ⟨gb211,1,none⟩ = some (.int .i64 0) := (blk_cell BK211.out 1).trans rfl
      have hfs55 := blk_frozen BK211.out 1
      have hns55_0 := NB209_211.out; have hns55_1 := NB210_211.out; have hns55_3 := NB214_211.out; have hms55_0 := NB211_209.out; have hms55_1 := NB211_210.out; have hms55_3 := NB211_214.out
      refine skip_ (w1 := (((((w49.setCell ⟨gb210,0,none⟩ (.string ⟨#[63]⟩)).setCell ⟨gb210,1,none⟩ (.string ⟨#[]⟩)).setCell ⟨gb210,2,none⟩ (.int .i64 1)).setCell ⟨gb210,3,none⟩ (.string ⟨#[]⟩)).setCell ⟨gb211,0,none⟩ (.int .i64 a2_0)).setCell ⟨gb211,1,none⟩ (.int .i64 a2_1)) (by rfl) rfl ?_ ?_
      ·as_aux_lemma => go_simp
      refine hK.out _ _ ⟨((cell_far (p := ⟨gb211,_,none⟩) NB214_211.out _).trans (((cell_far (p := ⟨gb211,_,none⟩) NB214_211.out _).trans (hHeld.1)))), ((cell_far (p := ⟨gb211,_,none⟩) NB214_211.out _).trans (((cell_far (p := ⟨gb211,_,none⟩) NB214_211.out _).trans (hHeld.2.1)))), ((cell_far (p := ⟨gb211,_,none⟩) NB214_211.out _).trans (((cell_far (p := ⟨gb211,_,none⟩) NB214_211.out _).trans (hHeld.2.2.1)))), ((cell_far (p := ⟨gb211,_,none⟩) NB214_211.out _).trans (((cell_far (p := ⟨gb211,_,none⟩) NB214_211.out _).trans (hHeld.2.2.2.1)))), ((cell_far (p := ⟨gb211,_,none⟩) NB209_211.out _).trans (((cell_far (p := ⟨gb211,_,none⟩) NB209_211.out _).trans (hHeld.2.2.2.2.1)))), ((cell_far (p := ⟨gb211,_,none⟩) NB209_211.out _).trans (((cell_far (p := ⟨gb211,_,none⟩) NB209_211.out _).trans (hHeld.2.2.2.2.2))))⟩ (fun hHeld => ?_)
      clear hK K
      refine pure_ (i := 4) (N := some 8) (v := ?_) (a' := ?_) #[tt,tt,tt,tt,tt] rfl rfl (by kernel_rfl) (fun _ _ _ h => h) (Or.inl ⟨by rfl, ?_⟩) ?_ ?_
      rotate_left
      ·intro w'
       go_simp
       with_reducible rfl
      rotate_left
      ·simp only [Act.put, sb_, sz_, ss_, i64_w, i32_w]
       rfl
      refine done_ (by kernel_rfl) ?_
      iterate 6 (try go_wp2; try go_quiet (fail))
      refine bodyPost_ret (results_list (rs := [.cell 6 32, .cell 7 29, .tmp 8]) rfl (by simp) (.cell gb210 32 #[.string (⟨#[63]⟩ : ByteArray), .string (⟨#[]⟩ : ByteArray), .int .i64 1, .string (⟨#[]⟩ : ByteArray)] (0, 0) _ rfl (by (with_reducible repeat (first | apply bq | apply bd | apply ba)); refine blk_far ?_ NB210_211.out _; (with_reducible repeat (first | apply bq | apply bd | apply ba)); refine blk_far ?_ NB210_211.out _; (with_reducible repeat (first | apply bq | apply bd | apply ba)); refine blk_put (cs := #[.string (⟨#[63]⟩ : ByteArray), .string (⟨#[]⟩ : ByteArray), .int .i64 1, .string (⟨#[]⟩ : ByteArray)]) ?_ 3 _ rfl; (with_reducible repeat (first | apply bq | apply bd | apply ba)); refine blk_put (cs := #[.string (⟨#[63]⟩ : ByteArray), .string (⟨#[]⟩ : ByteArray), .int .i64 0, .string (⟨#[]⟩ : ByteArray)]) ?_ 2 _ rfl; (with_reducible repeat (first | apply bq | apply bd | apply ba)); refine blk_put (cs := #[.string (⟨#[63]⟩ : ByteArray), .string (⟨#[]⟩ : ByteArray), .int .i64 0, .string (⟨#[]⟩ : ByteArray)]) ?_ 1 _ rfl; (with_reducible repeat (first | apply bq | apply bd | apply ba)); refine blk_put (cs := #[.string (⟨#[]⟩ : ByteArray), .string (⟨#[]⟩ : ByteArray), .int .i64 0, .string (⟨#[]⟩ : ByteArray)]) ?_ 0 _ rfl; (with_reducible repeat (first | apply bq | apply bd | apply ba)); exact BK210.out) Try.underlying32 rfl (by kernel_rfl) (.cell gb211 29 #[.int .i64 a2_0, .int .i64 a2_1] (0, 0) _ rfl (by (with_reducible repeat (first | apply bq | apply bd | apply ba)); refine blk_put (cs := #[.int .i64 a2_0, .int .i64 0]) ?_ 1 _ rfl; (with_reducible repeat (first | apply bq | apply bd | apply ba)); refine blk_put (cs := #[.int .i64 0, .int .i64 0]) ?_ 0 _ rfl; (with_reducible repeat (first | apply bq | apply bd | apply ba)); refine blk_far ?_ NB211_210.out _; (with_reducible repeat (first | apply bq | apply bd | apply ba)); refine blk_far ?_ NB211_210.out _; (with_reducible repeat (first | apply bq | apply bd | apply ba)); refine blk_far ?_ NB211_210.out _; (with_reducible repeat (first | apply bq | apply bd | apply ba)); refine blk_far ?_ NB211_210.out _; (with_reducible repeat (first | apply bq | apply bd | apply ba)); exact BK211.out) Try.underlying29 rfl (by kernel_rfl) (.tmp .nil)))) rfl ?_
      exact ⟨by first | rfl | (simp [errW_none, errW_some] <;> rfl) | (simp [*, errW_none, errW_some] <;> rfl), by repeat (first | (with_reducible first | exact HB.out | apply below_alloc | apply pw_below_drewN | apply below_drew1 | refine below_set ?_ GE209.out | refine below_set ?_ GE210.out | refine below_set ?_ GE211.out | refine below_set ?_ GE214.out) | exact HB.out)⟩
     rw [if_neg c39] at H
     have c39b0 : decide ((l1.length : Int) < a2_0) = false := decide_eq_false c39
     clear c39
     obtain ⟨ji56, hji56⟩ : ∃ j_ : Int, (wrap64 (a2_0 - 1)) = j_ := ⟨_, rfl⟩
     replace H : (if 0 ≤ (ji56) then (if (ji56) < (l1.length : Int) then (if a2_1 = 0 then (if (rdOf ByteArray.empty l1 (ji56)).toList = ([] : List UInt8) then (jobshellref16_Next.j1 kj5 a0 l1 (rdOf ByteArray.empty l1 (ji56)) true a2_0 a2_1 (⟨#[63]⟩ : ByteArray) (⟨#[]⟩ : ByteArray) 1 (⟨#[]⟩ : ByteArray) (wrap64 (a2_0 + 1)) 0) else (if (rdOf ByteArray.empty l1 (ji56)).toList = ([45] : List UInt8) then (jobshellref16_Next.j1 kj5 a0 l1 (rdOf ByteArray.empty l1 (ji56)) true a2_0 a2_1 (⟨#[63]⟩ : ByteArray) (⟨#[]⟩ : ByteArray) 1 (⟨#[]⟩ : ByteArray) (wrap64 (a2_0 + 1)) 0) else (if 0 < ((rdOf ByteArray.empty l1 (ji56)).size : Int) then (jobshellref16_Next.j1 kj5 a0 l1 (rdOf ByteArray.empty l1 (ji56)) ((bt (rdOf ByteArray.empty l1 (ji56)) 0) != 45) a2_0 a2_1 (⟨#[63]⟩ : ByteArray) (⟨#[]⟩ : ByteArray) 1 (⟨#[]⟩ : ByteArray) (wrap64 (a2_0 + 1)) 0) else (none)))) else (jobshellref16_Next.j2 kj5 a0 l1 (rdOf ByteArray.empty l1 (ji56)) a2_1 a2_0 a2_1 (wrap64 (a2_0 + 1)) 0)) else (none)) else (none)) = some (r1, r2, r3, r4, r5, r6, r7) := by first | (rw [hji56] at H; exact H) | (simp only [hji56] at H ⊢; exact H)
     have hji56w : (IntKind.i64.wrap (a2_0 - 1)) = ji56 := (i64_w _).trans hji56
     by_cases c57 : 0 ≤ (ji56)
     ·rw [if_pos c57] at H
      have c57b0 : decide (0 ≤ (ji56)) = true := decide_eq_true c57
      clear c57
      by_cases c58 : (ji56) < (l1.length : Int)
      ·rw [if_pos c58] at H
       have c58b0 : decide ((ji56) < (l1.length : Int)) = true := decide_eq_true c58
       clear c58
       have HC59 := Aside0.mk H
       clear H
       iterate 6 (try (go_upto_if 80 with (first | ((with_reducible refine gate_dst (N := 10) rfl ?_); (try (refine gate_guard (by rfl) ?_; dsimp only)); refine box_event ?hg (N := 10) ?hd (cs := #[.string (⟨#[]⟩ : ByteArray), .string (⟨#[]⟩ : ByteArray), .int .i64 0, .string (⟨#[]⟩ : ByteArray)]) (t := 32) ?hr ?_; (case hd => rfl); (case hg => rfl); (case hr => first | (go_simp; done) | (go_simp; rfl)); intro gb214 hg w60 hbox hb; have n0_ := Aside0.mk (blk_below (g := gb209) (o := .cells #[.int .i64 a2_0, .int .i64 a2_1] 29 (0, 0)) (by (with_reducible repeat (first | apply bq | apply bd | apply ba)); exact BK209.out) hb); have n1_ := Aside0.mk (blk_below (g := gb210) (o := .cells #[.string (⟨#[]⟩ : ByteArray), .string (⟨#[]⟩ : ByteArray), .int .i64 0, .string (⟨#[]⟩ : ByteArray)] 32 (0, 0)) (by (with_reducible repeat (first | apply bq | apply bd | apply ba)); exact BK210.out) hb); have n2_ := Aside0.mk (blk_below (g := gb211) (o := .cells #[.int .i64 0, .int .i64 0] 29 (0, 0)) (by (with_reducible repeat (first | apply bq | apply bd | apply ba)); exact BK211.out) hb); have n3_ := Aside0.mk (below_step (by repeat (first | (with_reducible first | exact HB.out | apply below_alloc | apply pw_below_drewN | apply below_drew1 | refine below_set ?_ GE209.out | refine below_set ?_ GE210.out | refine below_set ?_ GE211.out) | exact HB.out)) hb); have n4_ := Aside0.mk (hbox); have n5_ := Aside0.mk ((by rw [hg]; exact (below_size (by repeat (first | (with_reducible first | exact HB.out | apply below_alloc | apply pw_below_drewN | apply below_drew1 | refine below_set ?_ GE209.out | refine below_set ?_ GE210.out | refine below_set ?_ GE211.out) | exact HB.out))) : w.heap.size ≤ gb214)); have n6_ := Aside0.mk ((by rw [hg]; exact (below_size (by repeat (first | (with_reducible first | exact HB.out | apply below_alloc | apply pw_below_drewN | apply below_drew1 | refine below_set ?_ GE209.out | refine below_set ?_ GE210.out | refine below_set ?_ GE211.out) | exact HB.out))) : w.heap.size ≤ gb214)); have n7_ := Aside0.mk ((by rw [hg]; exact Nat.ne_of_lt (blk_lt (g := gb209) (o := .cells #[.int .i64 a2_0, .int .i64 a2_1] 29 (0, 0)) (by (with_reducible repeat (first | apply bq | apply bd | apply ba)); exact BK209.out)) : gb209 ≠ gb214)); have n8_ := Aside0.mk ((by rw [hg]; exact Nat.ne_of_gt (blk_lt (g := gb209) (o := .cells #[.int .i64 a2_0, .int .i64 a2_1] 29 (0, 0)) (by (with_reducible repeat (first | apply bq | apply bd | apply ba)); exact BK209.out)) : gb214 ≠ gb209)); have n9_ := Aside0.mk ((by rw [hg]; exact Nat.ne_of_lt (blk_lt (g := gb210) (o := .cells #[.string (⟨#[]⟩ : ByteArray), .string (⟨#[]⟩ : ByteArray), .int .i64 0, .string (⟨#[]⟩ : ByteArray)] 32 (0, 0)) (by (with_reducible repeat (first | apply bq | apply bd | apply ba)); exact BK210.out)) : gb210 ≠ gb214)); have n10_ := Aside0.mk ((by rw [hg]; exact Nat.ne_of_gt (blk_lt (g := gb210) (o := .cells #[.string (⟨#[]⟩ : ByteArray), .string (⟨#[]⟩ : ByteArray), .int .i64 0, .string (⟨#[]⟩ : ByteArray)] 32 (0, 0)) (by (with_reducible repeat (first | apply bq | apply bd | apply ba)); exact BK210.out)) : gb214 ≠ gb210)); have n11_ := Aside0.mk ((by rw [hg]; exact Nat.ne_of_lt (blk_lt (g := gb211) (o := .cells #[.int .i64 0, .int .i64 0] 29 (0, 0)) (by (with_reducible repeat (first | apply bq | apply bd | apply ba)); exact BK211.out)) : gb211 ≠ gb214)); have n12_ := Aside0.mk ((by rw [hg]; exact Nat.ne_of_gt (blk_lt (g := gb211) (o := .cells #[.int .i64 0, .int .i64 0] 29 (0, 0)) (by (with_reducible repeat (first | apply bq | apply bd | apply ba)); exact BK211.out)) : gb214 ≠ gb211)); clear BK209; clear BK210; clear BK211; clear HB; have BK209 := n0_; have BK210 := n1_; have BK211 := n2_; have HB := n3_; have BK214 := n4_; have GW214 := n5_; have GE214 := n6_; have NB209_214 := n7_; have NB214_209 := n8_; have NB210_214 := n9_; have NB214_210 := n10_; have NB211_214 := n11_; have NB214_211 := n12_; clear n0_ n1_ n2_ n3_ n4_ n5_ n6_ n7_ n8_ n9_ n10_ n11_ n12_; clear hb hbox hg; have hnb61 := NB214_209.out; have hnc61 := NB209_214.out; have hnb62 := NB214_210.out; have hnc62 := NB210_214.out; have hnb63 := NB214_211.out; have hnc63 := NB211_214.out; have hcz64_0 : w60.cell? ⟨gb214,0,none⟩ = some (.string (⟨#[]⟩ : ByteArray)) := (blk_cell BK214.out 0).trans rfl; have hcz64_1 : w60.cell? ⟨gb214,1,none⟩ = some (.string (⟨#[]⟩ : ByteArray)) := (blk_cell BK214.out 1).trans rfl; have hcz64_2 : w60.cell? ⟨gb214,2,none⟩ = some (.int .i64 0) := (blk_cell BK214.out 2).trans rfl; have hcz64_3 : w60.cell? ⟨gb214,3,none⟩ = some (.string (⟨#[]⟩ : ByteArray)) := (blk_cell BK214.out 3).trans rfl; have hfz64_0 := blk_frozen BK214.out 0; have hfz64_1 := blk_frozen BK214.out 1; have hfz64_2 := blk_frozen BK214.out 2; have hfz64_3 := blk_frozen BK214.out 3; have hnb65 := NB209_210.out; have hnc65 := NB210_209.out; have hnb66 := NB209_211.out; have hnc66 := NB211_209.out; have hcz67_0 : w60.cell? ⟨gb209,0,none⟩ = some (.int .i64 a2_0) := (blk_cell BK209.out 0).trans rfl; have hcz67_1 : w60.cell? ⟨gb209,1,none⟩ = some (.int .i64 a2_1) := (blk_cell BK209.out 1).trans rfl; have hfz67_0 := blk_frozen BK209.out 0; have hfz67_1 := blk_frozen BK209.out 1; have p215 : 0 ≤ ((ji56) : Int) := of_decide_eq_true (by first | (with_reducible assumption) | assumption); have q215 : (ji56) < (l1.length : Int) := of_decide_eq_true (by first | (with_reducible assumption) | assumption); obtain ⟨ad215, e215, hx215_0⟩ := Kd.at_string HR1.out (ji56) p215 q215; cases e215; have hn215_0 : ad215.block ≠ gb214 := Nat.ne_of_lt (Nat.lt_of_lt_of_le (by have := World.block_lt_of_cell? _ _ hx215_0; first | rwa [add_block] at this | exact this) GW214.out); have hn215_1 : ad215.block ≠ gb214 := Nat.ne_of_lt (Nat.lt_of_lt_of_le (by have := World.block_lt_of_cell? _ _ hx215_0; first | rwa [add_block] at this | exact this) GW214.out); have hn215_2 : ad215.block ≠ gb214 := Nat.ne_of_lt (Nat.lt_of_lt_of_le (by have := World.block_lt_of_cell? _ _ hx215_0; first | rwa [add_block] at this | exact this) GW214.out); have hn215_3 : ad215.block ≠ gb214 := Nat.ne_of_lt (Nat.lt_of_lt_of_le (by have := World.block_lt_of_cell? _ _ hx215_0; first | rwa [add_block] at this | exact this) GW214.out); replace hx215_0 := (HB.out.cell (World.block_lt_of_cell? w _ hx215_0)).trans hx215_0; replace hx215_0 := (cell_far (p := ⟨gb214,0,none⟩) (by first | (rw [add_block]; exact hn215_0) | (show (Addr.add _ _).block ≠ _; rw [add_block]; exact hn215_0) | exact hn215_0) (.string (⟨#[63]⟩ : ByteArray))).trans hx215_0; replace hx215_0 := (cell_far (p := ⟨gb214,1,none⟩) (by first | (rw [add_block]; exact hn215_1) | (show (Addr.add _ _).block ≠ _; rw [add_block]; exact hn215_1) | exact hn215_1) (.string (⟨#[]⟩ : ByteArray))).trans hx215_0; replace hx215_0 := (cell_far (p := ⟨gb214,2,none⟩) (by first | (rw [add_block]; exact hn215_2) | (show (Addr.add _ _).block ≠ _; rw [add_block]; exact hn215_2) | exact hn215_2) (.int .i64 1)).trans hx215_0; replace hx215_0 := (cell_far (p := ⟨gb214,3,none⟩) (by first | (rw [add_block]; exact hn215_3) | (show (Addr.add _ _).block ≠ _; rw [add_block]; exact hn215_3) | exact hn215_3) (.string (⟨#[]⟩ : ByteArray))).trans hx215_0; clear hn215_0; clear hn215_1; clear hn215_2; clear hn215_3; replace p215 := eq_true p215; replace q215 := eq_true q215) | ((with_reducible refine gate_dst (N := 12) rfl ?_); (try (refine gate_guard (by rfl) ?_; dsimp only)); refine box_event ?hg (N := 12) ?hd (cs := #[.int .i64 0, .int .i64 0]) (t := 29) ?hr ?_; (case hd => rfl); (case hg => rfl); (case hr => first | (go_simp; done) | (go_simp; rfl)); intro gb216 hg w68 hbox hb; have n0_ := Aside0.mk (blk_below (g := gb209) (o := .cells #[.int .i64 a2_0, .int .i64 a2_1] 29 (0, 0)) (by (with_reducible repeat (first | apply bq | apply bd | apply ba)); refine blk_far ?_ NB209_214.out _; (with_reducible repeat (first | apply bq | apply bd | apply ba)); refine blk_far ?_ NB209_214.out _; (with_reducible repeat (first | apply bq | apply bd | apply ba)); refine blk_far ?_ NB209_214.out _; (with_reducible repeat (first | apply bq | apply bd | apply ba)); refine blk_far ?_ NB209_214.out _; (with_reducible repeat (first | apply bq | apply bd | apply ba)); exact BK209.out) hb); have n1_ := Aside0.mk (blk_below (g := gb210) (o := .cells #[.string (⟨#[]⟩ : ByteArray), .string (⟨#[]⟩ : ByteArray), .int .i64 0, .string (⟨#[]⟩ : ByteArray)] 32 (0, 0)) (by (with_reducible repeat (first | apply bq | apply bd | apply ba)); refine blk_far ?_ NB210_214.out _; (with_reducible repeat (first | apply bq | apply bd | apply ba)); refine blk_far ?_ NB210_214.out _; (with_reducible repeat (first | apply bq | apply bd | apply ba)); refine blk_far ?_ NB210_214.out _; (with_reducible repeat (first | apply bq | apply bd | apply ba)); refine blk_far ?_ NB210_214.out _; (with_reducible repeat (first | apply bq | apply bd | apply ba)); exact BK210.out) hb); have n2_ := Aside0.mk (blk_below (g := gb211) (o := .cells #[.int .i64 0, .int .i64 0] 29 (0, 0)) (by (with_reducible repeat (first | apply bq | apply bd | apply ba)); refine blk_far ?_ NB211_214.out _; (with_reducible repeat (first | apply bq | apply bd | apply ba)); refine blk_far ?_ NB211_214.out _; (with_reducible repeat (first | apply bq | apply bd | apply ba)); refine blk_far ?_ NB211_214.out _; (with_reducible repeat (first | apply bq | apply bd | apply ba)); refine blk_far ?_ NB211_214.out _; (with_reducible repeat (first | apply bq | apply bd | apply ba)); exact BK211.out) hb); have n3_ := Aside0.mk (blk_below (g := gb214) (o := .cells #[.string (⟨#[63]⟩ : ByteArray), .string (⟨#[]⟩ : ByteArray), .int .i64 1, .string (⟨#[]⟩ : ByteArray)] 32 (0, 0)) (by (with_reducible repeat (first | apply bq | apply bd | apply ba)); refine blk_put (cs := #[.string (⟨#[63]⟩ : ByteArray), .string (⟨#[]⟩ : ByteArray), .int .i64 1, .string (⟨#[]⟩ : ByteArray)]) ?_ 3 _ rfl; (with_reducible repeat (first | apply bq | apply bd | apply ba)); refine blk_put (cs := #[.string (⟨#[63]⟩ : ByteArray), .string (⟨#[]⟩ : ByteArray), .int .i64 0, .string (⟨#[]⟩ : ByteArray)]) ?_ 2 _ rfl; (with_reducible repeat (first | apply bq | apply bd | apply ba)); refine blk_put (cs := #[.string (⟨#[63]⟩ : ByteArray), .string (⟨#[]⟩ : ByteArray), .int .i64 0, .string (⟨#[]⟩ : ByteArray)]) ?_ 1 _ rfl; (with_reducible repeat (first | apply bq | apply bd | apply ba)); refine blk_put (cs := #[.string (⟨#[]⟩ : ByteArray), .string (⟨#[]⟩ : ByteArray), .int .i64 0, .string (⟨#[]⟩ : ByteArray)]) ?_ 0 _ rfl; (with_reducible repeat (first | apply bq | apply bd | apply ba)); exact BK214.out) hb); have n4_ := Aside0.mk (below_step (by repeat (first | (with_reducible first | exact HB.out | apply below_alloc | apply pw_below_drewN | apply below_drew1 | refine below_set ?_ GE209.out | refine below_set ?_ GE210.out | refine below_set ?_ GE211.out | refine below_set ?_ GE214.out) | exact HB.out)) hb); have n5_ := Aside0.mk (hbox); have n6_ := Aside0.mk ((by rw [hg]; exact (below_size (by repeat (first | (with_reducible first | exact HB.out | apply below_alloc | apply pw_below_drewN | apply below_drew1 | refine below_set ?_ GE209.out | refine below_set ?_ GE210.out | refine below_set ?_ GE211.out | refine below_set ?_ GE214.out) | exact HB.out))) : w.heap.size ≤ gb216)); have n7_ := Aside0.mk ((by rw [hg]; exact (below_size (by repeat (first | (with_reducible first | exact HB.out | apply below_alloc | apply pw_below_drewN | apply below_drew1 | refine below_set ?_ GE209.out | refine below_set ?_ GE210.out | refine below_set ?_ GE211.out | refine below_set ?_ GE214.out) | exact HB.out))) : w.heap.size ≤ gb216)); have n8_ := Aside0.mk ((by rw [hg]; exact Nat.ne_of_lt (blk_lt (g := gb209) (o := .cells #[.int .i64 a2_0, .int .i64 a2_1] 29 (0, 0)) (by (with_reducible repeat (first | apply bq | apply bd | apply ba)); refine blk_far ?_ NB209_214.out _; (with_reducible repeat (first | apply bq | apply bd | apply ba)); refine blk_far ?_ NB209_214.out _; (with_reducible repeat (first | apply bq | apply bd | apply ba)); refine blk_far ?_ NB209_214.out _; (with_reducible repeat (first | apply bq | apply bd | apply ba)); refine blk_far ?_ NB209_214.out _; (with_reducible repeat (first | apply bq | apply bd | apply ba)); exact BK209.out)) : gb209 ≠ gb216)); have n9_ := Aside0.mk ((by rw [hg]; exact Nat.ne_of_gt (blk_lt (g := gb209) (o := .cells #[.int .i64 a2_0, .int .i64 a2_1] 29 (0, 0)) (by (with_reducible repeat (first | apply bq | apply bd | apply ba)); refine blk_far ?_ NB209_214.out _; (with_reducible repeat (first | apply bq | apply bd | apply ba)); refine blk_far ?_ NB209_214.out _; (with_reducible repeat (first | apply bq | apply bd | apply ba)); refine blk_far ?_ NB209_214.out _; (with_reducible repeat (first | apply bq | apply bd | apply ba)); refine blk_far ?_ NB209_214.out _; (with_reducible repeat (first | apply bq | apply bd | apply ba)); exact BK209.out)) : gb216 ≠ gb209)); have n10_ := Aside0.mk ((by rw [hg]; exact Nat.ne_of_lt (blk_lt (g := gb210) (o := .cells #[.string (⟨#[]⟩ : ByteArray), .string (⟨#[]⟩ : ByteArray), .int .i64 0, .string (⟨#[]⟩ : ByteArray)] 32 (0, 0)) (by (with_reducible repeat (first | apply bq | apply bd | apply ba)); refine blk_far ?_ NB210_214.out _; (with_reducible repeat (first | apply bq | apply bd | apply ba)); refine blk_far ?_ NB210_214.out _; (with_reducible repeat (first | apply bq | apply bd | apply ba)); refine blk_far ?_ NB210_214.out _; (with_reducible repeat (first | apply bq | apply bd | apply ba)); refine blk_far ?_ NB210_214.out _; (with_reducible repeat (first | apply bq | apply bd | apply ba)); exact BK210.out)) : gb210 ≠ gb216)); have n11_ := Aside0.mk ((by rw [hg]; exact Nat.ne_of_gt (blk_lt (g := gb210) (o := .cells #[.string (⟨#[]⟩ : ByteArray), .string (⟨#[]⟩ : ByteArray), .int .i64 0, .string (⟨#[]⟩ : ByteArray)] 32 (0, 0)) (by (with_reducible repeat (first | apply bq | apply bd | apply ba)); refine blk_far ?_ NB210_214.out _; (with_reducible repeat (first | apply bq | apply bd | apply ba)); refine blk_far ?_ NB210_214.out _; (with_reducible repeat (first | apply bq | apply bd | apply ba)); refine blk_far ?_ NB210_214.out _; (with_reducible repeat (first | apply bq | apply bd | apply ba)); refine blk_far ?_ NB210_214.out _; (with_reducible repeat (first | apply bq | apply bd | apply ba)); exact BK210.out)) : gb216 ≠ gb210)); have n12_ := Aside0.mk ((by rw [hg]; exact Nat.ne_of_lt (blk_lt (g := gb211) (o := .cells #[.int .i64 0, .int .i64 0] 29 (0, 0)) (by (with_reducible repeat (first | apply bq | apply bd | apply ba)); refine blk_far ?_ NB211_214.out _; (with_reducible repeat (first | apply bq | apply bd | apply ba)); refine blk_far ?_ NB211_214.out _; (with_reducible repeat (first | apply bq | apply bd | apply ba)); refine blk_far ?_ NB211_214.out _; (with_reducible repeat (first | apply bq | apply bd | apply ba)); refine blk_far ?_ NB211_214.out _; (with_reducible repeat (first | apply bq | apply bd | apply ba)); exact BK211.out)) : gb211 ≠ gb216)); have n13_ := Aside0.mk ((by rw [hg]; exact Nat.ne_of_gt (blk_lt (g := gb211) (o := .cells #[.int .i64 0, .int .i64 0] 29 (0, 0)) (by (with_reducible repeat (first | apply bq | apply bd | apply ba)); refine blk_far ?_ NB211_214.out _; (with_reducible repeat (first | apply bq | apply bd | apply ba)); refine blk_far ?_ NB211_214.out _; (with_reducible repeat (first | apply bq | apply bd | apply ba)); refine blk_far ?_ NB211_214.out _; (with_reducible repeat (first | apply bq | apply bd | apply ba)); refine blk_far ?_ NB211_214.out _; (with_reducible repeat (first | apply bq | apply bd | apply ba)); exact BK211.out)) : gb216 ≠ gb211)); have n14_ := Aside0.mk ((by rw [hg]; exact Nat.ne_of_lt (blk_lt (g := gb214) (o := .cells #[.string (⟨#[63]⟩ : ByteArray), .string (⟨#[]⟩ : ByteArray), .int .i64 1, .string (⟨#[]⟩ : ByteArray)] 32 (0, 0)) (by (with_reducible repeat (first | apply bq | apply bd | apply ba)); refine blk_put (cs := #[.string (⟨#[63]⟩ : ByteArray), .string (⟨#[]⟩ : ByteArray), .int .i64 1, .string (⟨#[]⟩ : ByteArray)]) ?_ 3 _ rfl; (with_reducible repeat (first | apply bq | apply bd | apply ba)); refine blk_put (cs := #[.string (⟨#[63]⟩ : ByteArray), .string (⟨#[]⟩ : ByteArray), .int .i64 0, .string (⟨#[]⟩ : ByteArray)]) ?_ 2 _ rfl; (with_reducible repeat (first | apply bq | apply bd | apply ba)); refine blk_put (cs := #[.string (⟨#[63]⟩ : ByteArray), .string (⟨#[]⟩ : ByteArray), .int .i64 0, .string (⟨#[]⟩ : ByteArray)]) ?_ 1 _ rfl; (with_reducible repeat (first | apply bq | apply bd | apply ba)); refine blk_put (cs := #[.string (⟨#[]⟩ : ByteArray), .string (⟨#[]⟩ : ByteArray), .int .i64 0, .string (⟨#[]⟩ : ByteArray)]) ?_ 0 _ rfl; (with_reducible repeat (first | apply bq | apply bd | apply ba)); exact BK214.out)) : gb214 ≠ gb216)); have n15_ := Aside0.mk ((by rw [hg]; exact Nat.ne_of_gt (blk_lt (g := gb214) (o := .cells #[.string (⟨#[63]⟩ : ByteArray), .string (⟨#[]⟩ : ByteArray), .int .i64 1, .string (⟨#[]⟩ : ByteArray)] 32 (0, 0)) (by (with_reducible repeat (first | apply bq | apply bd | apply ba)); refine blk_put (cs := #[.string (⟨#[63]⟩ : ByteArray), .string (⟨#[]⟩ : ByteArray), .int .i64 1, .string (⟨#[]⟩ : ByteArray)]) ?_ 3 _ rfl; (with_reducible repeat (first | apply bq | apply bd | apply ba)); refine blk_put (cs := #[.string (⟨#[63]⟩ : ByteArray), .string (⟨#[]⟩ : ByteArray), .int .i64 0, .string (⟨#[]⟩ : ByteArray)]) ?_ 2 _ rfl; (with_reducible repeat (first | apply bq | apply bd | apply ba)); refine blk_put (cs := #[.string (⟨#[63]⟩ : ByteArray), .string (⟨#[]⟩ : ByteArray), .int .i64 0, .string (⟨#[]⟩ : ByteArray)]) ?_ 1 _ rfl; (with_reducible repeat (first | apply bq | apply bd | apply ba)); refine blk_put (cs := #[.string (⟨#[]⟩ : ByteArray), .string (⟨#[]⟩ : ByteArray), .int .i64 0, .string (⟨#[]⟩ : ByteArray)]) ?_ 0 _ rfl; (with_reducible repeat (first | apply bq | apply bd | apply ba)); exact BK214.out)) : gb216 ≠ gb214)); clear BK209; clear BK210; clear BK211; clear BK214; clear HB; have BK209 := n0_; have BK210 := n1_; have BK211 := n2_; have BK214 := n3_; have HB := n4_; have BK216 := n5_; have GW216 := n6_; have GE216 := n7_; have NB209_216 := n8_; have NB216_209 := n9_; have NB210_216 := n10_; have NB216_210 := n11_; have NB211_216 := n12_; have NB216_211 := n13_; have NB214_216 := n14_; have NB216_214 := n15_; clear n0_ n1_ n2_ n3_ n4_ n5_ n6_ n7_ n8_ n9_ n10_ n11_ n12_ n13_ n14_ n15_; clear hb hbox hg; have hnb69 := NB216_209.out; have hnc69 := NB209_216.out; have hnb70 := NB216_210.out; have hnc70 := NB210_216.out; have hnb71 := NB216_211.out; have hnc71 := NB211_216.out; have hnb72 := NB216_214.out; have hnc72 := NB214_216.out; have hcz73_0 : w68.cell? ⟨gb216,0,none⟩ = some (.int .i64 0) := (blk_cell BK216.out 0).trans rfl; have hcz73_1 : w68.cell? ⟨gb216,1,none⟩ = some (.int .i64 0) := (blk_cell BK216.out 1).trans rfl; have hfz73_0 := blk_frozen BK216.out 0; have hfz73_1 := blk_frozen BK216.out 1; have hcz74_0 : w68.cell? ⟨gb209,0,none⟩ = some (.int .i64 a2_0) := (blk_cell BK209.out 0).trans rfl; have hcz74_1 : w68.cell? ⟨gb209,1,none⟩ = some (.int .i64 a2_1) := (blk_cell BK209.out 1).trans rfl; have hfz74_0 := blk_frozen BK209.out 0; have hfz74_1 := blk_frozen BK209.out 1))); try go_quiet (fail))
       (try simp only [Act.put, sb_, sz_, ss_])
       go_cut [13] (fun v13 wc => ∃ (kq : Nat) (x13_58 : Int) (x211000_58 : ByteArray) (x211001_58 : ByteArray) (x211002_58 : Int) (x211003_58 : ByteArray) (x212000_58 : Int) (x212001_58 : Int), v13 = .int .i64 x13_58 ∧ Aside0 (jobshellref16_Next.j2 kq a0 l1 (rdOf ByteArray.empty l1 (ji56)) x13_58 a2_0 a2_1 (wrap64 (a2_0 + 1)) 0 = some (r1, r2, r3, r4, r5, r6, r7)) ∧ Aside0 (kq ≤ kj5) ∧ Aside0 (wc.heap[gb209]? = some (.cells #[.int .i64 a2_0, .int .i64 a2_1] 29 (0, 0))) ∧ Aside0 (wc.heap[gb210]? = some (.cells #[.string x211000_58, .string x211001_58, .int .i64 x211002_58, .string x211003_58] 32 (0, 0))) ∧ Aside0 (wc.heap[gb211]? = some (.cells #[.int .i64 x212000_58, .int .i64 x212001_58] 29 (0, 0))) ∧ Aside0 (wc.heap[gb214]? = some (.cells #[.string (⟨#[63]⟩ : ByteArray), .string (⟨#[]⟩ : ByteArray), .int .i64 1, .string (⟨#[]⟩ : ByteArray)] 32 (0, 0))) ∧ Aside0 (wc.heap[gb216]? = some (.cells #[.int .i64 (wrap64 (a2_0 + 1)), .int .i64 0] 29 (0, 0))) ∧ Aside0 (Below w.heap.size w wc))
       case first => as_aux_lemma =>
        have H := HC59.out; clear HC59
        by_cases c75 : a2_1 = 0
        ·rw [if_pos c75] at H
         have c75b0 : (a2_1 == 0) = true := beq_iff_eq.mpr c75
         have c75b1 : (a2_1 != 0) = false := bne_eq_false_iff_eq.mpr c75
         clear c75
         (first | rw [c75b0] | (simp only [i64_w, i32_w]; rw [c75b0]) | skip)
         have HC76 := Aside0.mk H
         clear H
         iterate 6 (try (go_upto_region 13 with (fail)); try go_quiet (fail))
         go_cut [91] (fun v91 wc => ∃ (kq : Nat) (x91_75 : Bool), v91 = .bool x91_75 ∧ Aside0 (jobshellref16_Next.j1 kq a0 l1 (rdOf ByteArray.empty l1 (ji56)) x91_75 a2_0 a2_1 (⟨#[63]⟩ : ByteArray) (⟨#[]⟩ : ByteArray) 1 (⟨#[]⟩ : ByteArray) (wrap64 (a2_0 + 1)) 0 = some (r1, r2, r3, r4, r5, r6, r7)) ∧ Aside0 (kq ≤ kj5) ∧ Aside0 (wc.heap[gb209]? = some (.cells #[.int .i64 a2_0, .int .i64 a2_1] 29 (0, 0))) ∧ Aside0 (wc.heap[gb210]? = some (.cells #[.string (⟨#[]⟩ : ByteArray), .string (⟨#[]⟩ : ByteArray), .int .i64 0, .string (⟨#[]⟩ : ByteArray)] 32 (0, 0))) ∧ Aside0 (wc.heap[gb211]? = some (.cells #[.int .i64 0, .int .i64 0] 29 (0, 0))) ∧ Aside0 (wc.heap[gb214]? = some (.cells #[.string (⟨#[63]⟩ : ByteArray), .string (⟨#[]⟩ : ByteArray), .int .i64 1, .string (⟨#[]⟩ : ByteArray)] 32 (0, 0))) ∧ Aside0 (wc.heap[gb216]? = some (.cells #[.int .i64 (wrap64 (a2_0 + 1)), .int .i64 0] 29 (0, 0))) ∧ Aside0 (Below w.heap.size w wc))
         case first => as_aux_lemma =>
          have H := HC76.out; clear HC76
          by_cases c77 : (rdOf ByteArray.empty l1 (ji56)).toList = ([] : List UInt8)
          ·rw [if_pos c77] at H
           have c77b0 : ((rdOf ByteArray.empty l1 (ji56)).toList == ([] : List UInt8)) = true := beq_iff_eq.mpr c77
           have c77b1 : ((rdOf ByteArray.empty l1 (ji56)).toList != ([] : List UInt8)) = false := bne_eq_false_iff_eq.mpr c77
           clear c77
           (first | rw [c77b0] | (simp only [i64_w, i32_w]; rw [c77b0]) | skip)
           have H' := Aside0.mk H
           clear H
           iterate 6 (try go_wp2; try go_quiet (fail))
           go_meet
           case rel => exact ⟨_, (true), (by first | rfl | (simp; done) | (simp [*]; done)), H', ⟨by have := HJ5.out; first | omega | exact Nat.le_refl _⟩, ⟨by (with_reducible repeat (first | apply bq | apply bd | apply ba)); refine blk_far ?_ NB209_216.out _; (with_reducible repeat (first | apply bq | apply bd | apply ba)); refine blk_far ?_ NB209_216.out _; (with_reducible repeat (first | apply bq | apply bd | apply ba)); exact BK209.out⟩, ⟨by (with_reducible repeat (first | apply bq | apply bd | apply ba)); refine blk_far ?_ NB210_216.out _; (with_reducible repeat (first | apply bq | apply bd | apply ba)); refine blk_far ?_ NB210_216.out _; (with_reducible repeat (first | apply bq | apply bd | apply ba)); exact BK210.out⟩, ⟨by (with_reducible repeat (first | apply bq | apply bd | apply ba)); refine blk_far ?_ NB211_216.out _; (with_reducible repeat (first | apply bq | apply bd | apply ba)); refine blk_far ?_ NB211_216.out _; (with_reducible repeat (first | apply bq | apply bd | apply ba)); exact BK211.out⟩, ⟨by (with_reducible repeat (first | apply bq | apply bd | apply ba)); refine blk_far ?_ NB214_216.out _; (with_reducible repeat (first | apply bq | apply bd | apply ba)); refine blk_far ?_ NB214_216.out _; (with_reducible repeat (first | apply bq | apply bd | apply ba)); exact BK214.out⟩, ⟨by (with_reducible repeat (first | apply bq | apply bd | apply ba)); refine blk_put (cs := #[.int .i64 (wrap64 (a2_0 + 1)), .int .i64 0]) ?_ 1 _ rfl; (with_reducible repeat (first | apply bq | apply bd | apply ba)); refine blk_put (cs := #[.int .i64 0, .int .i64 0]) ?_ 0 _ rfl; (with_reducible repeat (first | apply bq | apply bd | apply ba)); exact BK216.out⟩, ⟨by repeat (first | (with_reducible first | exact HB.out | apply below_alloc | apply pw_below_drewN | apply below_drew1 | refine below_set ?_ GE209.out | refine below_set ?_ GE210.out | refine below_set ?_ GE211.out | refine below_set ?_ GE214.out | refine below_set ?_ GE216.out) | exact HB.out)⟩⟩
          rw [if_neg c77] at H
          have c77b0 : ((rdOf ByteArray.empty l1 (ji56)).toList == ([] : List UInt8)) = false := beq_eq_false_iff_ne.mpr c77
          have c77b1 : ((rdOf ByteArray.empty l1 (ji56)).toList != ([] : List UInt8)) = true := bne_iff_ne.mpr c77
          (first | rw [c77b0] | (simp only [i64_w, i32_w]; rw [c77b0]) | skip)
          by_cases c78 : (rdOf ByteArray.empty l1 (ji56)).toList = ([45] : List UInt8)
          ·rw [if_pos c78] at H
           have c78b0 : ((rdOf ByteArray.empty l1 (ji56)).toList == ([45] : List UInt8)) = true := beq_iff_eq.mpr c78
           have c78b1 : ((rdOf ByteArray.empty l1 (ji56)).toList != ([45] : List UInt8)) = false := bne_eq_false_iff_eq.mpr c78
           clear c78
           have H' := Aside0.mk H
           clear H
           iterate 6 (try go_wp2; try go_quiet (fail))
           go_meet
           case rel => exact ⟨_, (true), (by first | rfl | (simp; done) | (simp [*]; done)), H', ⟨by have := HJ5.out; first | omega | exact Nat.le_refl _⟩, ⟨by (with_reducible repeat (first | apply bq | apply bd | apply ba)); refine blk_far ?_ NB209_216.out _; (with_reducible repeat (first | apply bq | apply bd | apply ba)); refine blk_far ?_ NB209_216.out _; (with_reducible repeat (first | apply bq | apply bd | apply ba)); exact BK209.out⟩, ⟨by (with_reducible repeat (first | apply bq | apply bd | apply ba)); refine blk_far ?_ NB210_216.out _; (with_reducible repeat (first | apply bq | apply bd | apply ba)); refine blk_far ?_ NB210_216.out _; (with_reducible repeat (first | apply bq | apply bd | apply ba)); exact BK210.out⟩, ⟨by (with_reducible repeat (first | apply bq | apply bd | apply ba)); refine blk_far ?_ NB211_216.out _; (with_reducible repeat (first | apply bq | apply bd | apply ba)); refine blk_far ?_ NB211_216.out _; (with_reducible repeat (first | apply bq | apply bd | apply ba)); exact BK211.out⟩, ⟨by (with_reducible repeat (first | apply bq | apply bd | apply ba)); refine blk_far ?_ NB214_216.out _; (with_reducible repeat (first | apply bq | apply bd | apply ba)); refine blk_far ?_ NB214_216.out _; (with_reducible repeat (first | apply bq | apply bd | apply ba)); exact BK214.out⟩, ⟨by (with_reducible repeat (first | apply bq | apply bd | apply ba)); refine blk_put (cs := #[.int .i64 (wrap64 (a2_0 + 1)), .int .i64 0]) ?_ 1 _ rfl; (with_reducible repeat (first | apply bq | apply bd | apply ba)); refine blk_put (cs := #[.int .i64 0, .int .i64 0]) ?_ 0 _ rfl; (with_reducible repeat (first | apply bq | apply bd | apply ba)); exact BK216.out⟩, ⟨by repeat (first | (with_reducible first | exact HB.out | apply below_alloc | apply pw_below_drewN | apply below_drew1 | refine below_set ?_ GE209.out | refine below_set ?_ GE210.out | refine below_set ?_ GE211.out | refine below_set ?_ GE214.out | refine below_set ?_ GE216.out) | exact HB.out)⟩⟩
          rw [if_neg c78] at H
          have c78b0 : ((rdOf ByteArray.empty l1 (ji56)).toList == ([45] : List UInt8)) = false := beq_eq_false_iff_ne.mpr c78
          have c78b1 : ((rdOf ByteArray.empty l1 (ji56)).toList != ([45] : List UInt8)) = true := bne_iff_ne.mpr c78
          by_cases c79 : 0 < ((rdOf ByteArray.empty l1 (ji56)).size : Int)
          ·rw [if_pos c79] at H
           have c79b0 : decide (0 < ((rdOf ByteArray.empty l1 (ji56)).size : Int)) = true := decide_eq_true c79
           have c79b1 : decide (0 < (rdOf ByteArray.empty l1 (ji56)).size) = true := decide_eq_true (by omega)
           clear c79
           have H' := Aside0.mk H
           clear H
           have p80 : 0 ≤ (0 : Int) := (by omega)
           have q80 : 0 < (rdOf ByteArray.empty l1 (ji56)).size := (by have : (0 : Int) < ((rdOf ByteArray.empty l1 (ji56)).size : Int) := of_decide_eq_true (by first | (with_reducible assumption) | assumption); omega)
           have hx80 : ∀ h : 0 < (rdOf ByteArray.empty l1 (ji56)).size, (((rdOf ByteArray.empty l1 (ji56))[0]'h).toNat : Int) = bt (rdOf ByteArray.empty l1 (ji56)) 0 := bt_at (rdOf ByteArray.empty l1 (ji56)) 0
           clear p80
           have qi80 : (0 < ((rdOf ByteArray.empty l1 (ji56)).size : Int)) = True := eq_true (of_decide_eq_true (by first | (with_reducible assumption) | assumption))
           replace q80 := eq_true q80
           iterate 6 (try go_wp2; try go_quiet (fail))
           go_meet
           case rel => exact ⟨_, (((bt (rdOf ByteArray.empty l1 (ji56)) 0) != 45)), (by first | rfl | (simp; done) | (simp only [← hji56] <;> (first | rfl | simp)) | (simp [*]; done)), H', ⟨by have := HJ5.out; first | omega | exact Nat.le_refl _⟩, ⟨by (with_reducible repeat (first | apply bq | apply bd | apply ba)); refine blk_far ?_ NB209_216.out _; (with_reducible repeat (first | apply bq | apply bd | apply ba)); refine blk_far ?_ NB209_216.out _; (with_reducible repeat (first | apply bq | apply bd | apply ba)); exact BK209.out⟩, ⟨by (with_reducible repeat (first | apply bq | apply bd | apply ba)); refine blk_far ?_ NB210_216.out _; (with_reducible repeat (first | apply bq | apply bd | apply ba)); refine blk_far ?_ NB210_216.out _; (with_reducible repeat (first | apply bq | apply bd | apply ba)); exact BK210.out⟩, ⟨by (with_reducible repeat (first | apply bq | apply bd | apply ba)); refine blk_far ?_ NB211_216.out _; (with_reducible repeat (first | apply bq | apply bd | apply ba)); refine blk_far ?_ NB211_216.out _; (with_reducible repeat (first | apply bq | apply bd | apply ba)); exact BK211.out⟩, ⟨by (with_reducible repeat (first | apply bq | apply bd | apply ba)); refine blk_far ?_ NB214_216.out _; (with_reducible repeat (first | apply bq | apply bd | apply ba)); refine blk_far ?_ NB214_216.out _; (with_reducible repeat (first | apply bq | apply bd | apply ba)); exact BK214.out⟩, ⟨by (with_reducible repeat (first | apply bq | apply bd | apply ba)); refine blk_put (cs := #[.int .i64 (wrap64 (a2_0 + 1)), .int .i64 0]) ?_ 1 _ rfl; (with_reducible repeat (first | apply bq | apply bd | apply ba)); refine blk_put (cs := #[.int .i64 0, .int .i64 0]) ?_ 0 _ rfl; (with_reducible repeat (first | apply bq | apply bd | apply ba)); exact BK216.out⟩, ⟨by repeat (first | (with_reducible first | exact HB.out | apply below_alloc | apply pw_below_drewN | apply below_drew1 | refine below_set ?_ GE209.out | refine below_set ?_ GE210.out | refine below_set ?_ GE211.out | refine below_set ?_ GE214.out | refine below_set ?_ GE216.out) | exact HB.out)⟩⟩
          rw [if_neg c79] at H
          exact absurd H (by simp)
         case rest => as_aux_lemma =>
          clear HC76; (try clear c1); (try clear c2); (try clear p2); (try clear q2); (try clear hx2); (try clear c3); (try clear c4); (try clear c5); (try clear c5b0); (try clear c5b1); (try clear c6); (try clear p6); (try clear c7); (try clear p8); (try clear q8); (try clear hx8); (try clear qi8); (try clear c11); (try clear c11b0); (try clear c12); (try clear c13); (try clear c14); (try clear c15); (try clear c15b0); (try clear c16); (try clear c17); (try clear c19); (try clear c19b0); (try clear c20); (try clear c20b0); (try clear c21); (try clear p21); (try clear q21); (try clear hx21); (try clear c22); (try clear c25); (try clear c25b0); (try clear c26); (try clear c26b0); (try clear c27); (try clear c28); (try clear c30); (try clear c31); (try clear c33); (try clear c34); (try clear c35); (try clear c37); (try clear c39); (try clear c39b0); (try clear c41); (try clear c42); (try clear c43); (try clear c45); (try clear c46); (try clear c57); (try clear c57b0); (try clear c58); (try clear c58b0); (try clear c61); (try clear c62); (try clear c63); (try clear p64); (try clear c65); (try clear c66); (try clear c69); (try clear c70); (try clear c71); (try clear c72); (try clear c75); (try clear c75b0); (try clear c75b1); (try clear c77); (try clear c77b0); (try clear c77b1); (try clear c78); (try clear c78b0); (try clear c78b1); (try clear c79); (try clear c79b0); (try clear c79b1); (try clear p80); (try clear q80); (try clear hx80); (try clear qi80); (try clear hcz14_0); (try clear hcz14_1); (try clear hcz18_0); (try clear hcz18_1); (try clear hcz23_0); (try clear hcz23_1); (try clear hcz29_0); (try clear hcz29_1); (try clear hcz32_0); (try clear hcz32_1); (try clear hcz36_0); (try clear hcz36_1); (try clear hcz36_2); (try clear hcz36_3); (try clear hcz38_0); (try clear hcz38_1); (try clear hcz44_0); (try clear hcz44_1); (try clear hcz44_2); (try clear hcz44_3); (try clear hcz47_0); (try clear hcz47_1); (try clear hcz64_0); (try clear hcz64_1); (try clear hcz64_2); (try clear hcz64_3); (try clear hcz67_0); (try clear hcz67_1); (try clear hcz73_0); (try clear hcz73_1); (try clear hcz74_0); (try clear hcz74_1); (try clear hfz14_0); (try clear hfz14_1); (try clear hfz18_0); (try clear hfz18_1); (try clear hfz23_0); (try clear hfz23_1); (try clear hfz29_0); (try clear hfz29_1); (try clear hfz32_0); (try clear hfz32_1); (try clear hfz36_0); (try clear hfz36_1); (try clear hfz36_2); (try clear hfz36_3); (try clear hfz38_0); (try clear hfz38_1); (try clear hfz44_0); (try clear hfz44_1); (try clear hfz44_2); (try clear hfz44_3); (try clear hfz47_0); (try clear hfz47_1); (try clear hfz64_0); (try clear hfz64_1); (try clear hfz64_2); (try clear hfz64_3); (try clear hfz67_0); (try clear hfz67_1); (try clear hfz73_0); (try clear hfz73_1); (try clear hfz74_0); (try clear hfz74_1); (try clear hx213_0); (try clear hx215_0); (try clear p2); (try clear p21); (try clear p213); (try clear p215); (try clear p6); (try clear p80); (try clear q2); (try clear q21); (try clear q213); (try clear q215); (try clear q80)
          obtain ⟨kq, x91_75, rfl, HA, HJ75, BK209, BK210, BK211, BK214, BK216, HB⟩ := hcut
          cases kq with
          | zero => exact absurd HA.out (by simp [jobshellref16_Next.j1])
          | succ kj75 =>
           have H := HA.out; clear HA
           simp only [jobshellref16_Next.j1] at H
           by_cases c81 : x91_75 = true
           ·subst c81
            have H1 : (some ((⟨#[63]⟩ : ByteArray), (⟨#[]⟩ : ByteArray), 1, (⟨#[]⟩ : ByteArray), a2_0, a2_1, 0)) = some (r1, r2, r3, r4, r5, r6, r7) := by rw [if_pos rfl] at H; exact H
            clear H; have H := H1; clear H1
            simp only [Option.some.injEq, Prod.mk.injEq] at H
            obtain ⟨rfl, rfl, rfl, rfl, rfl, rfl, rfl⟩ := H
            iterate 6 (try go_wp2; try go_quiet (fail))
            (try (rw [drewN_self wc]; generalize hq_ : World.drewN wc _ = wc; have n0_ : Aside0 (wc.heap[gb209]? = some (.cells #[.int .i64 a2_0, .int .i64 a2_1] 29 (0, 0))) := ⟨by rw [← hq_]; exact (by (with_reducible repeat (first | apply bq | apply bd | apply ba)); exact BK209.out)⟩; have n1_ : Aside0 (wc.heap[gb210]? = some (.cells #[.string (⟨#[]⟩ : ByteArray), .string (⟨#[]⟩ : ByteArray), .int .i64 0, .string (⟨#[]⟩ : ByteArray)] 32 (0, 0))) := ⟨by rw [← hq_]; exact (by (with_reducible repeat (first | apply bq | apply bd | apply ba)); exact BK210.out)⟩; have n2_ : Aside0 (wc.heap[gb211]? = some (.cells #[.int .i64 0, .int .i64 0] 29 (0, 0))) := ⟨by rw [← hq_]; exact (by (with_reducible repeat (first | apply bq | apply bd | apply ba)); exact BK211.out)⟩; have n3_ : Aside0 (wc.heap[gb214]? = some (.cells #[.string (⟨#[63]⟩ : ByteArray), .string (⟨#[]⟩ : ByteArray), .int .i64 1, .string (⟨#[]⟩ : ByteArray)] 32 (0, 0))) := ⟨by rw [← hq_]; exact (by (with_reducible repeat (first | apply bq | apply bd | apply ba)); exact BK214.out)⟩; have n4_ : Aside0 (wc.heap[gb216]? = some (.cells #[.int .i64 (wrap64 (a2_0 + 1)), .int .i64 0] 29 (0, 0))) := ⟨by rw [← hq_]; exact (by (with_reducible repeat (first | apply bq | apply bd | apply ba)); exact BK216.out)⟩; have n5_ : Aside0 (Below w.heap.size w wc) := ⟨by rw [← hq_]; exact (by repeat (first | (with_reducible first | exact HB.out | apply below_alloc | apply pw_below_drewN | apply below_drew1 | refine below_set ?_ GE209.out | refine below_set ?_ GE210.out | refine below_set ?_ GE211.out | refine below_set ?_ GE214.out | refine below_set ?_ GE216.out) | exact HB.out))⟩; clear BK209 BK210 BK211 BK214 BK216 HB hq_; have BK209 := n0_; have BK210 := n1_; have BK211 := n2_; have BK214 := n3_; have BK216 := n4_; have HB := n5_; clear n0_ n1_ n2_ n3_ n4_ n5_))
            have n0_ := Aside0.mk (blk_drew BK209.out)
            have n1_ := Aside0.mk (blk_drew BK210.out)
            have n2_ := Aside0.mk (blk_drew BK211.out)
            have n3_ := Aside0.mk (blk_drew BK214.out)
            have n4_ := Aside0.mk (blk_drew BK216.out)
            have n5_ := Aside0.mk (below_drew1 HB.out)
            clear BK209; clear BK210; clear BK211; clear BK214; clear BK216; clear HB; have BK209 := n0_; have BK210 := n1_; have BK211 := n2_; have BK214 := n3_; have BK216 := n4_; have HB := n5_; clear n0_ n1_ n2_ n3_ n4_ n5_
            refine start_ (n := 5) (S := fun w' => w'.cell? ⟨gb214,0,none⟩ = some (.string (⟨#[63]⟩ : ByteArray)) ∧ w'.cell? ⟨gb214,1,none⟩ = some (.string (⟨#[]⟩ : ByteArray)) ∧ w'.cell? ⟨gb214,2,none⟩ = some (.int .i64 1) ∧ w'.cell? ⟨gb214,3,none⟩ = some (.string (⟨#[]⟩ : ByteArray)) ∧ w'.cell? ⟨gb209,0,none⟩ = some (.int .i64 a2_0) ∧ w'.cell? ⟨gb209,1,none⟩ = some (.int .i64 a2_1)) (ds := []) #[ff,ff,ff,ff,ff] (by kernel_rfl) rfl rfl ⟨(blk_cell BK214.out 0).trans rfl, (blk_cell BK214.out 1).trans rfl, (blk_cell BK214.out 2).trans rfl, (blk_cell BK214.out 3).trans rfl, (blk_cell BK209.out 0).trans rfl, (blk_cell BK209.out 1).trans rfl⟩ (fun hHeld => ?_)
            generalize wc.drew = w82 at BK209 BK210 BK211 BK214 BK216 HB hHeld ⊢
            refine take_ (i := 0) (N := some 92) (v := ?_) (a' := ?_) #[tt,ff,ff,ff,ff] rfl rfl (by kernel_rfl) (fun _ _ _ h => h) (Or.inl ⟨by rfl, ?_⟩) hHeld ?_ ?_
            rotate_left
            ·rintro w' ⟨s0, s1, s2, s3, s4, s5⟩
             go_simp
             with_reducible rfl
            rotate_left
            ·simp only [Act.put, sb_, sz_, ss_, i64_w, i32_w]
             rfl
            refine take_ (i := 1) (N := some 93) (v := ?_) (a' := ?_) #[tt,tt,ff,ff,ff] rfl rfl (by kernel_rfl) (fun _ _ _ h => h) (Or.inl ⟨by rfl, ?_⟩) hHeld ?_ ?_
            rotate_left
            ·rintro w' ⟨s0, s1, s2, s3, s4, s5⟩
             go_simp
             with_reducible rfl
            rotate_left
            ·simp only [Act.put, sb_, sz_, ss_, i64_w, i32_w]
             rfl
            refine one_ (i := 2) (N := none) #[tt,tt,tt,ff,ff] rfl rfl (by kernel_rfl) (by decide) (fun K hK => ?_)
            have hs83 : w82.cell? ⟨gb210,0,none⟩ = some (.string (⟨#[]⟩ : ByteArray)) := (blk_cell BK210.out 0).trans rfl
            have hfs83 := blk_frozen BK210.out 0
            have hns83_0 := NB209_210.out; have hns83_2 := NB211_210.out; have hns83_3 := NB214_210.out; have hns83_4 := NB216_210.out; have hms83_0 := NB210_209.out; have hms83_2 := NB210_211.out; have hms83_3 := NB210_214.out; have hms83_4 := NB210_216.out
            have hs84 : w82.cell? ⟨gb210,1,none⟩ = some (.string (⟨#[]⟩ : ByteArray)) := (blk_cell BK210.out 1).trans rfl
            have hfs84 := blk_frozen BK210.out 1
            have hns84_0 := NB209_210.out; have hns84_2 := NB211_210.out; have hns84_3 := NB214_210.out; have hns84_4 := NB216_210.out; have hms84_0 := NB210_209.out; have hms84_2 := NB210_211.out; have hms84_3 := NB210_214.out; have hms84_4 := NB210_216.out
            have hs85 : w82.cell? ⟨gb210,2,none⟩ = some (.int .i64 0) := (blk_cell BK210.out 2).trans rfl
            have hfs85 := blk_frozen BK210.out 2
            have hns85_0 := NB209_210.out; have hns85_2 := NB211_210.out; have hns85_3 := NB214_210.out; have hns85_4 := NB216_210.out; have hms85_0 := NB210_209.out; have hms85_2 := NB210_211.out; have hms85_3 := NB210_214.out; have hms85_4 := NB210_216.out
            have hs86 : w82.cell? ⟨gb210,3,none⟩ = some (.string (⟨#[]⟩ : ByteArray)) := (blk_cell BK210.out 3).trans rfl
            have hfs86 := blk_frozen BK210.out 3
            have hns86_0 := NB209_210.out; have hns86_2 := NB211_210.out; have hns86_3 := NB214_210.out; have hns86_4 := NB216_210.out; have hms86_0 := NB210_209.out; have hms86_2 := NB210_211.out; have hms86_3 := NB210_214.out; have hms86_4 := NB210_216.out
            refine skip_ (w1 := (((w82.setCell ⟨gb210,0,none⟩ (.string ⟨#[63]⟩)).setCell ⟨gb210,1,none⟩ (.string ⟨#[]⟩)).setCell ⟨gb210,2,none⟩ (.int .i64 1)).setCell ⟨gb210,3,none⟩ (.string ⟨#[]⟩)) (by rfl) rfl ?_ ?_
            ·as_aux_lemma => go_simp
            refine hK.out _ _ ⟨((cell_far (p := ⟨gb210,_,none⟩) NB214_210.out _).trans (((cell_far (p := ⟨gb210,_,none⟩) NB214_210.out _).trans (((cell_far (p := ⟨gb210,_,none⟩) NB214_210.out _).trans (((cell_far (p := ⟨gb210,_,none⟩) NB214_210.out _).trans (hHeld.1)))))))), ((cell_far (p := ⟨gb210,_,none⟩) NB214_210.out _).trans (((cell_far (p := ⟨gb210,_,none⟩) NB214_210.out _).trans (((cell_far (p := ⟨gb210,_,none⟩) NB214_210.out _).trans (((cell_far (p := ⟨gb210,_,none⟩) NB214_210.out _).trans (hHeld.2.1)))))))), ((cell_far (p := ⟨gb210,_,none⟩) NB214_210.out _).trans (((cell_far (p := ⟨gb210,_,none⟩) NB214_210.out _).trans (((cell_far (p := ⟨gb210,_,none⟩) NB214_210.out _).trans (((cell_far (p := ⟨gb210,_,none⟩) NB214_210.out _).trans (hHeld.2.2.1)))))))), ((cell_far (p := ⟨gb210,_,none⟩) NB214_210.out _).trans (((cell_far (p := ⟨gb210,_,none⟩) NB214_210.out _).trans (((cell_far (p := ⟨gb210,_,none⟩) NB214_210.out _).trans (((cell_far (p := ⟨gb210,_,none⟩) NB214_210.out _).trans (hHeld.2.2.2.1)))))))), ((cell_far (p := ⟨gb210,_,none⟩) NB209_210.out _).trans (((cell_far (p := ⟨gb210,_,none⟩) NB209_210.out _).trans (((cell_far (p := ⟨gb210,_,none⟩) NB209_210.out _).trans (((cell_far (p := ⟨gb210,_,none⟩) NB209_210.out _).trans (hHeld.2.2.2.2.1)))))))), ((cell_far (p := ⟨gb210,_,none⟩) NB209_210.out _).trans (((cell_far (p := ⟨gb210,_,none⟩) NB209_210.out _).trans (((cell_far (p := ⟨gb210,_,none⟩) NB209_210.out _).trans (((cell_far (p := ⟨gb210,_,none⟩) NB209_210.out _).trans (hHeld.2.2.2.2.2))))))))⟩ (fun hHeld => ?_)
            clear hK K
            refine one_ (i := 3) (N := none) #[tt,tt,tt,tt,ff] rfl rfl (by kernel_rfl) (by decide) (fun K hK => ?_)
            have hs87 : w82.cell? ⟨gb211,0,none⟩ = some (.int .i64 0) := (blk_cell BK211.out 0).trans rfl
            have hfs87 := blk_frozen BK211.out 0
            have hns87_0 := NB209_211.out; have hns87_1 := NB210_211.out; have hns87_3 := NB214_211.out; have hns87_4 := NB216_211.out; have hms87_0 := NB211_209.out; have hms87_1 := NB211_210.out; have hms87_3 := NB211_214.out; have hms87_4 := NB211_216.out
            have hs88 : w82.cell? ⟨gb211,1,none⟩ = some (.int .i64 0) := (blk_cell BK211.out 1).trans rfl
            have hfs88 := blk_frozen BK211.out 1
            have hns88_0 := NB209_211.out; have hns88_1 := NB210_211.out; have hns88_3 := NB214_211.out; have hns88_4 := NB216_211.out; have hms88_0 := NB211_209.out; have hms88_1 := NB211_210.out; have hms88_3 := NB211_214.out; have hms88_4 := NB211_216.out
            refine skip_ (w1 := (((((w82.setCell ⟨gb210,0,none⟩ (.string ⟨#[63]⟩)).setCell ⟨gb210,1,none⟩ (.string ⟨#[]⟩)).setCell ⟨gb210,2,none⟩ (.int .i64 1)).setCell ⟨gb210,3,none⟩ (.string ⟨#[]⟩)).setCell ⟨gb211,0,none⟩ (.int .i64 a2_0)).setCell ⟨gb211,1,none⟩ (.int .i64 a2_1)) (by rfl) rfl ?_ ?_
            ·as_aux_lemma => go_simp
            refine hK.out _ _ ⟨((cell_far (p := ⟨gb211,_,none⟩) NB214_211.out _).trans (((cell_far (p := ⟨gb211,_,none⟩) NB214_211.out _).trans (hHeld.1)))), ((cell_far (p := ⟨gb211,_,none⟩) NB214_211.out _).trans (((cell_far (p := ⟨gb211,_,none⟩) NB214_211.out _).trans (hHeld.2.1)))), ((cell_far (p := ⟨gb211,_,none⟩) NB214_211.out _).trans (((cell_far (p := ⟨gb211,_,none⟩) NB214_211.out _).trans (hHeld.2.2.1)))), ((cell_far (p := ⟨gb211,_,none⟩) NB214_211.out _).trans (((cell_far (p := ⟨gb211,_,none⟩) NB214_211.out _).trans (hHeld.2.2.2.1)))), ((cell_far (p := ⟨gb211,_,none⟩) NB209_211.out _).trans (((cell_far (p := ⟨gb211,_,none⟩) NB209_211.out _).trans (hHeld.2.2.2.2.1)))), ((cell_far (p := ⟨gb211,_,none⟩) NB209_211.out _).trans (((cell_far (p := ⟨gb211,_,none⟩) NB209_211.out _).trans (hHeld.2.2.2.2.2))))⟩ (fun hHeld => ?_)
            clear hK K
            refine pure_ (i := 4) (N := some 8) (v := ?_) (a' := ?_) #[tt,tt,tt,tt,tt] rfl rfl (by kernel_rfl) (fun _ _ _ h => h) (Or.inl ⟨by rfl, ?_⟩) ?_ ?_
            rotate_left
            ·intro w'
             go_simp
             with_reducible rfl
            rotate_left
            ·simp only [Act.put, sb_, sz_, ss_, i64_w, i32_w]
             rfl
            refine done_ (by kernel_rfl) ?_
            iterate 6 (try go_wp2; try go_quiet (fail))
            refine bodyPost_ret (results_list (rs := [.cell 6 32, .cell 7 29, .tmp 8]) rfl (by simp) (.cell gb210 32 #[.string (⟨#[63]⟩ : ByteArray), .string (⟨#[]⟩ : ByteArray), .int .i64 1, .string (⟨#[]⟩ : ByteArray)] (0, 0) _ rfl (by (with_reducible repeat (first | apply bq | apply bd | apply ba)); refine blk_far ?_ NB210_211.out _; (with_reducible repeat (first | apply bq | apply bd | apply ba)); refine blk_far ?_ NB210_211.out _; (with_reducible repeat (first | apply bq | apply bd | apply ba)); refine blk_put (cs := #[.string (⟨#[63]⟩ : ByteArray), .string (⟨#[]⟩ : ByteArray), .int .i64 1, .string (⟨#[]⟩ : ByteArray)]) ?_ 3 _ rfl; (with_reducible repeat (first | apply bq | apply bd | apply ba)); refine blk_put (cs := #[.string (⟨#[63]⟩ : ByteArray), .string (⟨#[]⟩ : ByteArray), .int .i64 0, .string (⟨#[]⟩ : ByteArray)]) ?_ 2 _ rfl; (with_reducible repeat (first | apply bq | apply bd | apply ba)); refine blk_put (cs := #[.string (⟨#[63]⟩ : ByteArray), .string (⟨#[]⟩ : ByteArray), .int .i64 0, .string (⟨#[]⟩ : ByteArray)]) ?_ 1 _ rfl; (with_reducible repeat (first | apply bq | apply bd | apply ba)); refine blk_put (cs := #[.string (⟨#[]⟩ : ByteArray), .string (⟨#[]⟩ : ByteArray), .int .i64 0, .string (⟨#[]⟩ : ByteArray)]) ?_ 0 _ rfl; (with_reducible repeat (first | apply bq | apply bd | apply ba)); exact BK210.out) Try.underlying32 rfl (by kernel_rfl) (.cell gb211 29 #[.int .i64 a2_0, .int .i64 a2_1] (0, 0) _ rfl (by (with_reducible repeat (first | apply bq | apply bd | apply ba)); refine blk_put (cs := #[.int .i64 a2_0, .int .i64 0]) ?_ 1 _ rfl; (with_reducible repeat (first | apply bq | apply bd | apply ba)); refine blk_put (cs := #[.int .i64 0, .int .i64 0]) ?_ 0 _ rfl; (with_reducible repeat (first | apply bq | apply bd | apply ba)); refine blk_far ?_ NB211_210.out _; (with_reducible repeat (first | apply bq | apply bd | apply ba)); refine blk_far ?_ NB211_210.out _; (with_reducible repeat (first | apply bq | apply bd | apply ba)); refine blk_far ?_ NB211_210.out _; (with_reducible repeat (first | apply bq | apply bd | apply ba)); refine blk_far ?_ NB211_210.out _; (with_reducible repeat (first | apply bq | apply bd | apply ba)); exact BK211.out) Try.underlying29 rfl (by kernel_rfl) (.tmp .nil)))) rfl ?_
            exact ⟨by first | rfl | (simp [errW_none, errW_some] <;> rfl) | (simp only [← hji56]; first | rfl | (simp [errW_none, errW_some] <;> rfl)) | (simp [*, errW_none, errW_some] <;> rfl), by repeat (first | (with_reducible first | exact HB.out | apply below_alloc | apply pw_below_drewN | apply below_drew1 | refine below_set ?_ GE209.out | refine below_set ?_ GE210.out | refine below_set ?_ GE211.out | refine below_set ?_ GE214.out | refine below_set ?_ GE216.out) | exact HB.out)⟩
           ·replace c81 := Bool.eq_false_iff.mpr c81
            subst c81
            have H1 : (if (rdOf ByteArray.empty l1 (ji56)).toList = ([45, 45] : List UInt8) then (some ((⟨#[63]⟩ : ByteArray), (⟨#[]⟩ : ByteArray), 1, (⟨#[]⟩ : ByteArray), (wrap64 (a2_0 + 1)), 0, 0)) else (jobshellref16_Next.j2 kj75 a0 l1 (rdOf ByteArray.empty l1 (ji56)) 1 a2_0 a2_1 (wrap64 (a2_0 + 1)) 0)) = some (r1, r2, r3, r4, r5, r6, r7) := by rw [if_neg (show ¬ (false = true) by decide)] at H; exact H
            clear H; have H := H1; clear H1
            by_cases c89 : (rdOf ByteArray.empty l1 (ji56)).toList = ([45, 45] : List UInt8)
            ·rw [if_pos c89] at H
             have c89b0 : ((rdOf ByteArray.empty l1 (ji56)).toList == ([45, 45] : List UInt8)) = true := beq_iff_eq.mpr c89
             have c89b1 : ((rdOf ByteArray.empty l1 (ji56)).toList != ([45, 45] : List UInt8)) = false := bne_eq_false_iff_eq.mpr c89
             clear c89
             simp only [Option.some.injEq, Prod.mk.injEq] at H
             obtain ⟨rfl, rfl, rfl, rfl, rfl, rfl, rfl⟩ := H
             iterate 6 (try go_wp2; try go_quiet (fail))
             (try (rw [drewN_self wc]; generalize hq_ : World.drewN wc _ = wc; have n0_ : Aside0 (wc.heap[gb209]? = some (.cells #[.int .i64 a2_0, .int .i64 a2_1] 29 (0, 0))) := ⟨by rw [← hq_]; exact (by (with_reducible repeat (first | apply bq | apply bd | apply ba)); exact BK209.out)⟩; have n1_ : Aside0 (wc.heap[gb210]? = some (.cells #[.string (⟨#[]⟩ : ByteArray), .string (⟨#[]⟩ : ByteArray), .int .i64 0, .string (⟨#[]⟩ : ByteArray)] 32 (0, 0))) := ⟨by rw [← hq_]; exact (by (with_reducible repeat (first | apply bq | apply bd | apply ba)); exact BK210.out)⟩; have n2_ : Aside0 (wc.heap[gb211]? = some (.cells #[.int .i64 0, .int .i64 0] 29 (0, 0))) := ⟨by rw [← hq_]; exact (by (with_reducible repeat (first | apply bq | apply bd | apply ba)); exact BK211.out)⟩; have n3_ : Aside0 (wc.heap[gb214]? = some (.cells #[.string (⟨#[63]⟩ : ByteArray), .string (⟨#[]⟩ : ByteArray), .int .i64 1, .string (⟨#[]⟩ : ByteArray)] 32 (0, 0))) := ⟨by rw [← hq_]; exact (by (with_reducible repeat (first | apply bq | apply bd | apply ba)); exact BK214.out)⟩; have n4_ : Aside0 (wc.heap[gb216]? = some (.cells #[.int .i64 (wrap64 (a2_0 + 1)), .int .i64 0] 29 (0, 0))) := ⟨by rw [← hq_]; exact (by (with_reducible repeat (first | apply bq | apply bd | apply ba)); exact BK216.out)⟩; have n5_ : Aside0 (Below w.heap.size w wc) := ⟨by rw [← hq_]; exact (by repeat (first | (with_reducible first | exact HB.out | apply below_alloc | apply pw_below_drewN | apply below_drew1 | refine below_set ?_ GE209.out | refine below_set ?_ GE210.out | refine below_set ?_ GE211.out | refine below_set ?_ GE214.out | refine below_set ?_ GE216.out) | exact HB.out))⟩; clear BK209 BK210 BK211 BK214 BK216 HB hq_; have BK209 := n0_; have BK210 := n1_; have BK211 := n2_; have BK214 := n3_; have BK216 := n4_; have HB := n5_; clear n0_ n1_ n2_ n3_ n4_ n5_))
             have n0_ := Aside0.mk (blk_drew BK209.out)
             have n1_ := Aside0.mk (blk_drew BK210.out)
             have n2_ := Aside0.mk (blk_drew BK211.out)
             have n3_ := Aside0.mk (blk_drew BK214.out)
             have n4_ := Aside0.mk (blk_drew BK216.out)
             have n5_ := Aside0.mk (below_drew1 HB.out)
             clear BK209; clear BK210; clear BK211; clear BK214; clear BK216; clear HB; have BK209 := n0_; have BK210 := n1_; have BK211 := n2_; have BK214 := n3_; have BK216 := n4_; have HB := n5_; clear n0_ n1_ n2_ n3_ n4_ n5_
             refine start_ (n := 5) (S := fun w' => w'.cell? ⟨gb214,0,none⟩ = some (.string (⟨#[63]⟩ : ByteArray)) ∧ w'.cell? ⟨gb214,1,none⟩ = some (.string (⟨#[]⟩ : ByteArray)) ∧ w'.cell? ⟨gb214,2,none⟩ = some (.int .i64 1) ∧ w'.cell? ⟨gb214,3,none⟩ = some (.string (⟨#[]⟩ : ByteArray)) ∧ w'.cell? ⟨gb216,0,none⟩ = some (.int .i64 (wrap64 (a2_0 + 1))) ∧ w'.cell? ⟨gb216,1,none⟩ = some (.int .i64 0)) (ds := []) #[ff,ff,ff,ff,ff] (by kernel_rfl) rfl rfl ⟨(blk_cell BK214.out 0).trans rfl, (blk_cell BK214.out 1).trans rfl, (blk_cell BK214.out 2).trans rfl, (blk_cell BK214.out 3).trans rfl, (blk_cell BK216.out 0).trans rfl, (blk_cell BK216.out 1).trans rfl⟩ (fun hHeld => ?_)
             generalize wc.drew = w90 at BK209 BK210 BK211 BK214 BK216 HB hHeld ⊢
             refine take_ (i := 0) (N := some 96) (v := ?_) (a' := ?_) #[tt,ff,ff,ff,ff] rfl rfl (by kernel_rfl) (fun _ _ _ h => h) (Or.inl ⟨by rfl, ?_⟩) hHeld ?_ ?_
             rotate_left
             ·rintro w' ⟨s0, s1, s2, s3, s4, s5⟩
              go_simp
              with_reducible rfl
             rotate_left
             ·simp only [Act.put, sb_, sz_, ss_, i64_w, i32_w]
              rfl
             refine take_ (i := 1) (N := some 97) (v := ?_) (a' := ?_) #[tt,tt,ff,ff,ff] rfl rfl (by kernel_rfl) (fun _ _ _ h => h) (Or.inl ⟨by rfl, ?_⟩) hHeld ?_ ?_
             rotate_left
             ·rintro w' ⟨s0, s1, s2, s3, s4, s5⟩
              go_simp
              with_reducible rfl
             rotate_left
             ·simp only [Act.put, sb_, sz_, ss_, i64_w, i32_w]
              rfl
             refine one_ (i := 2) (N := none) #[tt,tt,tt,ff,ff] rfl rfl (by kernel_rfl) (by decide) (fun K hK => ?_)
             have hs91 : w90.cell? ⟨gb210,0,none⟩ = some (.string (⟨#[]⟩ : ByteArray)) := (blk_cell BK210.out 0).trans rfl
             have hfs91 := blk_frozen BK210.out 0
             have hns91_0 := NB209_210.out; have hns91_2 := NB211_210.out; have hns91_3 := NB214_210.out; have hns91_4 := NB216_210.out; have hms91_0 := NB210_209.out; have hms91_2 := NB210_211.out; have hms91_3 := NB210_214.out; have hms91_4 := NB210_216.out
             have hs92 : w90.cell? ⟨gb210,1,none⟩ = some (.string (⟨#[]⟩ : ByteArray)) := (blk_cell BK210.out 1).trans rfl
             have hfs92 := blk_frozen BK210.out 1
             have hns92_0 := NB209_210.out; have hns92_2 := NB211_210.out; have hns92_3 := NB214_210.out; have hns92_4 := NB216_210.out; have hms92_0 := NB210_209.out; have hms92_2 := NB210_211.out; have hms92_3 := NB210_214.out; have hms92_4 := NB210_216.out
             have hs93 : w90.cell? ⟨gb210,2,none⟩ = some (.int .i64 0) := (blk_cell BK210.out 2).trans rfl
             have hfs93 := blk_frozen BK210.out 2
             have hns93_0 := NB209_210.out; have hns93_2 := NB211_210.out; have hns93_3 := NB214_210.out; have hns93_4 := NB216_210.out; have hms93_0 := NB210_209.out; have hms93_2 := NB210_211.out; have hms93_3 := NB210_214.out; have hms93_4 := NB210_216.out
             have hs94 : w90.cell? ⟨gb210,3,none⟩ = some (.string (⟨#[]⟩ : ByteArray)) := (blk_cell BK210.out 3).trans rfl
             have hfs94 := blk_frozen BK210.out 3
             have hns94_0 := NB209_210.out; have hns94_2 := NB211_210.out; have hns94_3 := NB214_210.out; have hns94_4 := NB216_210.out; have hms94_0 := NB210_209.out; have hms94_2 := NB210_211.out; have hms94_3 := NB210_214.out; have hms94_4 := NB210_216.out
             refine skip_ (w1 := (((w90.setCell ⟨gb210,0,none⟩ (.string ⟨#[63]⟩)).setCell ⟨gb210,1,none⟩ (.string ⟨#[]⟩)).setCell ⟨gb210,2,none⟩ (.int .i64 1)).setCell ⟨gb210,3,none⟩ (.string ⟨#[]⟩)) (by rfl) rfl ?_ ?_
             ·as_aux_lemma => go_simp
             refine hK.out _ _ ⟨((cell_far (p := ⟨gb210,_,none⟩) NB214_210.out _).trans (((cell_far (p := ⟨gb210,_,none⟩) NB214_210.out _).trans (((cell_far (p := ⟨gb210,_,none⟩) NB214_210.out _).trans (((cell_far (p := ⟨gb210,_,none⟩) NB214_210.out _).trans (hHeld.1)))))))), ((cell_far (p := ⟨gb210,_,none⟩) NB214_210.out _).trans (((cell_far (p := ⟨gb210,_,none⟩) NB214_210.out _).trans (((cell_far (p := ⟨gb210,_,none⟩) NB214_210.out _).trans (((cell_far (p := ⟨gb210,_,none⟩) NB214_210.out _).trans (hHeld.2.1)))))))), ((cell_far (p := ⟨gb210,_,none⟩) NB214_210.out _).trans (((cell_far (p := ⟨gb210,_,none⟩) NB214_210.out _).trans (((cell_far (p := ⟨gb210,_,none⟩) NB214_210.out _).trans (((cell_far (p := ⟨gb210,_,none⟩) NB214_210.out _).trans (hHeld.2.2.1)))))))), ((cell_far (p := ⟨gb210,_,none⟩) NB214_210.out _).trans (((cell_far (p := ⟨gb210,_,none⟩) NB214_210.out _).trans (((cell_far (p := ⟨gb210,_,none⟩) NB214_210.out _).trans (((cell_far (p := ⟨gb210,_,none⟩) NB214_210.out _).trans (hHeld.2.2.2.1)))))))), ((cell_far (p := ⟨gb210,_,none⟩) NB216_210.out _).trans (((cell_far (p := ⟨gb210,_,none⟩) NB216_210.out _).trans (((cell_far (p := ⟨gb210,_,none⟩) NB216_210.out _).trans (((cell_far (p := ⟨gb210,_,none⟩) NB216_210.out _).trans (hHeld.2.2.2.2.1)))))))), ((cell_far (p := ⟨gb210,_,none⟩) NB216_210.out _).trans (((cell_far (p := ⟨gb210,_,none⟩) NB216_210.out _).trans (((cell_far (p := ⟨gb210,_,none⟩) NB216_210.out _).trans (((cell_far (p := ⟨gb210,_,none⟩) NB216_210.out _).trans (hHeld.2.2.2.2.2))))))))⟩ (fun hHeld => ?_)
             clear hK K
             refine one_ (i := 3) (N := none) #[tt,tt,tt,tt,ff] rfl rfl (by kernel_rfl) (by decide) (fun K hK => ?_)
             have hs95 : w90.cell? ⟨gb211,0,none⟩ = some (.int .i64 0) := (blk_cell BK211.out 0).trans rfl
             have hfs95 := blk_frozen BK211.out 0
             have hns95_0 := NB209_211.out; have hns95_1 := NB210_211.out; have hns95_3 := NB214_211.out; have hns95_4 := NB216_211.out; have hms95_0 := NB211_209.out; have hms95_1 := NB211_210.out; have hms95_3 := NB211_214.out; have hms95_4 := NB211_216.out
             have hs96 : w90.cell? ⟨gb211,1,none⟩ = some (.int .i64 0) := (blk_cell BK211.out 1).trans rfl
             have hfs96 := blk_frozen BK211.out 1
             have hns96_0 := NB209_211.out; have hns96_1 := NB210_211.out; have hns96_3 := NB214_211.out; have hns96_4 := NB216_211.out; have hms96_0 := NB211_209.out; have hms96_1 := NB211_210.out; have hms96_3 := NB211_214.out; have hms96_4 := NB211_216.out
             refine skip_ (w1 := (((((w90.setCell ⟨gb210,0,none⟩ (.string ⟨#[63]⟩)).setCell ⟨gb210,1,none⟩ (.string ⟨#[]⟩)).setCell ⟨gb210,2,none⟩ (.int .i64 1)).setCell ⟨gb210,3,none⟩ (.string ⟨#[]⟩)).setCell ⟨gb211,0,none⟩ (.int .i64 (wrap64 (a2_0 + 1)))).setCell ⟨gb211,1,none⟩ (.int .i64 0)) (by rfl) rfl ?_ ?_
             ·as_aux_lemma => go_simp
             refine hK.out _ _ ⟨((cell_far (p := ⟨gb211,_,none⟩) NB214_211.out _).trans (((cell_far (p := ⟨gb211,_,none⟩) NB214_211.out _).trans (hHeld.1)))), ((cell_far (p := ⟨gb211,_,none⟩) NB214_211.out _).trans (((cell_far (p := ⟨gb211,_,none⟩) NB214_211.out _).trans (hHeld.2.1)))), ((cell_far (p := ⟨gb211,_,none⟩) NB214_211.out _).trans (((cell_far (p := ⟨gb211,_,none⟩) NB214_211.out _).trans (hHeld.2.2.1)))), ((cell_far (p := ⟨gb211,_,none⟩) NB214_211.out _).trans (((cell_far (p := ⟨gb211,_,none⟩) NB214_211.out _).trans (hHeld.2.2.2.1)))), ((cell_far (p := ⟨gb211,_,none⟩) NB216_211.out _).trans (((cell_far (p := ⟨gb211,_,none⟩) NB216_211.out _).trans (hHeld.2.2.2.2.1)))), ((cell_far (p := ⟨gb211,_,none⟩) NB216_211.out _).trans (((cell_far (p := ⟨gb211,_,none⟩) NB216_211.out _).trans (hHeld.2.2.2.2.2))))⟩ (fun hHeld => ?_)
             clear hK K
             refine pure_ (i := 4) (N := some 8) (v := ?_) (a' := ?_) #[tt,tt,tt,tt,tt] rfl rfl (by kernel_rfl) (fun _ _ _ h => h) (Or.inl ⟨by rfl, ?_⟩) ?_ ?_
             rotate_left
             ·intro w'
              go_simp
              with_reducible rfl
             rotate_left
             ·simp only [Act.put, sb_, sz_, ss_, i64_w, i32_w]
              rfl
             refine done_ (by kernel_rfl) ?_
             iterate 6 (try go_wp2; try go_quiet (fail))
             refine bodyPost_ret (results_list (rs := [.cell 6 32, .cell 7 29, .tmp 8]) rfl (by simp) (.cell gb210 32 #[.string (⟨#[63]⟩ : ByteArray), .string (⟨#[]⟩ : ByteArray), .int .i64 1, .string (⟨#[]⟩ : ByteArray)] (0, 0) _ rfl (by (with_reducible repeat (first | apply bq | apply bd | apply ba)); refine blk_far ?_ NB210_211.out _; (with_reducible repeat (first | apply bq | apply bd | apply ba)); refine blk_far ?_ NB210_211.out _; (with_reducible repeat (first | apply bq | apply bd | apply ba)); refine blk_put (cs := #[.string (⟨#[63]⟩ : ByteArray), .string (⟨#[]⟩ : ByteArray), .int .i64 1, .string (⟨#[]⟩ : ByteArray)]) ?_ 3 _ rfl; (with_reducible repeat (first | apply bq | apply bd | apply ba)); refine blk_put (cs := #[.string (⟨#[63]⟩ : ByteArray), .string (⟨#[]⟩ : ByteArray), .int .i64 0, .string (⟨#[]⟩ : ByteArray)]) ?_ 2 _ rfl; (with_reducible repeat (first | apply bq | apply bd | apply ba)); refine blk_put (cs := #[.string (⟨#[63]⟩ : ByteArray), .string (⟨#[]⟩ : ByteArray), .int .i64 0, .string (⟨#[]⟩ : ByteArray)]) ?_ 1 _ rfl; (with_reducible repeat (first | apply bq | apply bd | apply ba)); refine blk_put (cs := #[.string (⟨#[]⟩ : ByteArray), .string (⟨#[]⟩ : ByteArray), .int .i64 0, .string (⟨#[]⟩ : ByteArray)]) ?_ 0 _ rfl; (with_reducible repeat (first | apply bq | apply bd | apply ba)); exact BK210.out) Try.underlying32 rfl (by kernel_rfl) (.cell gb211 29 #[.int .i64 (wrap64 (a2_0 + 1)), .int .i64 0] (0, 0) _ rfl (by (with_reducible repeat (first | apply bq | apply bd | apply ba)); refine blk_put (cs := #[.int .i64 (wrap64 (a2_0 + 1)), .int .i64 0]) ?_ 1 _ rfl; (with_reducible repeat (first | apply bq | apply bd | apply ba)); refine blk_put (cs := #[.int .i64 0, .int .i64 0]) ?_ 0 _ rfl; (with_reducible repeat (first | apply bq | apply bd | apply ba)); refine blk_far ?_ NB211_210.out _; (with_reducible repeat (first | apply bq | apply bd | apply ba)); refine blk_far ?_ NB211_210.out _; (with_reducible repeat (first | apply bq | apply bd | apply ba)); refine blk_far ?_ NB211_210.out _; (with_reducible repeat (first | apply bq | apply bd | apply ba)); refine blk_far ?_ NB211_210.out _; (with_reducible repeat (first | apply bq | apply bd | apply ba)); exact BK211.out) Try.underlying29 rfl (by kernel_rfl) (.tmp .nil)))) rfl ?_
             exact ⟨by first | rfl | (simp [errW_none, errW_some] <;> rfl) | (simp only [← hji56]; first | rfl | (simp [errW_none, errW_some] <;> rfl)) | (simp [*, errW_none, errW_some] <;> rfl), by repeat (first | (with_reducible first | exact HB.out | apply below_alloc | apply pw_below_drewN | apply below_drew1 | refine below_set ?_ GE209.out | refine below_set ?_ GE210.out | refine below_set ?_ GE211.out | refine below_set ?_ GE214.out | refine below_set ?_ GE216.out) | exact HB.out)⟩
            rw [if_neg c89] at H
            have c89b0 : ((rdOf ByteArray.empty l1 (ji56)).toList == ([45, 45] : List UInt8)) = false := beq_eq_false_iff_ne.mpr c89
            have c89b1 : ((rdOf ByteArray.empty l1 (ji56)).toList != ([45, 45] : List UInt8)) = true := bne_iff_ne.mpr c89
            have H' := Aside0.mk H
            clear H
            iterate 6 (try go_wp2; try go_quiet (fail))
            go_meet
            case rel => exact ⟨_, (1), ((⟨#[]⟩ : ByteArray)), ((⟨#[]⟩ : ByteArray)), (0), ((⟨#[]⟩ : ByteArray)), (0), (0), (by first | rfl | (simp; done) | (simp [*]; done)), H', ⟨by have := HJ5.out; have := HJ75.out; first | omega | exact Nat.le_refl _⟩, ⟨by (with_reducible repeat (first | apply bq | apply bd | apply ba)); exact BK209.out⟩, ⟨by (with_reducible repeat (first | apply bq | apply bd | apply ba)); exact BK210.out⟩, ⟨by (with_reducible repeat (first | apply bq | apply bd | apply ba)); exact BK211.out⟩, ⟨by (with_reducible repeat (first | apply bq | apply bd | apply ba)); exact BK214.out⟩, ⟨by (with_reducible repeat (first | apply bq | apply bd | apply ba)); exact BK216.out⟩, ⟨by repeat (first | (with_reducible first | exact HB.out | apply below_alloc | apply pw_below_drewN | apply below_drew1 | refine below_set ?_ GE209.out | refine below_set ?_ GE210.out | refine below_set ?_ GE211.out | refine below_set ?_ GE214.out | refine below_set ?_ GE216.out) | exact HB.out)⟩⟩
        rw [if_neg c75] at H
        have c75b0 : (a2_1 == 0) = false := beq_eq_false_iff_ne.mpr c75
        have c75b1 : (a2_1 != 0) = true := bne_iff_ne.mpr c75
        (first | rw [c75b0] | (simp only [i64_w, i32_w]; rw [c75b0]) | skip)
        have H' := Aside0.mk H
        clear H
        iterate 6 (try go_wp2; try go_quiet (fail))
        go_meet
        case rel => exact ⟨_, (a2_1), ((⟨#[]⟩ : ByteArray)), ((⟨#[]⟩ : ByteArray)), (0), ((⟨#[]⟩ : ByteArray)), (0), (0), (by first | rfl | (simp; done) | (simp [*]; done)), H', ⟨by have := HJ5.out; first | omega | exact Nat.le_refl _⟩, ⟨by (with_reducible repeat (first | apply bq | apply bd | apply ba)); refine blk_far ?_ NB209_216.out _; (with_reducible repeat (first | apply bq | apply bd | apply ba)); refine blk_far ?_ NB209_216.out _; (with_reducible repeat (first | apply bq | apply bd | apply ba)); exact BK209.out⟩, ⟨by (with_reducible repeat (first | apply bq | apply bd | apply ba)); refine blk_far ?_ NB210_216.out _; (with_reducible repeat (first | apply bq | apply bd | apply ba)); refine blk_far ?_ NB210_216.out _; (with_reducible repeat (first | apply bq | apply bd | apply ba)); exact BK210.out⟩, ⟨by (with_reducible repeat (first | apply bq | apply bd | apply ba)); refine blk_far ?_ NB211_216.out _; (with_reducible repeat (first | apply bq | apply bd | apply ba)); refine blk_far ?_ NB211_216.out _; (with_reducible repeat (first | apply bq | apply bd | apply ba)); exact BK211.out⟩, ⟨by (with_reducible repeat (first | apply bq | apply bd | apply ba)); refine blk_far ?_ NB214_216.out _; (with_reducible repeat (first | apply bq | apply bd | apply ba)); refine blk_far ?_ NB214_216.out _; (with_reducible repeat (first | apply bq | apply bd | apply ba)); exact BK214.out⟩, ⟨by (with_reducible repeat (first | apply bq | apply bd | apply ba)); refine blk_put (cs := #[.int .i64 (wrap64 (a2_0 + 1)), .int .i64 0]) ?_ 1 _ rfl; (with_reducible repeat (first | apply bq | apply bd | apply ba)); refine blk_put (cs := #[.int .i64 0, .int .i64 0]) ?_ 0 _ rfl; (with_reducible repeat (first | apply bq | apply bd | apply ba)); exact BK216.out⟩, ⟨by repeat (first | (with_reducible first | exact HB.out | apply below_alloc | apply pw_below_drewN | apply below_drew1 | refine below_set ?_ GE209.out | refine below_set ?_ GE210.out | refine below_set ?_ GE211.out | refine below_set ?_ GE214.out | refine below_set ?_ GE216.out) | exact HB.out)⟩⟩
       case rest => as_aux_lemma =>
        clear HC59; (try clear c1); (try clear c2); (try clear p2); (try clear q2); (try clear hx2); (try clear c3); (try clear c4); (try clear c5); (try clear c5b0); (try clear c5b1); (try clear c6); (try clear p6); (try clear c7); (try clear c8); (try clear p8); (try clear q8); (try clear hx8); (try clear qi8); (try clear c11); (try clear c11b0); (try clear c12); (try clear c13); (try clear c14); (try clear c15); (try clear c15b0); (try clear c16); (try clear c17); (try clear c19); (try clear c19b0); (try clear c20); (try clear c20b0); (try clear c21); (try clear p21); (try clear q21); (try clear hx21); (try clear c22); (try clear c25); (try clear c25b0); (try clear c26); (try clear c26b0); (try clear c27); (try clear c28); (try clear c30); (try clear c31); (try clear c33); (try clear c34); (try clear c35); (try clear c37); (try clear c39); (try clear c39b0); (try clear c41); (try clear c42); (try clear c43); (try clear c45); (try clear c46); (try clear c57); (try clear c57b0); (try clear c58); (try clear c58b0); (try clear c61); (try clear c62); (try clear c63); (try clear p64); (try clear c65); (try clear c66); (try clear c69); (try clear c70); (try clear c71); (try clear c72); (try clear c75); (try clear c75b0); (try clear c75b1); (try clear c77); (try clear c77b0); (try clear c77b1); (try clear c78); (try clear c78b0); (try clear c78b1); (try clear c79); (try clear c79b0); (try clear c79b1); (try clear p80); (try clear q80); (try clear hx80); (try clear qi80); (try clear c81); (try clear c89); (try clear c89b0); (try clear c89b1); (try clear hcz14_0); (try clear hcz14_1); (try clear hcz18_0); (try clear hcz18_1); (try clear hcz23_0); (try clear hcz23_1); (try clear hcz29_0); (try clear hcz29_1); (try clear hcz32_0); (try clear hcz32_1); (try clear hcz36_0); (try clear hcz36_1); (try clear hcz36_2); (try clear hcz36_3); (try clear hcz38_0); (try clear hcz38_1); (try clear hcz44_0); (try clear hcz44_1); (try clear hcz44_2); (try clear hcz44_3); (try clear hcz47_0); (try clear hcz47_1); (try clear hcz64_0); (try clear hcz64_1); (try clear hcz64_2); (try clear hcz64_3); (try clear hcz67_0); (try clear hcz67_1); (try clear hcz73_0); (try clear hcz73_1); (try clear hcz74_0); (try clear hcz74_1); (try clear hfz14_0); (try clear hfz14_1); (try clear hfz18_0); (try clear hfz18_1); (try clear hfz23_0); (try clear hfz23_1); (try clear hfz29_0); (try clear hfz29_1); (try clear hfz32_0); (try clear hfz32_1); (try clear hfz36_0); (try clear hfz36_1); (try clear hfz36_2); (try clear hfz36_3); (try clear hfz38_0); (try clear hfz38_1); (try clear hfz44_0); (try clear hfz44_1); (try clear hfz44_2); (try clear hfz44_3); (try clear hfz47_0); (try clear hfz47_1); (try clear hfz64_0); (try clear hfz64_1); (try clear hfz64_2); (try clear hfz64_3); (try clear hfz67_0); (try clear hfz67_1); (try clear hfz73_0); (try clear hfz73_1); (try clear hfz74_0); (try clear hfz74_1); (try clear hx213_0); (try clear hx215_0); (try clear p2); (try clear p21); (try clear p213); (try clear p215); (try clear p6); (try clear p64); (try clear p8); (try clear p80); (try clear q2); (try clear q21); (try clear q213); (try clear q215); (try clear q8); (try clear q80)
        obtain ⟨kq, x13_58, x211000_58, x211001_58, x211002_58, x211003_58, x212000_58, x212001_58, rfl, HA, HJ58, BK209, BK210, BK211, BK214, BK216, HB⟩ := hcut
        cases kq with
        | zero => exact absurd HA.out (by simp [jobshellref16_Next.j2])
        | succ kj58 =>
         have H := HA.out; clear HA
         simp only [jobshellref16_Next.j2] at H
         have HC97 := Aside0.mk H
         clear H
         iterate 6 (try (go_upto_region 18 with (fail)); try go_quiet (fail))
         go_cut [14] (fun v14 wc => ∃ (kq : Nat) (x14_96 : Bool), v14 = .bool x14_96 ∧ Aside0 (jobshellref16_Next.j3 kq a0 l1 (rdOf ByteArray.empty l1 (ji56)) x13_58 x14_96 a2_0 a2_1 (wrap64 (a2_0 + 1)) 0 = some (r1, r2, r3, r4, r5, r6, r7)) ∧ Aside0 (kq ≤ kj58) ∧ Aside0 (wc.heap[gb209]? = some (.cells #[.int .i64 a2_0, .int .i64 a2_1] 29 (0, 0))) ∧ Aside0 (wc.heap[gb210]? = some (.cells #[.string x211000_58, .string x211001_58, .int .i64 x211002_58, .string x211003_58] 32 (0, 0))) ∧ Aside0 (wc.heap[gb211]? = some (.cells #[.int .i64 x212000_58, .int .i64 x212001_58] 29 (0, 0))) ∧ Aside0 (wc.heap[gb214]? = some (.cells #[.string (⟨#[63]⟩ : ByteArray), .string (⟨#[]⟩ : ByteArray), .int .i64 1, .string (⟨#[]⟩ : ByteArray)] 32 (0, 0))) ∧ Aside0 (wc.heap[gb216]? = some (.cells #[.int .i64 (wrap64 (a2_0 + 1)), .int .i64 0] 29 (0, 0))) ∧ Aside0 (Below w.heap.size w wc))
         case first => as_aux_lemma =>
          have H := HC97.out; clear HC97
          by_cases c98 : (a0.size : Int) > 0
          ·rw [if_pos c98] at H
           have c98b0 : decide (0 < (a0.size : Int)) = true := decide_eq_true c98
           have c98b1 : decide (0 < a0.size) = true := decide_eq_true (by omega)
           clear c98
           (first | rw [c98b0] | (simp only [i64_w, i32_w]; rw [c98b0]) | skip)
           by_cases c99 : 0 < (a0.size : Int)
           ·rw [if_pos c99] at H
            have c99b0 : decide (0 < (a0.size : Int)) = true := decide_eq_true c99
            have c99b1 : decide (0 < a0.size) = true := decide_eq_true (by omega)
            clear c99
            have H' := Aside0.mk H
            clear H
            have p100 : 0 ≤ (0 : Int) := (by omega)
            have q100 : 0 < a0.size := (by have : (0 : Int) < (a0.size : Int) := of_decide_eq_true (by first | (with_reducible assumption) | assumption); omega)
            have hx100 : ∀ h : 0 < a0.size, ((a0[0]'h).toNat : Int) = bt a0 0 := bt_at a0 0
            clear p100
            have qi100 : (0 < (a0.size : Int)) = True := eq_true (of_decide_eq_true (by first | (with_reducible assumption) | assumption))
            replace q100 := eq_true q100
            iterate 6 (try go_wp2; try go_quiet (fail))
            go_meet
            case rel => exact ⟨_, (((bt a0 0) == 58)), (by first | rfl | (simp; done) | (simp [*]; done)), H', ⟨by have := HJ5.out; have := HJ58.out; first | omega | exact Nat.le_refl _⟩, ⟨by (with_reducible repeat (first | apply bq | apply bd | apply ba)); exact BK209.out⟩, ⟨by (with_reducible repeat (first | apply bq | apply bd | apply ba)); exact BK210.out⟩, ⟨by (with_reducible repeat (first | apply bq | apply bd | apply ba)); exact BK211.out⟩, ⟨by (with_reducible repeat (first | apply bq | apply bd | apply ba)); exact BK214.out⟩, ⟨by (with_reducible repeat (first | apply bq | apply bd | apply ba)); exact BK216.out⟩, ⟨by repeat (first | (with_reducible first | exact HB.out | apply below_alloc | apply pw_below_drewN | apply below_drew1 | refine below_set ?_ GE209.out | refine below_set ?_ GE210.out | refine below_set ?_ GE211.out | refine below_set ?_ GE214.out | refine below_set ?_ GE216.out) | exact HB.out)⟩⟩
           rw [if_neg c99] at H
           exact absurd H (by simp)
          rw [if_neg c98] at H
          have c98b0 : decide (0 < (a0.size : Int)) = false := decide_eq_false c98
          have c98b1 : decide (0 < a0.size) = false := decide_eq_false (by omega)
          clear c98
          (first | rw [c98b0] | (simp only [i64_w, i32_w]; rw [c98b0]) | skip)
          have H' := Aside0.mk H
          clear H
          iterate 6 (try go_wp2; try go_quiet (fail))
          go_meet
          case rel => exact ⟨_, (false), (by first | rfl | (simp; done) | (simp [*]; done)), H', ⟨by have := HJ5.out; have := HJ58.out; first | omega | exact Nat.le_refl _⟩, ⟨by (with_reducible repeat (first | apply bq | apply bd | apply ba)); exact BK209.out⟩, ⟨by (with_reducible repeat (first | apply bq | apply bd | apply ba)); exact BK210.out⟩, ⟨by (with_reducible repeat (first | apply bq | apply bd | apply ba)); exact BK211.out⟩, ⟨by (with_reducible repeat (first | apply bq | apply bd | apply ba)); exact BK214.out⟩, ⟨by (with_reducible repeat (first | apply bq | apply bd | apply ba)); exact BK216.out⟩, ⟨by repeat (first | (with_reducible first | exact HB.out | apply below_alloc | apply pw_below_drewN | apply below_drew1 | refine below_set ?_ GE209.out | refine below_set ?_ GE210.out | refine below_set ?_ GE211.out | refine below_set ?_ GE214.out | refine below_set ?_ GE216.out) | exact HB.out)⟩⟩
         case rest => as_aux_lemma =>
          clear HC97; (try clear c1); (try clear p1); (try clear q1); (try clear hx1); (try clear qi1); (try clear c2); (try clear p2); (try clear q2); (try clear hx2); (try clear c3); (try clear c4); (try clear c5); (try clear c5b0); (try clear c5b1); (try clear c6); (try clear p6); (try clear c7); (try clear c8); (try clear p8); (try clear q8); (try clear hx8); (try clear qi8); (try clear c9); (try clear p10); (try clear q10); (try clear hx10); (try clear qi10); (try clear c11); (try clear c11b0); (try clear c12); (try clear c13); (try clear c14); (try clear c15); (try clear c15b0); (try clear c16); (try clear c17); (try clear c19); (try clear c19b0); (try clear c20); (try clear c20b0); (try clear c21); (try clear p21); (try clear q21); (try clear hx21); (try clear c22); (try clear c25); (try clear c25b0); (try clear c26); (try clear c26b0); (try clear c27); (try clear c28); (try clear c30); (try clear c31); (try clear c33); (try clear c34); (try clear c35); (try clear c37); (try clear c39); (try clear c39b0); (try clear c41); (try clear c42); (try clear c43); (try clear c45); (try clear c46); (try clear c57); (try clear c57b0); (try clear c58); (try clear c58b0); (try clear c61); (try clear c62); (try clear c63); (try clear p64); (try clear c65); (try clear c66); (try clear c69); (try clear c70); (try clear c71); (try clear c72); (try clear c75); (try clear c75b0); (try clear c75b1); (try clear c77); (try clear c77b0); (try clear c77b1); (try clear c78); (try clear c78b0); (try clear c78b1); (try clear c79); (try clear c79b0); (try clear c79b1); (try clear p80); (try clear q80); (try clear hx80); (try clear qi80); (try clear c81); (try clear c89); (try clear c89b0); (try clear c89b1); (try clear c98); (try clear c98b0); (try clear c98b1); (try clear c99); (try clear c99b0); (try clear c99b1); (try clear p100); (try clear q100); (try clear hx100); (try clear qi100); (try clear hcz14_0); (try clear hcz14_1); (try clear hcz18_0); (try clear hcz18_1); (try clear hcz23_0); (try clear hcz23_1); (try clear hcz29_0); (try clear hcz29_1); (try clear hcz32_0); (try clear hcz32_1); (try clear hcz36_0); (try clear hcz36_1); (try clear hcz36_2); (try clear hcz36_3); (try clear hcz38_0); (try clear hcz38_1); (try clear hcz44_0); (try clear hcz44_1); (try clear hcz44_2); (try clear hcz44_3); (try clear hcz47_0); (try clear hcz47_1); (try clear hcz64_0); (try clear hcz64_1); (try clear hcz64_2); (try clear hcz64_3); (try clear hcz67_0); (try clear hcz67_1); (try clear hcz73_0); (try clear hcz73_1); (try clear hcz74_0); (try clear hcz74_1); (try clear hfz14_0); (try clear hfz14_1); (try clear hfz18_0); (try clear hfz18_1); (try clear hfz23_0); (try clear hfz23_1); (try clear hfz29_0); (try clear hfz29_1); (try clear hfz32_0); (try clear hfz32_1); (try clear hfz36_0); (try clear hfz36_1); (try clear hfz36_2); (try clear hfz36_3); (try clear hfz38_0); (try clear hfz38_1); (try clear hfz44_0); (try clear hfz44_1); (try clear hfz44_2); (try clear hfz44_3); (try clear hfz47_0); (try clear hfz47_1); (try clear hfz64_0); (try clear hfz64_1); (try clear hfz64_2); (try clear hfz64_3); (try clear hfz67_0); (try clear hfz67_1); (try clear hfz73_0); (try clear hfz73_1); (try clear hfz74_0); (try clear hfz74_1); (try clear hx213_0); (try clear hx215_0); (try clear p100); (try clear p2); (try clear p21); (try clear p213); (try clear p215); (try clear p6); (try clear p64); (try clear p8); (try clear p80); (try clear q100); (try clear q2); (try clear q21); (try clear q213); (try clear q215); (try clear q8); (try clear q80)
          obtain ⟨kq, x14_96, rfl, HA, HJ96, BK209, BK210, BK211, BK214, BK216, HB⟩ := hcut
          cases kq with
          | zero => exact absurd HA.out (by simp [jobshellref16_Next.j3])
          | succ kj96 =>
           have H := HA.out; clear HA
           simp only [jobshellref16_Next.j3] at H
           by_cases c101 : 0 ≤ x13_58
           ·rw [if_pos c101] at H
            have c101b0 : decide (0 ≤ x13_58) = true := decide_eq_true c101
            clear c101
            by_cases c102 : x13_58 < ((rdOf ByteArray.empty l1 (ji56)).size : Int)
            ·rw [if_pos c102] at H
             have c102b0 : decide (x13_58 < ((rdOf ByteArray.empty l1 (ji56)).size : Int)) = true := decide_eq_true c102
             clear c102
             replace H := Option.bind_eq_some_iff.mp H
             obtain ⟨⟨t217, t218⟩, A1040, H⟩ := H
             replace H : (if x13_58 ≤ (wrap64 (x13_58 + 1)) then (if (wrap64 (x13_58 + 1)) ≤ ((rdOf ByteArray.empty l1 (ji56)).size : Int) then (if t217 = true then (jobshellref16_Next.j4 kj96 l1 (rdOf ByteArray.empty l1 (ji56)) x13_58 x14_96 t217 ((rdOf ByteArray.empty l1 (ji56)).extract (x13_58 : Int).toNat ((wrap64 (x13_58 + 1)) : Int).toNat) t218 a2_0 a2_1 (wrap64 (a2_0 + 1)) 0) else (jobshellref16_Next.j4 kj96 l1 (rdOf ByteArray.empty l1 (ji56)) x13_58 x14_96 t217 ((rdOf ByteArray.empty l1 (ji56)).extract (x13_58 : Int).toNat ((wrap64 (x13_58 + 1)) : Int).toNat) false a2_0 a2_1 (wrap64 (a2_0 + 1)) 0)) else (none)) else (none)) = some (r1, r2, r3, r4, r5, r6, r7) := H
             have A104 := Aside0.mk A1040
             clear A1040
             have c105b0 := eq_true (of_decide_eq_true (by first | (with_reducible assumption) | assumption) : 0 ≤ x13_58)
             by_cases c106 : x13_58 ≤ (wrap64 (x13_58 + 1))
             ·rw [if_pos c106] at H
              have c106b0 := eq_true c106
              have c106b1 : decide (x13_58 ≤ (wrap64 (x13_58 + 1))) = true := decide_eq_true c106
              by_cases c107 : (wrap64 (x13_58 + 1)) ≤ ((rdOf ByteArray.empty l1 (ji56)).size : Int)
              ·rw [if_pos c107] at H
               have c107b0 := eq_true c107
               have c107b1 : decide ((wrap64 (x13_58 + 1)) ≤ ((rdOf ByteArray.empty l1 (ji56)).size : Int)) = true := decide_eq_true c107
               have HC108 := Aside0.mk H
               clear H
               have p103 : 0 ≤ (x13_58 : Int) := of_decide_eq_true (by first | (with_reducible assumption) | assumption)
               have q103 : x13_58 < ((rdOf ByteArray.empty l1 (ji56)).size : Int) := of_decide_eq_true (by first | (with_reducible assumption) | assumption)
               have hx103 := bt_at (rdOf ByteArray.empty l1 (ji56)) x13_58
               replace p103 := eq_true p103
               replace q103 := eq_true q103
               iterate 6 (try (go_upto_region 21 with (first | ((with_reducible refine gate_callee (f := 24) rfl ?_); refine goesL_ (some 111) rfl rfl Try.func24 (by kernel_rfl) rfl #[.string a0, .int .u8 (bt (rdOf ByteArray.empty l1 (ji56)) x13_58)] rfl (by (try simp only [List.map_toArray, List.map_cons, List.map_nil]); first | done | (simp only [hji56]; rfl) | rfl | (simp only [List.length_drop, List.length_take]; rfl)) ?_; (with_reducible refine (jobshellref16_find.calls kj96 a0 (bt (rdOf ByteArray.empty l1 (ji56)) x13_58) t217 t218 _ A104.out).mono ?_); rintro e w109 ⟨rfl, hb⟩; refine ⟨_, rfl, ?_⟩; have n0_ := Aside0.mk (blk_below (g := gb209) (o := .cells #[.int .i64 a2_0, .int .i64 a2_1] 29 (0, 0)) (by (with_reducible repeat (first | apply bq | apply bd | apply ba)); exact BK209.out) hb); have n1_ := Aside0.mk (blk_below (g := gb210) (o := .cells #[.string x211000_58, .string x211001_58, .int .i64 x211002_58, .string x211003_58] 32 (0, 0)) (by (with_reducible repeat (first | apply bq | apply bd | apply ba)); exact BK210.out) hb); have n2_ := Aside0.mk (blk_below (g := gb211) (o := .cells #[.int .i64 x212000_58, .int .i64 x212001_58] 29 (0, 0)) (by (with_reducible repeat (first | apply bq | apply bd | apply ba)); exact BK211.out) hb); have n3_ := Aside0.mk (blk_below (g := gb214) (o := .cells #[.string (⟨#[63]⟩ : ByteArray), .string (⟨#[]⟩ : ByteArray), .int .i64 1, .string (⟨#[]⟩ : ByteArray)] 32 (0, 0)) (by (with_reducible repeat (first | apply bq | apply bd | apply ba)); exact BK214.out) hb); have n4_ := Aside0.mk (blk_below (g := gb216) (o := .cells #[.int .i64 (wrap64 (a2_0 + 1)), .int .i64 0] 29 (0, 0)) (by (with_reducible repeat (first | apply bq | apply bd | apply ba)); exact BK216.out) hb); have n5_ := Aside0.mk (below_step (by repeat (first | (with_reducible first | exact HB.out | apply below_alloc | apply pw_below_drewN | apply below_drew1 | refine below_set ?_ GE209.out | refine below_set ?_ GE210.out | refine below_set ?_ GE211.out | refine below_set ?_ GE214.out | refine below_set ?_ GE216.out) | exact HB.out)) hb); clear BK209; clear BK210; clear BK211; clear BK214; clear BK216; clear HB; have BK209 := n0_; have BK210 := n1_; have BK211 := n2_; have BK214 := n3_; have BK216 := n4_; have HB := n5_; clear n0_ n1_ n2_ n3_ n4_ n5_; (try clear hb); (try clear hb2); (try clear hk); (try clear hi)))); try go_quiet (fail))
               (try simp only [Act.put, sb_, sz_, ss_])
               go_cut [122] (fun v122 wc => ∃ (kq : Nat) (x122_107 : Bool), v122 = .bool x122_107 ∧ Aside0 (jobshellref16_Next.j4 kq l1 (rdOf ByteArray.empty l1 (ji56)) x13_58 x14_96 t217 ((rdOf ByteArray.empty l1 (ji56)).extract (x13_58 : Int).toNat ((wrap64 (x13_58 + 1)) : Int).toNat) x122_107 a2_0 a2_1 (wrap64 (a2_0 + 1)) 0 = some (r1, r2, r3, r4, r5, r6, r7)) ∧ Aside0 (kq ≤ kj96) ∧ Aside0 (wc.heap[gb209]? = some (.cells #[.int .i64 a2_0, .int .i64 a2_1] 29 (0, 0))) ∧ Aside0 (wc.heap[gb210]? = some (.cells #[.string x211000_58, .string x211001_58, .int .i64 x211002_58, .string x211003_58] 32 (0, 0))) ∧ Aside0 (wc.heap[gb211]? = some (.cells #[.int .i64 x212000_58, .int .i64 x212001_58] 29 (0, 0))) ∧ Aside0 (wc.heap[gb214]? = some (.cells #[.string (⟨#[63]⟩ : ByteArray), .string (⟨#[]⟩ : ByteArray), .int .i64 1, .string (⟨#[]⟩ : ByteArray)] 32 (0, 0))) ∧ Aside0 (wc.heap[gb216]? = some (.cells #[.int .i64 (wrap64 (a2_0 + 1)), .int .i64 0] 29 (0, 0))) ∧ Aside0 (Below w.heap.size w wc))
               case first => as_aux_lemma =>
                have H := HC108.out; clear HC108
                by_cases c110 : t217 = true
                ·subst c110
                 have H1 : (jobshellref16_Next.j4 kj96 l1 (rdOf ByteArray.empty l1 (ji56)) x13_58 x14_96 true ((rdOf ByteArray.empty l1 (ji56)).extract (x13_58 : Int).toNat ((wrap64 (x13_58 + 1)) : Int).toNat) t218 a2_0 a2_1 (wrap64 (a2_0 + 1)) 0) = some (r1, r2, r3, r4, r5, r6, r7) := by rw [if_pos rfl] at H; exact H
                 clear H; have H := H1; clear H1
                 have H' := Aside0.mk H
                 clear H
                 iterate 6 (try go_wp2; try go_quiet (fail))
                 go_meet
                 case rel => exact ⟨_, (t218), (by first | rfl | (simp; done) | (simp [*]; done)), H', ⟨by have := HJ5.out; have := HJ58.out; have := HJ96.out; first | omega | exact Nat.le_refl _⟩, ⟨by (with_reducible repeat (first | apply bq | apply bd | apply ba)); exact BK209.out⟩, ⟨by (with_reducible repeat (first | apply bq | apply bd | apply ba)); exact BK210.out⟩, ⟨by (with_reducible repeat (first | apply bq | apply bd | apply ba)); exact BK211.out⟩, ⟨by (with_reducible repeat (first | apply bq | apply bd | apply ba)); exact BK214.out⟩, ⟨by (with_reducible repeat (first | apply bq | apply bd | apply ba)); exact BK216.out⟩, ⟨by repeat (first | (with_reducible first | exact HB.out | apply below_alloc | apply pw_below_drewN | apply below_drew1 | refine below_set ?_ GE209.out | refine below_set ?_ GE210.out | refine below_set ?_ GE211.out | refine below_set ?_ GE214.out | refine below_set ?_ GE216.out) | exact HB.out)⟩⟩
                ·replace c110 := Bool.eq_false_iff.mpr c110
                 subst c110
                 have H1 : (jobshellref16_Next.j4 kj96 l1 (rdOf ByteArray.empty l1 (ji56)) x13_58 x14_96 false ((rdOf ByteArray.empty l1 (ji56)).extract (x13_58 : Int).toNat ((wrap64 (x13_58 + 1)) : Int).toNat) false a2_0 a2_1 (wrap64 (a2_0 + 1)) 0) = some (r1, r2, r3, r4, r5, r6, r7) := by rw [if_neg (show ¬ (false = true) by decide)] at H; exact H
                 clear H; have H := H1; clear H1
                 have H' := Aside0.mk H
                 clear H
                 iterate 6 (try go_wp2; try go_quiet (fail))
                 go_meet
                 case rel => exact ⟨_, (false), (by first | rfl | (simp; done) | (simp [*]; done)), H', ⟨by have := HJ5.out; have := HJ58.out; have := HJ96.out; first | omega | exact Nat.le_refl _⟩, ⟨by (with_reducible repeat (first | apply bq | apply bd | apply ba)); exact BK209.out⟩, ⟨by (with_reducible repeat (first | apply bq | apply bd | apply ba)); exact BK210.out⟩, ⟨by (with_reducible repeat (first | apply bq | apply bd | apply ba)); exact BK211.out⟩, ⟨by (with_reducible repeat (first | apply bq | apply bd | apply ba)); exact BK214.out⟩, ⟨by (with_reducible repeat (first | apply bq | apply bd | apply ba)); exact BK216.out⟩, ⟨by repeat (first | (with_reducible first | exact HB.out | apply below_alloc | apply pw_below_drewN | apply below_drew1 | refine below_set ?_ GE209.out | refine below_set ?_ GE210.out | refine below_set ?_ GE211.out | refine below_set ?_ GE214.out | refine below_set ?_ GE216.out) | exact HB.out)⟩⟩
               case rest => as_aux_lemma =>
                clear HC108; (try clear c1); (try clear p1); (try clear q1); (try clear hx1); (try clear qi1); (try clear c2); (try clear p2); (try clear q2); (try clear hx2); (try clear c3); (try clear c4); (try clear c5); (try clear c5b0); (try clear c5b1); (try clear c6); (try clear p6); (try clear c7); (try clear c8); (try clear p8); (try clear q8); (try clear hx8); (try clear qi8); (try clear c9); (try clear c10); (try clear p10); (try clear q10); (try clear hx10); (try clear qi10); (try clear c11); (try clear c11b0); (try clear c12); (try clear c13); (try clear c14); (try clear c15); (try clear c15b0); (try clear c16); (try clear c17); (try clear c19); (try clear c19b0); (try clear c20); (try clear c20b0); (try clear c21); (try clear p21); (try clear q21); (try clear hx21); (try clear c22); (try clear c24); (try clear c25); (try clear c25b0); (try clear c26); (try clear c26b0); (try clear c27); (try clear c28); (try clear c30); (try clear c31); (try clear c33); (try clear c34); (try clear c35); (try clear c37); (try clear c39); (try clear c39b0); (try clear c41); (try clear c42); (try clear c43); (try clear c45); (try clear c46); (try clear c57); (try clear c57b0); (try clear c58); (try clear c58b0); (try clear c61); (try clear c62); (try clear c63); (try clear p64); (try clear c65); (try clear c66); (try clear c69); (try clear c70); (try clear c71); (try clear c72); (try clear c75); (try clear c75b0); (try clear c75b1); (try clear c77); (try clear c77b0); (try clear c77b1); (try clear c78); (try clear c78b0); (try clear c78b1); (try clear c79); (try clear c79b0); (try clear c79b1); (try clear p80); (try clear q80); (try clear hx80); (try clear qi80); (try clear c81); (try clear c89); (try clear c89b0); (try clear c89b1); (try clear c98); (try clear c98b0); (try clear c98b1); (try clear c99); (try clear c99b0); (try clear c99b1); (try clear p100); (try clear q100); (try clear hx100); (try clear qi100); (try clear c101); (try clear c101b0); (try clear c102); (try clear c102b0); (try clear p103); (try clear q103); (try clear hx103); (try clear c105); (try clear c105b0); (try clear c106); (try clear c106b0); (try clear c106b1); (try clear c107); (try clear c107b0); (try clear c107b1); (try clear c110); (try clear hcz14_0); (try clear hcz14_1); (try clear hcz18_0); (try clear hcz18_1); (try clear hcz23_0); (try clear hcz23_1); (try clear hcz29_0); (try clear hcz29_1); (try clear hcz32_0); (try clear hcz32_1); (try clear hcz36_0); (try clear hcz36_1); (try clear hcz36_2); (try clear hcz36_3); (try clear hcz38_0); (try clear hcz38_1); (try clear hcz44_0); (try clear hcz44_1); (try clear hcz44_2); (try clear hcz44_3); (try clear hcz47_0); (try clear hcz47_1); (try clear hcz64_0); (try clear hcz64_1); (try clear hcz64_2); (try clear hcz64_3); (try clear hcz67_0); (try clear hcz67_1); (try clear hcz73_0); (try clear hcz73_1); (try clear hcz74_0); (try clear hcz74_1); (try clear hfz14_0); (try clear hfz14_1); (try clear hfz18_0); (try clear hfz18_1); (try clear hfz23_0); (try clear hfz23_1); (try clear hfz29_0); (try clear hfz29_1); (try clear hfz32_0); (try clear hfz32_1); (try clear hfz36_0); (try clear hfz36_1); (try clear hfz36_2); (try clear hfz36_3); (try clear hfz38_0); (try clear hfz38_1); (try clear hfz44_0); (try clear hfz44_1); (try clear hfz44_2); (try clear hfz44_3); (try clear hfz47_0); (try clear hfz47_1); (try clear hfz64_0); (try clear hfz64_1); (try clear hfz64_2); (try clear hfz64_3); (try clear hfz67_0); (try clear hfz67_1); (try clear hfz73_0); (try clear hfz73_1); (try clear hfz74_0); (try clear hfz74_1); (try clear hx213_0); (try clear hx215_0); (try clear p1); (try clear p10); (try clear p100); (try clear p103); (try clear p2); (try clear p21); (try clear p213); (try clear p215); (try clear p6); (try clear p64); (try clear p8); (try clear p80); (try clear q1); (try clear q10); (try clear q100); (try clear q103); (try clear q2); (try clear q21); (try clear q213); (try clear q215); (try clear q8); (try clear q80)
                obtain ⟨kq, x122_107, rfl, HA, HJ107, BK209, BK210, BK211, BK214, BK216, HB⟩ := hcut
                cases kq with
                | zero => exact absurd HA.out (by simp [jobshellref16_Next.j4])
                | succ kj107 =>
                 have H := HA.out; clear HA
                 simp only [jobshellref16_Next.j4] at H
                 by_cases c111 : x122_107 = true
                 ·subst c111
                  have H1 : (if (wrap64 (x13_58 + 1)) < ((rdOf ByteArray.empty l1 (ji56)).size : Int) then (if 0 ≤ (wrap64 (x13_58 + 1)) then (if (wrap64 (x13_58 + 1)) ≤ ((rdOf ByteArray.empty l1 (ji56)).size : Int) then (some (((rdOf ByteArray.empty l1 (ji56)).extract (x13_58 : Int).toNat ((wrap64 (x13_58 + 1)) : Int).toNat), (rdOf ByteArray.empty l1 (ji56)).extract ((wrap64 (x13_58 + 1)) : Int).toNat (rdOf ByteArray.empty l1 (ji56)).size, 0, (⟨#[]⟩ : ByteArray), (wrap64 (a2_0 + 1)), 0, 0)) else (none)) else (none)) else (if a2_0 < (l1.length : Int) then (if 0 ≤ a2_0 then (some (((rdOf ByteArray.empty l1 (ji56)).extract (x13_58 : Int).toNat ((wrap64 (x13_58 + 1)) : Int).toNat), rdOf ByteArray.empty l1 a2_0, 0, (⟨#[]⟩ : ByteArray), wrap64 (a2_0 + 2), 0, 0)) else (none)) else (if x14_96 = true then (some ((⟨#[58]⟩ : ByteArray), ((rdOf ByteArray.empty l1 (ji56)).extract (x13_58 : Int).toNat ((wrap64 (x13_58 + 1)) : Int).toNat), 2, (⟨#[]⟩ : ByteArray), (wrap64 (a2_0 + 1)), 0, 0)) else (if 31 + ((rdOf ByteArray.empty l1 (ji56)).extract (x13_58 : Int).toNat ((wrap64 (x13_58 + 1)) : Int).toNat).size ≤ 9223372036854775807 then (some ((⟨#[63]⟩ : ByteArray), (⟨#[]⟩ : ByteArray), 2, (⟨#[111,112,116,105,111,110,32,114,101,113,117,105,114,101,115,32,97,110,32,97,114,103,117,109,101,110,116,32,45,45,32]⟩ : ByteArray) ++ ((rdOf ByteArray.empty l1 (ji56)).extract (x13_58 : Int).toNat ((wrap64 (x13_58 + 1)) : Int).toNat), (wrap64 (a2_0 + 1)), 0, 0)) else (none))))) = some (r1, r2, r3, r4, r5, r6, r7) := by rw [if_pos rfl] at H; exact H
                  clear H; have H := H1; clear H1
                  by_cases c112 : (wrap64 (x13_58 + 1)) < ((rdOf ByteArray.empty l1 (ji56)).size : Int)
                  ·rw [if_pos c112] at H
                   have c112b0 : decide ((wrap64 (x13_58 + 1)) < ((rdOf ByteArray.empty l1 (ji56)).size : Int)) = true := decide_eq_true c112
                   clear c112
                   obtain ⟨ji113, hji113⟩ : ∃ j_ : Int, (wrap64 (x13_58 + 1)) = j_ := ⟨_, rfl⟩
                   replace H : (if 0 ≤ (ji113) then (if (ji113) ≤ ((rdOf ByteArray.empty l1 (ji56)).size : Int) then (some (((rdOf ByteArray.empty l1 (ji56)).extract (x13_58 : Int).toNat ((ji113) : Int).toNat), (rdOf ByteArray.empty l1 (ji56)).extract ((ji113) : Int).toNat (rdOf ByteArray.empty l1 (ji56)).size, 0, (⟨#[]⟩ : ByteArray), (wrap64 (a2_0 + 1)), 0, 0)) else (none)) else (none)) = some (r1, r2, r3, r4, r5, r6, r7) := by first | (rw [hji113] at H; exact H) | (simp only [hji113] at H ⊢; exact H)
                   (try rw [hji113] at c106b0)
                   (try rw [hji113] at c106b1)
                   (try rw [hji113] at c106)
                   (try rw [hji113] at c107b0)
                   (try rw [hji113] at c107b1)
                   (try rw [hji113] at c107)
                   (try rw [hji113] at c112b0)
                   have hji113w : (IntKind.i64.wrap (x13_58 + 1)) = ji113 := (i64_w _).trans hji113
                   by_cases c114 : 0 ≤ (ji113)
                   ·rw [if_pos c114] at H
                    have c114b0 := eq_true c114
                    have c114b1 : decide (0 ≤ (ji113)) = true := decide_eq_true c114
                    clear c114
                    by_cases c115 : (ji113) ≤ ((rdOf ByteArray.empty l1 (ji56)).size : Int)
                    ·rw [if_pos c115] at H
                     have c115b0 := eq_true c115
                     have c115b1 : decide ((ji113) ≤ ((rdOf ByteArray.empty l1 (ji56)).size : Int)) = true := decide_eq_true c115
                     clear c115
                     simp only [Option.some.injEq, Prod.mk.injEq] at H
                     obtain ⟨rfl, rfl, rfl, rfl, rfl, rfl, rfl⟩ := H
                     iterate 6 (try go_wp2; try go_quiet (fail))
                     (try (rw [drewN_self wc]; generalize hq_ : World.drewN wc _ = wc; have n0_ : Aside0 (wc.heap[gb209]? = some (.cells #[.int .i64 a2_0, .int .i64 a2_1] 29 (0, 0))) := ⟨by rw [← hq_]; exact (by (with_reducible repeat (first | apply bq | apply bd | apply ba)); exact BK209.out)⟩; have n1_ : Aside0 (wc.heap[gb210]? = some (.cells #[.string x211000_58, .string x211001_58, .int .i64 x211002_58, .string x211003_58] 32 (0, 0))) := ⟨by rw [← hq_]; exact (by (with_reducible repeat (first | apply bq | apply bd | apply ba)); exact BK210.out)⟩; have n2_ : Aside0 (wc.heap[gb211]? = some (.cells #[.int .i64 x212000_58, .int .i64 x212001_58] 29 (0, 0))) := ⟨by rw [← hq_]; exact (by (with_reducible repeat (first | apply bq | apply bd | apply ba)); exact BK211.out)⟩; have n3_ : Aside0 (wc.heap[gb214]? = some (.cells #[.string (⟨#[63]⟩ : ByteArray), .string (⟨#[]⟩ : ByteArray), .int .i64 1, .string (⟨#[]⟩ : ByteArray)] 32 (0, 0))) := ⟨by rw [← hq_]; exact (by (with_reducible repeat (first | apply bq | apply bd | apply ba)); exact BK214.out)⟩; have n4_ : Aside0 (wc.heap[gb216]? = some (.cells #[.int .i64 (wrap64 (a2_0 + 1)), .int .i64 0] 29 (0, 0))) := ⟨by rw [← hq_]; exact (by (with_reducible repeat (first | apply bq | apply bd | apply ba)); exact BK216.out)⟩; have n5_ : Aside0 (Below w.heap.size w wc) := ⟨by rw [← hq_]; exact (by repeat (first | (with_reducible first | exact HB.out | apply below_alloc | apply pw_below_drewN | apply below_drew1 | refine below_set ?_ GE209.out | refine below_set ?_ GE210.out | refine below_set ?_ GE211.out | refine below_set ?_ GE214.out | refine below_set ?_ GE216.out) | exact HB.out))⟩; clear BK209 BK210 BK211 BK214 BK216 HB hq_; have BK209 := n0_; have BK210 := n1_; have BK211 := n2_; have BK214 := n3_; have BK216 := n4_; have HB := n5_; clear n0_ n1_ n2_ n3_ n4_ n5_))
                     have n0_ := Aside0.mk (blk_drew BK209.out)
                     have n1_ := Aside0.mk (blk_drew BK210.out)
                     have n2_ := Aside0.mk (blk_drew BK211.out)
                     have n3_ := Aside0.mk (blk_drew BK214.out)
                     have n4_ := Aside0.mk (blk_drew BK216.out)
                     have n5_ := Aside0.mk (below_drew1 HB.out)
                     clear BK209; clear BK210; clear BK211; clear BK214; clear BK216; clear HB; have BK209 := n0_; have BK210 := n1_; have BK211 := n2_; have BK214 := n3_; have BK216 := n4_; have HB := n5_; clear n0_ n1_ n2_ n3_ n4_ n5_
                     refine start_ (n := 10) (S := fun w' => w'.cell? ⟨gb216,0,none⟩ = some (.int .i64 (wrap64 (a2_0 + 1))) ∧ w'.cell? ⟨gb216,1,none⟩ = some (.int .i64 0)) (ds := []) #[ff,ff,ff,ff,ff,ff,ff,ff,ff,ff] (by kernel_rfl) rfl rfl ⟨(blk_cell BK216.out 0).trans rfl, (blk_cell BK216.out 1).trans rfl⟩ (fun hHeld => ?_); refine with_tabW jobshellref16_Next.tab23 jobshellref16_Next.bits23 (fun HT_ HW_ => ?_)
                     generalize wc.drew = w116 at BK209 BK210 BK211 BK214 BK216 HB hHeld ⊢
                     refine pure_ (i := 0) (N := some 128) (v := ?_) (a' := ?_) #[tt,ff,ff,ff,ff,ff,ff,ff,ff,ff] rfl rfl (any_of HT_.out (by kernel_rfl)) (fun _ _ _ h => h) (Or.inl ⟨by rfl, ?_⟩) ?_ ?_
                     rotate_left
                     ·intro w'
                      go_simp
                      with_reducible rfl
                     rotate_left
                     ·simp only [Act.put, sb_, sz_, ss_, i64_w, i32_w]
                      rfl
                     refine pure_ (i := 1) (N := some 129) (v := ?_) (a' := ?_) #[tt,tt,ff,ff,ff,ff,ff,ff,ff,ff] rfl rfl (any_of HT_.out (by kernel_rfl)) (fun _ _ _ h => h) (Or.inl ⟨by rfl, ?_⟩) ?_ ?_
                     rotate_left
                     ·intro w'
                      go_simp
                      with_reducible rfl
                     rotate_left
                     ·simp only [Act.put, sb_, sz_, ss_, i64_w, i32_w]
                      rfl
                     refine pure_ (i := 2) (N := some 130) (v := ?_) (a' := ?_) #[tt,tt,tt,ff,ff,ff,ff,ff,ff,ff] rfl rfl (any_of HT_.out (by kernel_rfl)) (fun _ _ _ h => h) (Or.inl ⟨by rfl, ?_⟩) ?_ ?_
                     rotate_left
                     ·intro w'
                      go_simp
                      with_reducible rfl
                     rotate_left
                     ·simp only [Act.put, sb_, sz_, ss_, i64_w, i32_w]
                      rfl
                     refine pure_ (i := 3) (N := some 131) (v := ?_) (a' := ?_) #[tt,tt,tt,tt,ff,ff,ff,ff,ff,ff] rfl rfl (any_of HT_.out (by kernel_rfl)) (fun _ _ _ h => h) (Or.inl ⟨by rfl, ?_⟩) ?_ ?_
                     rotate_left
                     ·intro w'
                      go_simp
                      with_reducible rfl
                     rotate_left
                     ·simp only [Act.put, sb_, sz_, ss_, i64_w, i32_w]
                      rfl
                     refine pure_ (i := 4) (N := some 132) (v := ?_) (a' := ?_) #[tt,tt,tt,tt,tt,ff,ff,ff,ff,ff] rfl rfl (any_of HT_.out (by kernel_rfl)) (fun _ _ _ h => h) (Or.inl ⟨by rfl, ?_⟩) ?_ ?_
                     rotate_left
                     ·intro w'
                      go_simp
                      with_reducible rfl
                     rotate_left
                     ·simp only [Act.put, sb_, sz_, ss_, i64_w, i32_w]
                      rfl
                     refine pure_ (i := 5) (N := some 133) (v := ?_) (a' := ?_) #[tt,tt,tt,tt,tt,tt,ff,ff,ff,ff] rfl rfl (any_of HT_.out (by kernel_rfl)) (fun _ _ _ h => h) (Or.inl ⟨by rfl, ?_⟩) ?_ ?_
                     rotate_left
                     ·intro w'
                      go_simp
                      with_reducible rfl
                     rotate_left
                     ·simp only [Act.put, sb_, sz_, ss_, i64_w, i32_w]
                      rfl
                     refine take_ (i := 6) (N := some 134) (v := ?_) (a' := ?_) #[tt,tt,tt,tt,tt,tt,tt,ff,ff,ff] rfl rfl (take_ofW HT_.out HW_.out (by kernel_rfl)) (fun _ _ _ h => h) (Or.inl ⟨by rfl, ?_⟩) hHeld ?_ ?_
                     rotate_left
                     ·rintro w' ⟨s0, s1⟩
                      go_simp
                      with_reducible rfl
                     rotate_left
                     ·simp only [Act.put, sb_, sz_, ss_, i64_w, i32_w]
                      rfl
                     refine one_ (i := 7) (N := none) #[tt,tt,tt,tt,tt,tt,tt,tt,ff,ff] rfl rfl (one_of HT_.out (by kernel_rfl)) (by decide) (fun K hK => ?_)
                     have hs117 : w116.cell? ⟨gb210,0,none⟩ = some (.string x211000_58) := (blk_cell BK210.out 0).trans rfl
                     have hfs117 := blk_frozen BK210.out 0
                     have hns117_0 := NB209_210.out; have hns117_2 := NB211_210.out; have hns117_3 := NB214_210.out; have hns117_4 := NB216_210.out; have hms117_0 := NB210_209.out; have hms117_2 := NB210_211.out; have hms117_3 := NB210_214.out; have hms117_4 := NB210_216.out
                     have hs118 : w116.cell? ⟨gb210,1,none⟩ = some (.string x211001_58) := (blk_cell BK210.out 1).trans rfl
                     have hfs118 := blk_frozen BK210.out 1
                     have hns118_0 := NB209_210.out; have hns118_2 := NB211_210.out; have hns118_3 := NB214_210.out; have hns118_4 := NB216_210.out; have hms118_0 := NB210_209.out; have hms118_2 := NB210_211.out; have hms118_3 := NB210_214.out; have hms118_4 := NB210_216.out
                     have hs119 : w116.cell? ⟨gb210,2,none⟩ = some (.int .i64 x211002_58) := (blk_cell BK210.out 2).trans rfl
                     have hfs119 := blk_frozen BK210.out 2
                     have hns119_0 := NB209_210.out; have hns119_2 := NB211_210.out; have hns119_3 := NB214_210.out; have hns119_4 := NB216_210.out; have hms119_0 := NB210_209.out; have hms119_2 := NB210_211.out; have hms119_3 := NB210_214.out; have hms119_4 := NB210_216.out
                     have hs120 : w116.cell? ⟨gb210,3,none⟩ = some (.string x211003_58) := (blk_cell BK210.out 3).trans rfl
                     have hfs120 := blk_frozen BK210.out 3
                     have hns120_0 := NB209_210.out; have hns120_2 := NB211_210.out; have hns120_3 := NB214_210.out; have hns120_4 := NB216_210.out; have hms120_0 := NB210_209.out; have hms120_2 := NB210_211.out; have hms120_3 := NB210_214.out; have hms120_4 := NB210_216.out
                     refine skip_ (w1 := (((w116.setCell ⟨gb210,0,none⟩ (.string ((rdOf ByteArray.empty l1 ji56).extract x13_58.toNat ji113.toNat))).setCell ⟨gb210,1,none⟩ (.string ((rdOf ByteArray.empty l1 ji56).extract ji113.toNat (rdOf ByteArray.empty l1 ji56).size))).setCell ⟨gb210,2,none⟩ (.int .i64 0)).setCell ⟨gb210,3,none⟩ (.string ⟨#[]⟩)) (by rfl) rfl ?_ ?_
                     ·as_aux_lemma => go_simp
                     refine hK.out _ _ ⟨((cell_far (p := ⟨gb210,_,none⟩) NB216_210.out _).trans (((cell_far (p := ⟨gb210,_,none⟩) NB216_210.out _).trans (((cell_far (p := ⟨gb210,_,none⟩) NB216_210.out _).trans (((cell_far (p := ⟨gb210,_,none⟩) NB216_210.out _).trans (hHeld.1)))))))), ((cell_far (p := ⟨gb210,_,none⟩) NB216_210.out _).trans (((cell_far (p := ⟨gb210,_,none⟩) NB216_210.out _).trans (((cell_far (p := ⟨gb210,_,none⟩) NB216_210.out _).trans (((cell_far (p := ⟨gb210,_,none⟩) NB216_210.out _).trans (hHeld.2))))))))⟩ (fun hHeld => ?_)
                     clear hK K
                     refine one_ (i := 8) (N := none) #[tt,tt,tt,tt,tt,tt,tt,tt,tt,ff] rfl rfl (one_of HT_.out (by kernel_rfl)) (by decide) (fun K hK => ?_)
                     have hs121 : w116.cell? ⟨gb211,0,none⟩ = some (.int .i64 x212000_58) := (blk_cell BK211.out 0).trans rfl
                     have hfs121 := blk_frozen BK211.out 0
                     have hns121_0 := NB209_211.out; have hns121_1 := NB210_211.out; have hns121_3 := NB214_211.out; have hns121_4 := NB216_211.out; have hms121_0 := NB211_209.out; have hms121_1 := NB211_210.out; have hms121_3 := NB211_214.out; have hms121_4 := NB211_216.out
                     have hs122 : w116.cell? ⟨gb211,1,none⟩ = some (.int .i64 x212001_58) := (blk_cell BK211.out 1).trans rfl
                     have hfs122 := blk_frozen BK211.out 1
                     have hns122_0 := NB209_211.out; have hns122_1 := NB210_211.out; have hns122_3 := NB214_211.out; have hns122_4 := NB216_211.out; have hms122_0 := NB211_209.out; have hms122_1 := NB211_210.out; have hms122_3 := NB211_214.out; have hms122_4 := NB211_216.out
                     refine skip_ (w1 := (((((w116.setCell ⟨gb210,0,none⟩ (.string ((rdOf ByteArray.empty l1 ji56).extract x13_58.toNat ji113.toNat))).setCell ⟨gb210,1,none⟩ (.string ((rdOf ByteArray.empty l1 ji56).extract ji113.toNat (rdOf ByteArray.empty l1 ji56).size))).setCell ⟨gb210,2,none⟩ (.int .i64 0)).setCell ⟨gb210,3,none⟩ (.string ⟨#[]⟩)).setCell ⟨gb211,0,none⟩ (.int .i64 (wrap64 (a2_0 + 1)))).setCell ⟨gb211,1,none⟩ (.int .i64 0)) (by rfl) rfl ?_ ?_
                     ·as_aux_lemma => go_simp
                     refine hK.out _ _ ⟨((cell_far (p := ⟨gb211,_,none⟩) NB216_211.out _).trans (((cell_far (p := ⟨gb211,_,none⟩) NB216_211.out _).trans (hHeld.1)))), ((cell_far (p := ⟨gb211,_,none⟩) NB216_211.out _).trans (((cell_far (p := ⟨gb211,_,none⟩) NB216_211.out _).trans (hHeld.2))))⟩ (fun hHeld => ?_)
                     clear hK K
                     refine pure_ (i := 9) (N := some 8) (v := ?_) (a' := ?_) #[tt,tt,tt,tt,tt,tt,tt,tt,tt,tt] rfl rfl (any_of HT_.out (by kernel_rfl)) (fun _ _ _ h => h) (Or.inl ⟨by rfl, ?_⟩) ?_ ?_
                     rotate_left
                     ·intro w'
                      go_simp
                      with_reducible rfl
                     rotate_left
                     ·simp only [Act.put, sb_, sz_, ss_, i64_w, i32_w]
                      rfl
                     refine done_ (done_of HT_.out (by kernel_rfl)) ?_
                     iterate 6 (try go_wp2; try go_quiet (fail))
                     refine bodyPost_ret (results_list (rs := [.cell 6 32, .cell 7 29, .tmp 8]) rfl (by simp) (.cell gb210 32 #[.string ((rdOf ByteArray.empty l1 (ji56)).extract (x13_58 : Int).toNat ((ji113) : Int).toNat), .string ((rdOf ByteArray.empty l1 (ji56)).extract ((ji113) : Int).toNat (rdOf ByteArray.empty l1 (ji56)).size), .int .i64 0, .string (⟨#[]⟩ : ByteArray)] (0, 0) _ rfl (by (with_reducible repeat (first | apply bq | apply bd | apply ba)); refine blk_far ?_ NB210_211.out _; (with_reducible repeat (first | apply bq | apply bd | apply ba)); refine blk_far ?_ NB210_211.out _; (with_reducible repeat (first | apply bq | apply bd | apply ba)); refine blk_put (cs := #[.string ((rdOf ByteArray.empty l1 (ji56)).extract (x13_58 : Int).toNat ((ji113) : Int).toNat), .string ((rdOf ByteArray.empty l1 (ji56)).extract ((ji113) : Int).toNat (rdOf ByteArray.empty l1 (ji56)).size), .int .i64 0, .string x211003_58]) ?_ 3 _ rfl; (with_reducible repeat (first | apply bq | apply bd | apply ba)); refine blk_put (cs := #[.string ((rdOf ByteArray.empty l1 (ji56)).extract (x13_58 : Int).toNat ((ji113) : Int).toNat), .string ((rdOf ByteArray.empty l1 (ji56)).extract ((ji113) : Int).toNat (rdOf ByteArray.empty l1 (ji56)).size), .int .i64 x211002_58, .string x211003_58]) ?_ 2 _ rfl; (with_reducible repeat (first | apply bq | apply bd | apply ba)); refine blk_put (cs := #[.string ((rdOf ByteArray.empty l1 (ji56)).extract (x13_58 : Int).toNat ((ji113) : Int).toNat), .string x211001_58, .int .i64 x211002_58, .string x211003_58]) ?_ 1 _ rfl; (with_reducible repeat (first | apply bq | apply bd | apply ba)); refine blk_put (cs := #[.string x211000_58, .string x211001_58, .int .i64 x211002_58, .string x211003_58]) ?_ 0 _ rfl; (with_reducible repeat (first | apply bq | apply bd | apply ba)); exact BK210.out) Try.underlying32 rfl (by kernel_rfl) (.cell gb211 29 #[.int .i64 (wrap64 (a2_0 + 1)), .int .i64 0] (0, 0) _ rfl (by (with_reducible repeat (first | apply bq | apply bd | apply ba)); refine blk_put (cs := #[.int .i64 (wrap64 (a2_0 + 1)), .int .i64 x212001_58]) ?_ 1 _ rfl; (with_reducible repeat (first | apply bq | apply bd | apply ba)); refine blk_put (cs := #[.int .i64 x212000_58, .int .i64 x212001_58]) ?_ 0 _ rfl; (with_reducible repeat (first | apply bq | apply bd | apply ba)); refine blk_far ?_ NB211_210.out _; (with_reducible repeat (first | apply bq | apply bd | apply ba)); refine blk_far ?_ NB211_210.out _; (with_reducible repeat (first | apply bq | apply bd | apply ba)); refine blk_far ?_ NB211_210.out _; (with_reducible repeat (first | apply bq | apply bd | apply ba)); refine blk_far ?_ NB211_210.out _; (with_reducible repeat (first | apply bq | apply bd | apply ba)); exact BK211.out) Try.underlying29 rfl (by kernel_rfl) (.tmp .nil)))) rfl ?_
                     exact ⟨by first | rfl | (simp [errW_none, errW_some] <;> rfl) | (simp only [← hji56, ← hji113]; first | rfl | (simp [errW_none, errW_some] <;> rfl)) | (simp [*, errW_none, errW_some] <;> rfl), by repeat (first | (with_reducible first | exact HB.out | apply below_alloc | apply pw_below_drewN | apply below_drew1 | refine below_set ?_ GE209.out | refine below_set ?_ GE210.out | refine below_set ?_ GE211.out | refine below_set ?_ GE214.out | refine below_set ?_ GE216.out) | exact HB.out)⟩
                    rw [if_neg c115] at H
                    exact absurd H (by simp)
                   rw [if_neg c114] at H
                   exact absurd H (by simp)
                  rw [if_neg c112] at H
                  have c112b0 : decide ((wrap64 (x13_58 + 1)) < ((rdOf ByteArray.empty l1 (ji56)).size : Int)) = false := decide_eq_false c112
                  clear c112
                  by_cases c123 : a2_0 < (l1.length : Int)
                  ·rw [if_pos c123] at H
                   have c123b0 : decide (a2_0 < (l1.length : Int)) = true := decide_eq_true c123
                   clear c123
                   by_cases c124 : 0 ≤ a2_0
                   ·rw [if_pos c124] at H
                    have c124b0 : decide (0 ≤ a2_0) = true := decide_eq_true c124
                    clear c124
                    simp only [Option.some.injEq, Prod.mk.injEq] at H
                    obtain ⟨rfl, rfl, rfl, rfl, rfl, rfl, rfl⟩ := H
                    have hnb125 := NB209_210.out; have hnc125 := NB210_209.out; have hnb126 := NB209_211.out; have hnc126 := NB211_209.out; have hnb127 := NB209_214.out; have hnc127 := NB214_209.out; have hnb128 := NB209_216.out; have hnc128 := NB216_209.out
                    have hcz129_0 : wc.cell? ⟨gb209,0,none⟩ = some (.int .i64 a2_0) := (blk_cell BK209.out 0).trans rfl
                    have hcz129_1 : wc.cell? ⟨gb209,1,none⟩ = some (.int .i64 a2_1) := (blk_cell BK209.out 1).trans rfl
                    have hfz129_0 := blk_frozen BK209.out 0
                    have hfz129_1 := blk_frozen BK209.out 1
                    iterate 6 (try go_wp2; try go_quiet (fail))
                    (try (rw [drewN_self wc]; generalize hq_ : World.drewN wc _ = wc; have n0_ : Aside0 (wc.heap[gb209]? = some (.cells #[.int .i64 a2_0, .int .i64 a2_1] 29 (0, 0))) := ⟨by rw [← hq_]; exact (by (with_reducible repeat (first | apply bq | apply bd | apply ba)); exact BK209.out)⟩; have n1_ : Aside0 (wc.heap[gb210]? = some (.cells #[.string x211000_58, .string x211001_58, .int .i64 x211002_58, .string x211003_58] 32 (0, 0))) := ⟨by rw [← hq_]; exact (by (with_reducible repeat (first | apply bq | apply bd | apply ba)); exact BK210.out)⟩; have n2_ : Aside0 (wc.heap[gb211]? = some (.cells #[.int .i64 x212000_58, .int .i64 x212001_58] 29 (0, 0))) := ⟨by rw [← hq_]; exact (by (with_reducible repeat (first | apply bq | apply bd | apply ba)); exact BK211.out)⟩; have n3_ : Aside0 (wc.heap[gb214]? = some (.cells #[.string (⟨#[63]⟩ : ByteArray), .string (⟨#[]⟩ : ByteArray), .int .i64 1, .string (⟨#[]⟩ : ByteArray)] 32 (0, 0))) := ⟨by rw [← hq_]; exact (by (with_reducible repeat (first | apply bq | apply bd | apply ba)); exact BK214.out)⟩; have n4_ : Aside0 (wc.heap[gb216]? = some (.cells #[.int .i64 (wrap64 (a2_0 + 1)), .int .i64 0] 29 (0, 0))) := ⟨by rw [← hq_]; exact (by (with_reducible repeat (first | apply bq | apply bd | apply ba)); exact BK216.out)⟩; have n5_ : Aside0 (Below w.heap.size w wc) := ⟨by rw [← hq_]; exact (by repeat (first | (with_reducible first | exact HB.out | apply below_alloc | apply pw_below_drewN | apply below_drew1 | refine below_set ?_ GE209.out | refine below_set ?_ GE210.out | refine below_set ?_ GE211.out | refine below_set ?_ GE214.out | refine below_set ?_ GE216.out) | exact HB.out))⟩; clear BK209 BK210 BK211 BK214 BK216 HB hq_; have BK209 := n0_; have BK210 := n1_; have BK211 := n2_; have BK214 := n3_; have BK216 := n4_; have HB := n5_; clear n0_ n1_ n2_ n3_ n4_ n5_))
                    have n0_ := Aside0.mk (blk_drew BK209.out)
                    have n1_ := Aside0.mk (blk_drew BK210.out)
                    have n2_ := Aside0.mk (blk_drew BK211.out)
                    have n3_ := Aside0.mk (blk_drew BK214.out)
                    have n4_ := Aside0.mk (blk_drew BK216.out)
                    have n5_ := Aside0.mk (below_drew1 HB.out)
                    clear BK209; clear BK210; clear BK211; clear BK214; clear BK216; clear HB; have BK209 := n0_; have BK210 := n1_; have BK211 := n2_; have BK214 := n3_; have BK216 := n4_; have HB := n5_; clear n0_ n1_ n2_ n3_ n4_ n5_
                    have p219 : 0 ≤ (a2_0 : Int) := of_decide_eq_true (by first | (with_reducible assumption) | assumption)
                    have q219 : a2_0 < (l1.length : Int) := of_decide_eq_true (by first | (with_reducible assumption) | assumption)
                    obtain ⟨ad219, e219, hx219_0⟩ := Kd.at_string HR1.out a2_0 p219 q219
                    have hw219_0 := hx219_0
                    obtain rfl : ad215 = ad219 := (by injection e219)
                    replace hx219_0 := (HB.out.cell (World.block_lt_of_cell? w _ hx219_0)).trans hx219_0
                    replace p219 := eq_true p219
                    replace q219 := eq_true q219
                    refine start_ (n := 14) (S := fun w' => w'.cell? ⟨gb209,0,none⟩ = some (.int .i64 a2_0) ∧ w'.cell? ⟨gb209,1,none⟩ = some (.int .i64 a2_1) ∧ w'.cell? (ad215.add (a2_0).toNat) = some (.string (rdOf ByteArray.empty l1 a2_0))) (ds := []) #[ff,ff,ff,ff,ff,ff,ff,ff,ff,ff,ff,ff,ff,ff] (by kernel_rfl) rfl rfl ⟨(blk_cell BK209.out 0).trans rfl, (blk_cell BK209.out 1).trans rfl, ((HB.out.cell (World.block_lt_of_cell? w _ hw219_0)).trans hw219_0)⟩ (fun hHeld => ?_); refine with_tabW jobshellref16_Next.tab25 jobshellref16_Next.bits25 (fun HT_ HW_ => ?_)
                    generalize wc.drew = w130 at BK209 BK210 BK211 BK214 BK216 HB hx219_0 hHeld ⊢
                    refine pure_ (i := 0) (N := some 140) (v := ?_) (a' := ?_) #[tt,ff,ff,ff,ff,ff,ff,ff,ff,ff,ff,ff,ff,ff] rfl rfl (any_of HT_.out (by kernel_rfl)) (fun _ _ _ h => h) (Or.inl ⟨by rfl, ?_⟩) ?_ ?_
                    rotate_left
                    ·intro w'
                     go_simp
                     with_reducible rfl
                    rotate_left
                    ·simp only [Act.put, sb_, sz_, ss_, i64_w, i32_w]
                     rfl
                    refine pure_ (i := 1) (N := some 141) (v := ?_) (a' := ?_) #[tt,tt,ff,ff,ff,ff,ff,ff,ff,ff,ff,ff,ff,ff] rfl rfl (any_of HT_.out (by kernel_rfl)) (fun _ _ _ h => h) (Or.inl ⟨by rfl, ?_⟩) ?_ ?_
                    rotate_left
                    ·intro w'
                     go_simp
                     with_reducible rfl
                    rotate_left
                    ·simp only [Act.put, sb_, sz_, ss_, i64_w, i32_w]
                     rfl
                    refine pure_ (i := 2) (N := some 142) (v := ?_) (a' := ?_) #[tt,tt,tt,ff,ff,ff,ff,ff,ff,ff,ff,ff,ff,ff] rfl rfl (any_of HT_.out (by kernel_rfl)) (fun _ _ _ h => h) (Or.inl ⟨by rfl, ?_⟩) ?_ ?_
                    rotate_left
                    ·intro w'
                     go_simp
                     with_reducible rfl
                    rotate_left
                    ·simp only [Act.put, sb_, sz_, ss_, i64_w, i32_w]
                     rfl
                    refine pure_ (i := 7) (N := some 147) (v := ?_) (a' := ?_) #[tt,tt,tt,ff,ff,ff,ff,tt,ff,ff,ff,ff,ff,ff] rfl rfl (any_of HT_.out (by kernel_rfl)) (fun _ _ _ h => h) (Or.inl ⟨by rfl, ?_⟩) ?_ ?_
                    rotate_left
                    ·intro w'
                     go_simp
                     with_reducible rfl
                    rotate_left
                    ·simp only [Act.put, sb_, sz_, ss_, i64_w, i32_w]
                     rfl
                    refine take_ (i := 3) (N := some 143) (v := ?_) (a' := ?_) #[tt,tt,tt,tt,ff,ff,ff,tt,ff,ff,ff,ff,ff,ff] rfl rfl (take_ofW HT_.out HW_.out (by kernel_rfl)) (fun _ _ _ h => h) (Or.inl ⟨by rfl, ?_⟩) hHeld ?_ ?_
                    rotate_left
                    ·rintro w' ⟨s0, s1, s2⟩
                     go_simp
                     with_reducible rfl
                    rotate_left
                    ·simp only [Act.put, sb_, sz_, ss_, i64_w, i32_w]
                     rfl
                    refine pure_ (i := 4) (N := some 144) (v := ?_) (a' := ?_) #[tt,tt,tt,tt,tt,ff,ff,tt,ff,ff,ff,ff,ff,ff] rfl rfl (any_of HT_.out (by kernel_rfl)) (fun _ _ _ h => h) (Or.inl ⟨by rfl, ?_⟩) ?_ ?_
                    rotate_left
                    ·intro w'
                     go_simp
                     with_reducible rfl
                    rotate_left
                    ·simp only [Act.put, sb_, sz_, ss_, i64_w, i32_w]
                     rfl
                    refine take_ (i := 5) (N := some 145) (v := ?_) (a' := ?_) #[tt,tt,tt,tt,tt,tt,ff,tt,ff,ff,ff,ff,ff,ff] rfl rfl (take_ofW HT_.out HW_.out (by kernel_rfl)) (fun _ _ _ h => h) (Or.inl ⟨by rfl, ?_⟩) hHeld ?_ ?_
                    rotate_left
                    ·rintro w' ⟨s0, s1, s2⟩
                     go_simp
                     with_reducible rfl
                    rotate_left
                    ·simp only [Act.put, sb_, sz_, ss_, i64_w, i32_w]
                     rfl
                    refine pure_ (i := 6) (N := some 146) (v := ?_) (a' := ?_) #[tt,tt,tt,tt,tt,tt,tt,tt,ff,ff,ff,ff,ff,ff] rfl rfl (any_of HT_.out (by kernel_rfl)) (fun _ _ _ h => h) (Or.inl ⟨by rfl, ?_⟩) ?_ ?_
                    rotate_left
                    ·intro w'
                     go_simp
                     with_reducible rfl
                    rotate_left
                    ·simp only [Act.put, sb_, sz_, ss_, i64_w, i32_w]
                     rfl
                    refine take_ (i := 8) (N := some 148) (v := ?_) (a' := ?_) #[tt,tt,tt,tt,tt,tt,tt,tt,tt,ff,ff,ff,ff,ff] rfl rfl (take_ofW HT_.out HW_.out (by kernel_rfl)) (fun _ _ _ h => h) (Or.inl ⟨by rfl, ?_⟩) hHeld ?_ ?_
                    rotate_left
                    ·rintro w' ⟨s0, s1, s2⟩
                     go_simp
                     with_reducible rfl
                    rotate_left
                    ·simp only [Act.put, sb_, sz_, ss_, i64_w, i32_w]
                     rfl
                    refine pure_ (i := 9) (N := some 149) (v := ?_) (a' := ?_) #[tt,tt,tt,tt,tt,tt,tt,tt,tt,tt,ff,ff,ff,ff] rfl rfl (any_of HT_.out (by kernel_rfl)) (fun _ _ _ h => h) (Or.inl ⟨by rfl, ?_⟩) ?_ ?_
                    rotate_left
                    ·intro w'
                     go_simp
                     with_reducible rfl
                    rotate_left
                    ·simp only [Act.put, sb_, sz_, ss_, i64_w, i32_w]
                     rfl
                    refine pure_ (i := 10) (N := some 150) (v := ?_) (a' := ?_) #[tt,tt,tt,tt,tt,tt,tt,tt,tt,tt,tt,ff,ff,ff] rfl rfl (any_of HT_.out (by kernel_rfl)) (fun _ _ _ h => h) (Or.inl ⟨by rfl, ?_⟩) ?_ ?_
                    rotate_left
                    ·intro w'
                     go_simp
                     with_reducible rfl
                    rotate_left
                    ·simp only [Act.put, sb_, sz_, ss_, i64_w, i32_w]
                     rfl
                    refine one_ (i := 11) (N := none) #[tt,tt,tt,tt,tt,tt,tt,tt,tt,tt,tt,tt,ff,ff] rfl rfl (one_of HT_.out (by kernel_rfl)) (by decide) (fun K hK => ?_)
                    have hs131 : w130.cell? ⟨gb210,0,none⟩ = some (.string x211000_58) := (blk_cell BK210.out 0).trans rfl
                    have hfs131 := blk_frozen BK210.out 0
                    have hns131_0 := NB209_210.out; have hns131_2 := NB211_210.out; have hns131_3 := NB214_210.out; have hns131_4 := NB216_210.out; have hms131_0 := NB210_209.out; have hms131_2 := NB210_211.out; have hms131_3 := NB210_214.out; have hms131_4 := NB210_216.out
                    have hs132 : w130.cell? ⟨gb210,1,none⟩ = some (.string x211001_58) := (blk_cell BK210.out 1).trans rfl
                    have hfs132 := blk_frozen BK210.out 1
                    have hns132_0 := NB209_210.out; have hns132_2 := NB211_210.out; have hns132_3 := NB214_210.out; have hns132_4 := NB216_210.out; have hms132_0 := NB210_209.out; have hms132_2 := NB210_211.out; have hms132_3 := NB210_214.out; have hms132_4 := NB210_216.out
                    have hs133 : w130.cell? ⟨gb210,2,none⟩ = some (.int .i64 x211002_58) := (blk_cell BK210.out 2).trans rfl
                    have hfs133 := blk_frozen BK210.out 2
                    have hns133_0 := NB209_210.out; have hns133_2 := NB211_210.out; have hns133_3 := NB214_210.out; have hns133_4 := NB216_210.out; have hms133_0 := NB210_209.out; have hms133_2 := NB210_211.out; have hms133_3 := NB210_214.out; have hms133_4 := NB210_216.out
                    have hs134 : w130.cell? ⟨gb210,3,none⟩ = some (.string x211003_58) := (blk_cell BK210.out 3).trans rfl
                    have hfs134 := blk_frozen BK210.out 3
                    have hns134_0 := NB209_210.out; have hns134_2 := NB211_210.out; have hns134_3 := NB214_210.out; have hns134_4 := NB216_210.out; have hms134_0 := NB210_209.out; have hms134_2 := NB210_211.out; have hms134_3 := NB210_214.out; have hms134_4 := NB210_216.out
                    refine skip_ (w1 := (((w130.setCell ⟨gb210,0,none⟩ (.string ((rdOf ByteArray.empty l1 ji56).extract x13_58.toNat (wrap64 (x13_58 + 1)).toNat))).setCell ⟨gb210,1,none⟩ (.string (rdOf ByteArray.empty l1 a2_0))).setCell ⟨gb210,2,none⟩ (.int .i64 0)).setCell ⟨gb210,3,none⟩ (.string ⟨#[]⟩)) (by rfl) rfl ?_ ?_
                    ·as_aux_lemma => go_simp
                    refine hK.out _ _ ⟨((cell_far (p := ⟨gb210,_,none⟩) NB209_210.out _).trans (((cell_far (p := ⟨gb210,_,none⟩) NB209_210.out _).trans (((cell_far (p := ⟨gb210,_,none⟩) NB209_210.out _).trans (((cell_far (p := ⟨gb210,_,none⟩) NB209_210.out _).trans (hHeld.1)))))))), ((cell_far (p := ⟨gb210,_,none⟩) NB209_210.out _).trans (((cell_far (p := ⟨gb210,_,none⟩) NB209_210.out _).trans (((cell_far (p := ⟨gb210,_,none⟩) NB209_210.out _).trans (((cell_far (p := ⟨gb210,_,none⟩) NB209_210.out _).trans (hHeld.2.1)))))))), ((cell_far (p := ⟨gb210,_,none⟩) (by first | exact Nat.ne_of_lt (Nat.lt_of_lt_of_le (by have := World.block_lt_of_cell? _ _ hw219_0; first | rwa [add_block] at this | exact this) GW210.out) | (rw [add_block]; exact Nat.ne_of_lt (Nat.lt_of_lt_of_le (by have := World.block_lt_of_cell? _ _ hw219_0; first | rwa [add_block] at this | exact this) GW210.out)) | (show (Addr.add _ _).block ≠ _; rw [add_block]; exact Nat.ne_of_lt (Nat.lt_of_lt_of_le (by have := World.block_lt_of_cell? _ _ hw219_0; first | rwa [add_block] at this | exact this) GW210.out)) | (dsimp only; exact Nat.ne_of_lt (Nat.lt_of_lt_of_le (by have := World.block_lt_of_cell? _ _ hw219_0; first | rwa [add_block] at this | exact this) GW210.out))) _).trans (((cell_far (p := ⟨gb210,_,none⟩) (by first | exact Nat.ne_of_lt (Nat.lt_of_lt_of_le (by have := World.block_lt_of_cell? _ _ hw219_0; first | rwa [add_block] at this | exact this) GW210.out) | (rw [add_block]; exact Nat.ne_of_lt (Nat.lt_of_lt_of_le (by have := World.block_lt_of_cell? _ _ hw219_0; first | rwa [add_block] at this | exact this) GW210.out)) | (show (Addr.add _ _).block ≠ _; rw [add_block]; exact Nat.ne_of_lt (Nat.lt_of_lt_of_le (by have := World.block_lt_of_cell? _ _ hw219_0; first | rwa [add_block] at this | exact this) GW210.out)) | (dsimp only; exact Nat.ne_of_lt (Nat.lt_of_lt_of_le (by have := World.block_lt_of_cell? _ _ hw219_0; first | rwa [add_block] at this | exact this) GW210.out))) _).trans (((cell_far (p := ⟨gb210,_,none⟩) (by first | exact Nat.ne_of_lt (Nat.lt_of_lt_of_le (by have := World.block_lt_of_cell? _ _ hw219_0; first | rwa [add_block] at this | exact this) GW210.out) | (rw [add_block]; exact Nat.ne_of_lt (Nat.lt_of_lt_of_le (by have := World.block_lt_of_cell? _ _ hw219_0; first | rwa [add_block] at this | exact this) GW210.out)) | (show (Addr.add _ _).block ≠ _; rw [add_block]; exact Nat.ne_of_lt (Nat.lt_of_lt_of_le (by have := World.block_lt_of_cell? _ _ hw219_0; first | rwa [add_block] at this | exact this) GW210.out)) | (dsimp only; exact Nat.ne_of_lt (Nat.lt_of_lt_of_le (by have := World.block_lt_of_cell? _ _ hw219_0; first | rwa [add_block] at this | exact this) GW210.out))) _).trans (((cell_far (p := ⟨gb210,_,none⟩) (by first | exact Nat.ne_of_lt (Nat.lt_of_lt_of_le (by have := World.block_lt_of_cell? _ _ hw219_0; first | rwa [add_block] at this | exact this) GW210.out) | (rw [add_block]; exact Nat.ne_of_lt (Nat.lt_of_lt_of_le (by have := World.block_lt_of_cell? _ _ hw219_0; first | rwa [add_block] at this | exact this) GW210.out)) | (show (Addr.add _ _).block ≠ _; rw [add_block]; exact Nat.ne_of_lt (Nat.lt_of_lt_of_le (by have := World.block_lt_of_cell? _ _ hw219_0; first | rwa [add_block] at this | exact this) GW210.out)) | (dsimp only; exact Nat.ne_of_lt (Nat.lt_of_lt_of_le (by have := World.block_lt_of_cell? _ _ hw219_0; first | rwa [add_block] at this | exact this) GW210.out))) _).trans (hHeld.2.2))))))))⟩ (fun hHeld => ?_)
                    clear hK K
                    refine one_ (i := 12) (N := none) #[tt,tt,tt,tt,tt,tt,tt,tt,tt,tt,tt,tt,tt,ff] rfl rfl (one_of HT_.out (by kernel_rfl)) (by decide) (fun K hK => ?_)
                    have hs135 : w130.cell? ⟨gb211,0,none⟩ = some (.int .i64 x212000_58) := (blk_cell BK211.out 0).trans rfl
                    have hfs135 := blk_frozen BK211.out 0
                    have hns135_0 := NB209_211.out; have hns135_1 := NB210_211.out; have hns135_3 := NB214_211.out; have hns135_4 := NB216_211.out; have hms135_0 := NB211_209.out; have hms135_1 := NB211_210.out; have hms135_3 := NB211_214.out; have hms135_4 := NB211_216.out
                    have hs136 : w130.cell? ⟨gb211,1,none⟩ = some (.int .i64 x212001_58) := (blk_cell BK211.out 1).trans rfl
                    have hfs136 := blk_frozen BK211.out 1
                    have hns136_0 := NB209_211.out; have hns136_1 := NB210_211.out; have hns136_3 := NB214_211.out; have hns136_4 := NB216_211.out; have hms136_0 := NB211_209.out; have hms136_1 := NB211_210.out; have hms136_3 := NB211_214.out; have hms136_4 := NB211_216.out
                    refine skip_ (w1 := (((((w130.setCell ⟨gb210,0,none⟩ (.string ((rdOf ByteArray.empty l1 ji56).extract x13_58.toNat (wrap64 (x13_58 + 1)).toNat))).setCell ⟨gb210,1,none⟩ (.string (rdOf ByteArray.empty l1 a2_0))).setCell ⟨gb210,2,none⟩ (.int .i64 0)).setCell ⟨gb210,3,none⟩ (.string ⟨#[]⟩)).setCell ⟨gb211,0,none⟩ (.int .i64 (wrap64 (a2_0 + 2)))).setCell ⟨gb211,1,none⟩ (.int .i64 0)) (by rfl) rfl ?_ ?_
                    ·as_aux_lemma => go_simp
                    refine hK.out _ _ ⟨((cell_far (p := ⟨gb211,_,none⟩) NB209_211.out _).trans (((cell_far (p := ⟨gb211,_,none⟩) NB209_211.out _).trans (hHeld.1)))), ((cell_far (p := ⟨gb211,_,none⟩) NB209_211.out _).trans (((cell_far (p := ⟨gb211,_,none⟩) NB209_211.out _).trans (hHeld.2.1)))), ((cell_far (p := ⟨gb211,_,none⟩) (by first | exact Nat.ne_of_lt (Nat.lt_of_lt_of_le (by have := World.block_lt_of_cell? _ _ hw219_0; first | rwa [add_block] at this | exact this) GW211.out) | (rw [add_block]; exact Nat.ne_of_lt (Nat.lt_of_lt_of_le (by have := World.block_lt_of_cell? _ _ hw219_0; first | rwa [add_block] at this | exact this) GW211.out)) | (show (Addr.add _ _).block ≠ _; rw [add_block]; exact Nat.ne_of_lt (Nat.lt_of_lt_of_le (by have := World.block_lt_of_cell? _ _ hw219_0; first | rwa [add_block] at this | exact this) GW211.out)) | (dsimp only; exact Nat.ne_of_lt (Nat.lt_of_lt_of_le (by have := World.block_lt_of_cell? _ _ hw219_0; first | rwa [add_block] at this | exact this) GW211.out))) _).trans (((cell_far (p := ⟨gb211,_,none⟩) (by first | exact Nat.ne_of_lt (Nat.lt_of_lt_of_le (by have := World.block_lt_of_cell? _ _ hw219_0; first | rwa [add_block] at this | exact this) GW211.out) | (rw [add_block]; exact Nat.ne_of_lt (Nat.lt_of_lt_of_le (by have := World.block_lt_of_cell? _ _ hw219_0; first | rwa [add_block] at this | exact this) GW211.out)) | (show (Addr.add _ _).block ≠ _; rw [add_block]; exact Nat.ne_of_lt (Nat.lt_of_lt_of_le (by have := World.block_lt_of_cell? _ _ hw219_0; first | rwa [add_block] at this | exact this) GW211.out)) | (dsimp only; exact Nat.ne_of_lt (Nat.lt_of_lt_of_le (by have := World.block_lt_of_cell? _ _ hw219_0; first | rwa [add_block] at this | exact this) GW211.out))) _).trans (hHeld.2.2))))⟩ (fun hHeld => ?_)
                    clear hK K
                    refine pure_ (i := 13) (N := some 8) (v := ?_) (a' := ?_) #[tt,tt,tt,tt,tt,tt,tt,tt,tt,tt,tt,tt,tt,tt] rfl rfl (any_of HT_.out (by kernel_rfl)) (fun _ _ _ h => h) (Or.inl ⟨by rfl, ?_⟩) ?_ ?_
                    rotate_left
                    ·intro w'
                     go_simp
                     with_reducible rfl
                    rotate_left
                    ·simp only [Act.put, sb_, sz_, ss_, i64_w, i32_w]
                     rfl
                    refine done_ (done_of HT_.out (by kernel_rfl)) ?_
                    iterate 6 (try go_wp2; try go_quiet (fail))
                    refine bodyPost_ret (results_list (rs := [.cell 6 32, .cell 7 29, .tmp 8]) rfl (by simp) (.cell gb210 32 #[.string ((rdOf ByteArray.empty l1 (ji56)).extract (x13_58 : Int).toNat ((wrap64 (x13_58 + 1)) : Int).toNat), .string (rdOf ByteArray.empty l1 a2_0), .int .i64 0, .string (⟨#[]⟩ : ByteArray)] (0, 0) _ rfl (by (with_reducible repeat (first | apply bq | apply bd | apply ba)); refine blk_far ?_ NB210_211.out _; (with_reducible repeat (first | apply bq | apply bd | apply ba)); refine blk_far ?_ NB210_211.out _; (with_reducible repeat (first | apply bq | apply bd | apply ba)); refine blk_put (cs := #[.string ((rdOf ByteArray.empty l1 (ji56)).extract (x13_58 : Int).toNat ((wrap64 (x13_58 + 1)) : Int).toNat), .string (rdOf ByteArray.empty l1 a2_0), .int .i64 0, .string x211003_58]) ?_ 3 _ rfl; (with_reducible repeat (first | apply bq | apply bd | apply ba)); refine blk_put (cs := #[.string ((rdOf ByteArray.empty l1 (ji56)).extract (x13_58 : Int).toNat ((wrap64 (x13_58 + 1)) : Int).toNat), .string (rdOf ByteArray.empty l1 a2_0), .int .i64 x211002_58, .string x211003_58]) ?_ 2 _ rfl; (with_reducible repeat (first | apply bq | apply bd | apply ba)); refine blk_put (cs := #[.string ((rdOf ByteArray.empty l1 (ji56)).extract (x13_58 : Int).toNat ((wrap64 (x13_58 + 1)) : Int).toNat), .string x211001_58, .int .i64 x211002_58, .string x211003_58]) ?_ 1 _ rfl; (with_reducible repeat (first | apply bq | apply bd | apply ba)); refine blk_put (cs := #[.string x211000_58, .string x211001_58, .int .i64 x211002_58, .string x211003_58]) ?_ 0 _ rfl; (with_reducible repeat (first | apply bq | apply bd | apply ba)); exact BK210.out) Try.underlying32 rfl (by kernel_rfl) (.cell gb211 29 #[.int .i64 (wrap64 (a2_0 + 2)), .int .i64 0] (0, 0) _ rfl (by (with_reducible repeat (first | apply bq | apply bd | apply ba)); refine blk_put (cs := #[.int .i64 (wrap64 (a2_0 + 2)), .int .i64 x212001_58]) ?_ 1 _ rfl; (with_reducible repeat (first | apply bq | apply bd | apply ba)); refine blk_put (cs := #[.int .i64 x212000_58, .int .i64 x212001_58]) ?_ 0 _ rfl; (with_reducible repeat (first | apply bq | apply bd | apply ba)); refine blk_far ?_ NB211_210.out _; (with_reducible repeat (first | apply bq | apply bd | apply ba)); refine blk_far ?_ NB211_210.out _; (with_reducible repeat (first | apply bq | apply bd | apply ba)); refine blk_far ?_ NB211_210.out _; (with_reducible repeat (first | apply bq | apply bd | apply ba)); refine blk_far ?_ NB211_210.out _; (with_reducible repeat (first | apply bq | apply bd | apply ba)); exact BK211.out) Try.underlying29 rfl (by kernel_rfl) (.tmp .nil)))) rfl ?_
                    exact ⟨by first | rfl | (simp [errW_none, errW_some] <;> rfl) | (simp only [← hji56]; first | rfl | (simp [errW_none, errW_some] <;> rfl)) | (simp [*, errW_none, errW_some] <;> rfl), by repeat (first | (with_reducible first | exact HB.out | apply below_alloc | apply pw_below_drewN | apply below_drew1 | refine below_set ?_ GE209.out | refine below_set ?_ GE210.out | refine below_set ?_ GE211.out | refine below_set ?_ GE214.out | refine below_set ?_ GE216.out) | exact HB.out)⟩
                   rw [if_neg c124] at H
                   exact absurd H (by simp)
                  rw [if_neg c123] at H
                  have c123b0 : decide (a2_0 < (l1.length : Int)) = false := decide_eq_false c123
                  clear c123
                  by_cases c137 : x14_96 = true
                  ·subst c137
                   have H1 : (some ((⟨#[58]⟩ : ByteArray), ((rdOf ByteArray.empty l1 (ji56)).extract (x13_58 : Int).toNat ((wrap64 (x13_58 + 1)) : Int).toNat), 2, (⟨#[]⟩ : ByteArray), (wrap64 (a2_0 + 1)), 0, 0)) = some (r1, r2, r3, r4, r5, r6, r7) := by rw [if_pos rfl] at H; exact H
                   clear H; have H := H1; clear H1
                   simp only [Option.some.injEq, Prod.mk.injEq] at H
                   obtain ⟨rfl, rfl, rfl, rfl, rfl, rfl, rfl⟩ := H
                   have hnb138 := NB209_210.out; have hnc138 := NB210_209.out; have hnb139 := NB209_211.out; have hnc139 := NB211_209.out; have hnb140 := NB209_214.out; have hnc140 := NB214_209.out; have hnb141 := NB209_216.out; have hnc141 := NB216_209.out
                   have hcz142_0 : wc.cell? ⟨gb209,0,none⟩ = some (.int .i64 a2_0) := (blk_cell BK209.out 0).trans rfl
                   have hcz142_1 : wc.cell? ⟨gb209,1,none⟩ = some (.int .i64 a2_1) := (blk_cell BK209.out 1).trans rfl
                   have hfz142_0 := blk_frozen BK209.out 0
                   have hfz142_1 := blk_frozen BK209.out 1
                   iterate 6 (try go_wp2; try go_quiet (fail))
                   (try (rw [drewN_self wc]; generalize hq_ : World.drewN wc _ = wc; have n0_ : Aside0 (wc.heap[gb209]? = some (.cells #[.int .i64 a2_0, .int .i64 a2_1] 29 (0, 0))) := ⟨by rw [← hq_]; exact (by (with_reducible repeat (first | apply bq | apply bd | apply ba)); exact BK209.out)⟩; have n1_ : Aside0 (wc.heap[gb210]? = some (.cells #[.string x211000_58, .string x211001_58, .int .i64 x211002_58, .string x211003_58] 32 (0, 0))) := ⟨by rw [← hq_]; exact (by (with_reducible repeat (first | apply bq | apply bd | apply ba)); exact BK210.out)⟩; have n2_ : Aside0 (wc.heap[gb211]? = some (.cells #[.int .i64 x212000_58, .int .i64 x212001_58] 29 (0, 0))) := ⟨by rw [← hq_]; exact (by (with_reducible repeat (first | apply bq | apply bd | apply ba)); exact BK211.out)⟩; have n3_ : Aside0 (wc.heap[gb214]? = some (.cells #[.string (⟨#[63]⟩ : ByteArray), .string (⟨#[]⟩ : ByteArray), .int .i64 1, .string (⟨#[]⟩ : ByteArray)] 32 (0, 0))) := ⟨by rw [← hq_]; exact (by (with_reducible repeat (first | apply bq | apply bd | apply ba)); exact BK214.out)⟩; have n4_ : Aside0 (wc.heap[gb216]? = some (.cells #[.int .i64 (wrap64 (a2_0 + 1)), .int .i64 0] 29 (0, 0))) := ⟨by rw [← hq_]; exact (by (with_reducible repeat (first | apply bq | apply bd | apply ba)); exact BK216.out)⟩; have n5_ : Aside0 (Below w.heap.size w wc) := ⟨by rw [← hq_]; exact (by repeat (first | (with_reducible first | exact HB.out | apply below_alloc | apply pw_below_drewN | apply below_drew1 | refine below_set ?_ GE209.out | refine below_set ?_ GE210.out | refine below_set ?_ GE211.out | refine below_set ?_ GE214.out | refine below_set ?_ GE216.out) | exact HB.out))⟩; clear BK209 BK210 BK211 BK214 BK216 HB hq_; have BK209 := n0_; have BK210 := n1_; have BK211 := n2_; have BK214 := n3_; have BK216 := n4_; have HB := n5_; clear n0_ n1_ n2_ n3_ n4_ n5_))
                   have n0_ := Aside0.mk (blk_drew BK209.out)
                   have n1_ := Aside0.mk (blk_drew BK210.out)
                   have n2_ := Aside0.mk (blk_drew BK211.out)
                   have n3_ := Aside0.mk (blk_drew BK214.out)
                   have n4_ := Aside0.mk (blk_drew BK216.out)
                   have n5_ := Aside0.mk (below_drew1 HB.out)
                   clear BK209; clear BK210; clear BK211; clear BK214; clear BK216; clear HB; have BK209 := n0_; have BK210 := n1_; have BK211 := n2_; have BK214 := n3_; have BK216 := n4_; have HB := n5_; clear n0_ n1_ n2_ n3_ n4_ n5_
                   refine start_ (n := 6) (S := fun w' => w'.cell? ⟨gb216,0,none⟩ = some (.int .i64 (wrap64 (a2_0 + 1))) ∧ w'.cell? ⟨gb216,1,none⟩ = some (.int .i64 0)) (ds := []) #[ff,ff,ff,ff,ff,ff] (by kernel_rfl) rfl rfl ⟨(blk_cell BK216.out 0).trans rfl, (blk_cell BK216.out 1).trans rfl⟩ (fun hHeld => ?_)
                   generalize wc.drew = w143 at BK209 BK210 BK211 BK214 BK216 HB hHeld ⊢
                   refine pure_ (i := 0) (N := some 152) (v := ?_) (a' := ?_) #[tt,ff,ff,ff,ff,ff] rfl rfl (by kernel_rfl) (fun _ _ _ h => h) (Or.inl ⟨by rfl, ?_⟩) ?_ ?_
                   rotate_left
                   ·intro w'
                    go_simp
                    with_reducible rfl
                   rotate_left
                   ·simp only [Act.put, sb_, sz_, ss_, i64_w, i32_w]
                    rfl
                   refine pure_ (i := 1) (N := some 153) (v := ?_) (a' := ?_) #[tt,tt,ff,ff,ff,ff] rfl rfl (by kernel_rfl) (fun _ _ _ h => h) (Or.inl ⟨by rfl, ?_⟩) ?_ ?_
                   rotate_left
                   ·intro w'
                    go_simp
                    with_reducible rfl
                   rotate_left
                   ·simp only [Act.put, sb_, sz_, ss_, i64_w, i32_w]
                    rfl
                   refine take_ (i := 2) (N := some 154) (v := ?_) (a' := ?_) #[tt,tt,tt,ff,ff,ff] rfl rfl (by kernel_rfl) (fun _ _ _ h => h) (Or.inl ⟨by rfl, ?_⟩) hHeld ?_ ?_
                   rotate_left
                   ·rintro w' ⟨s0, s1⟩
                    go_simp
                    with_reducible rfl
                   rotate_left
                   ·simp only [Act.put, sb_, sz_, ss_, i64_w, i32_w]
                    rfl
                   refine one_ (i := 3) (N := none) #[tt,tt,tt,tt,ff,ff] rfl rfl (by kernel_rfl) (by decide) (fun K hK => ?_)
                   have hs144 : w143.cell? ⟨gb210,0,none⟩ = some (.string x211000_58) := (blk_cell BK210.out 0).trans rfl
                   have hfs144 := blk_frozen BK210.out 0
                   have hns144_0 := NB209_210.out; have hns144_2 := NB211_210.out; have hns144_3 := NB214_210.out; have hns144_4 := NB216_210.out; have hms144_0 := NB210_209.out; have hms144_2 := NB210_211.out; have hms144_3 := NB210_214.out; have hms144_4 := NB210_216.out
                   have hs145 : w143.cell? ⟨gb210,1,none⟩ = some (.string x211001_58) := (blk_cell BK210.out 1).trans rfl
                   have hfs145 := blk_frozen BK210.out 1
                   have hns145_0 := NB209_210.out; have hns145_2 := NB211_210.out; have hns145_3 := NB214_210.out; have hns145_4 := NB216_210.out; have hms145_0 := NB210_209.out; have hms145_2 := NB210_211.out; have hms145_3 := NB210_214.out; have hms145_4 := NB210_216.out
                   have hs146 : w143.cell? ⟨gb210,2,none⟩ = some (.int .i64 x211002_58) := (blk_cell BK210.out 2).trans rfl
                   have hfs146 := blk_frozen BK210.out 2
                   have hns146_0 := NB209_210.out; have hns146_2 := NB211_210.out; have hns146_3 := NB214_210.out; have hns146_4 := NB216_210.out; have hms146_0 := NB210_209.out; have hms146_2 := NB210_211.out; have hms146_3 := NB210_214.out; have hms146_4 := NB210_216.out
                   have hs147 : w143.cell? ⟨gb210,3,none⟩ = some (.string x211003_58) := (blk_cell BK210.out 3).trans rfl
                   have hfs147 := blk_frozen BK210.out 3
                   have hns147_0 := NB209_210.out; have hns147_2 := NB211_210.out; have hns147_3 := NB214_210.out; have hns147_4 := NB216_210.out; have hms147_0 := NB210_209.out; have hms147_2 := NB210_211.out; have hms147_3 := NB210_214.out; have hms147_4 := NB210_216.out
                   refine skip_ (w1 := (((w143.setCell ⟨gb210,0,none⟩ (.string ⟨#[58]⟩)).setCell ⟨gb210,1,none⟩ (.string ((rdOf ByteArray.empty l1 ji56).extract x13_58.toNat (wrap64 (x13_58 + 1)).toNat))).setCell ⟨gb210,2,none⟩ (.int .i64 2)).setCell ⟨gb210,3,none⟩ (.string ⟨#[]⟩)) (by rfl) rfl ?_ ?_
                   ·as_aux_lemma => go_simp
                   refine hK.out _ _ ⟨((cell_far (p := ⟨gb210,_,none⟩) NB216_210.out _).trans (((cell_far (p := ⟨gb210,_,none⟩) NB216_210.out _).trans (((cell_far (p := ⟨gb210,_,none⟩) NB216_210.out _).trans (((cell_far (p := ⟨gb210,_,none⟩) NB216_210.out _).trans (hHeld.1)))))))), ((cell_far (p := ⟨gb210,_,none⟩) NB216_210.out _).trans (((cell_far (p := ⟨gb210,_,none⟩) NB216_210.out _).trans (((cell_far (p := ⟨gb210,_,none⟩) NB216_210.out _).trans (((cell_far (p := ⟨gb210,_,none⟩) NB216_210.out _).trans (hHeld.2))))))))⟩ (fun hHeld => ?_)
                   clear hK K
                   refine one_ (i := 4) (N := none) #[tt,tt,tt,tt,tt,ff] rfl rfl (by kernel_rfl) (by decide) (fun K hK => ?_)
                   have hs148 : w143.cell? ⟨gb211,0,none⟩ = some (.int .i64 x212000_58) := (blk_cell BK211.out 0).trans rfl
                   have hfs148 := blk_frozen BK211.out 0
                   have hns148_0 := NB209_211.out; have hns148_1 := NB210_211.out; have hns148_3 := NB214_211.out; have hns148_4 := NB216_211.out; have hms148_0 := NB211_209.out; have hms148_1 := NB211_210.out; have hms148_3 := NB211_214.out; have hms148_4 := NB211_216.out
                   have hs149 : w143.cell? ⟨gb211,1,none⟩ = some (.int .i64 x212001_58) := (blk_cell BK211.out 1).trans rfl
                   have hfs149 := blk_frozen BK211.out 1
                   have hns149_0 := NB209_211.out; have hns149_1 := NB210_211.out; have hns149_3 := NB214_211.out; have hns149_4 := NB216_211.out; have hms149_0 := NB211_209.out; have hms149_1 := NB211_210.out; have hms149_3 := NB211_214.out; have hms149_4 := NB211_216.out
                   refine skip_ (w1 := (((((w143.setCell ⟨gb210,0,none⟩ (.string ⟨#[58]⟩)).setCell ⟨gb210,1,none⟩ (.string ((rdOf ByteArray.empty l1 ji56).extract x13_58.toNat (wrap64 (x13_58 + 1)).toNat))).setCell ⟨gb210,2,none⟩ (.int .i64 2)).setCell ⟨gb210,3,none⟩ (.string ⟨#[]⟩)).setCell ⟨gb211,0,none⟩ (.int .i64 (wrap64 (a2_0 + 1)))).setCell ⟨gb211,1,none⟩ (.int .i64 0)) (by rfl) rfl ?_ ?_
                   ·as_aux_lemma => go_simp
                   refine hK.out _ _ ⟨((cell_far (p := ⟨gb211,_,none⟩) NB216_211.out _).trans (((cell_far (p := ⟨gb211,_,none⟩) NB216_211.out _).trans (hHeld.1)))), ((cell_far (p := ⟨gb211,_,none⟩) NB216_211.out _).trans (((cell_far (p := ⟨gb211,_,none⟩) NB216_211.out _).trans (hHeld.2))))⟩ (fun hHeld => ?_)
                   clear hK K
                   refine pure_ (i := 5) (N := some 8) (v := ?_) (a' := ?_) #[tt,tt,tt,tt,tt,tt] rfl rfl (by kernel_rfl) (fun _ _ _ h => h) (Or.inl ⟨by rfl, ?_⟩) ?_ ?_
                   rotate_left
                   ·intro w'
                    go_simp
                    with_reducible rfl
                   rotate_left
                   ·simp only [Act.put, sb_, sz_, ss_, i64_w, i32_w]
                    rfl
                   refine done_ (by kernel_rfl) ?_
                   iterate 6 (try go_wp2; try go_quiet (fail))
                   refine bodyPost_ret (results_list (rs := [.cell 6 32, .cell 7 29, .tmp 8]) rfl (by simp) (.cell gb210 32 #[.string (⟨#[58]⟩ : ByteArray), .string ((rdOf ByteArray.empty l1 (ji56)).extract (x13_58 : Int).toNat ((wrap64 (x13_58 + 1)) : Int).toNat), .int .i64 2, .string (⟨#[]⟩ : ByteArray)] (0, 0) _ rfl (by (with_reducible repeat (first | apply bq | apply bd | apply ba)); refine blk_far ?_ NB210_211.out _; (with_reducible repeat (first | apply bq | apply bd | apply ba)); refine blk_far ?_ NB210_211.out _; (with_reducible repeat (first | apply bq | apply bd | apply ba)); refine blk_put (cs := #[.string (⟨#[58]⟩ : ByteArray), .string ((rdOf ByteArray.empty l1 (ji56)).extract (x13_58 : Int).toNat ((wrap64 (x13_58 + 1)) : Int).toNat), .int .i64 2, .string x211003_58]) ?_ 3 _ rfl; (with_reducible repeat (first | apply bq | apply bd | apply ba)); refine blk_put (cs := #[.string (⟨#[58]⟩ : ByteArray), .string ((rdOf ByteArray.empty l1 (ji56)).extract (x13_58 : Int).toNat ((wrap64 (x13_58 + 1)) : Int).toNat), .int .i64 x211002_58, .string x211003_58]) ?_ 2 _ rfl; (with_reducible repeat (first | apply bq | apply bd | apply ba)); refine blk_put (cs := #[.string (⟨#[58]⟩ : ByteArray), .string x211001_58, .int .i64 x211002_58, .string x211003_58]) ?_ 1 _ rfl; (with_reducible repeat (first | apply bq | apply bd | apply ba)); refine blk_put (cs := #[.string x211000_58, .string x211001_58, .int .i64 x211002_58, .string x211003_58]) ?_ 0 _ rfl; (with_reducible repeat (first | apply bq | apply bd | apply ba)); exact BK210.out) Try.underlying32 rfl (by kernel_rfl) (.cell gb211 29 #[.int .i64 (wrap64 (a2_0 + 1)), .int .i64 0] (0, 0) _ rfl (by (with_reducible repeat (first | apply bq | apply bd | apply ba)); refine blk_put (cs := #[.int .i64 (wrap64 (a2_0 + 1)), .int .i64 x212001_58]) ?_ 1 _ rfl; (with_reducible repeat (first | apply bq | apply bd | apply ba)); refine blk_put (cs := #[.int .i64 x212000_58, .int .i64 x212001_58]) ?_ 0 _ rfl; (with_reducible repeat (first | apply bq | apply bd | apply ba)); refine blk_far ?_ NB211_210.out _; (with_reducible repeat (first | apply bq | apply bd | apply ba)); refine blk_far ?_ NB211_210.out _; (with_reducible repeat (first | apply bq | apply bd | apply ba)); refine blk_far ?_ NB211_210.out _; (with_reducible repeat (first | apply bq | apply bd | apply ba)); refine blk_far ?_ NB211_210.out _; (with_reducible repeat (first | apply bq | apply bd | apply ba)); exact BK211.out) Try.underlying29 rfl (by kernel_rfl) (.tmp .nil)))) rfl ?_
                   exact ⟨by first | rfl | (simp [errW_none, errW_some] <;> rfl) | (simp only [← hji56]; first | rfl | (simp [errW_none, errW_some] <;> rfl)) | (simp [*, errW_none, errW_some] <;> rfl), by repeat (first | (with_reducible first | exact HB.out | apply below_alloc | apply pw_below_drewN | apply below_drew1 | refine below_set ?_ GE209.out | refine below_set ?_ GE210.out | refine below_set ?_ GE211.out | refine below_set ?_ GE214.out | refine below_set ?_ GE216.out) | exact HB.out)⟩
                  ·replace c137 := Bool.eq_false_iff.mpr c137
                   subst c137
                   have H1 : (if 31 + ((rdOf ByteArray.empty l1 (ji56)).extract (x13_58 : Int).toNat ((wrap64 (x13_58 + 1)) : Int).toNat).size ≤ 9223372036854775807 then (some ((⟨#[63]⟩ : ByteArray), (⟨#[]⟩ : ByteArray), 2, (⟨#[111,112,116,105,111,110,32,114,101,113,117,105,114,101,115,32,97,110,32,97,114,103,117,109,101,110,116,32,45,45,32]⟩ : ByteArray) ++ ((rdOf ByteArray.empty l1 (ji56)).extract (x13_58 : Int).toNat ((wrap64 (x13_58 + 1)) : Int).toNat), (wrap64 (a2_0 + 1)), 0, 0)) else (none)) = some (r1, r2, r3, r4, r5, r6, r7) := by rw [if_neg (show ¬ (false = true) by decide)] at H; exact H
                   clear H; have H := H1; clear H1
                   by_cases c150 : 31 + ((rdOf ByteArray.empty l1 (ji56)).extract (x13_58 : Int).toNat ((wrap64 (x13_58 + 1)) : Int).toNat).size ≤ 9223372036854775807
                   ·rw [if_pos c150] at H
                    have c150b0 := eq_true c150
                    have c150b1 : decide (31 + ((rdOf ByteArray.empty l1 (ji56)).extract (x13_58 : Int).toNat ((wrap64 (x13_58 + 1)) : Int).toNat).size ≤ 9223372036854775807) = true := decide_eq_true c150
                    try have c150b2 : (9223372036854775807 < 31 + ((rdOf ByteArray.empty l1 (ji56)).extract (x13_58 : Int).toNat ((wrap64 (x13_58 + 1)) : Int).toNat).size) = False := eq_false (Nat.not_lt.2 c150)
                    try (have c150b3 := c150b2; simp only [ByteArray.size_extract] at c150b3)
                    simp only [Option.some.injEq, Prod.mk.injEq] at H
                    obtain ⟨rfl, rfl, rfl, rfl, rfl, rfl, rfl⟩ := H
                    have hnb151 := NB209_210.out; have hnc151 := NB210_209.out; have hnb152 := NB209_211.out; have hnc152 := NB211_209.out; have hnb153 := NB209_214.out; have hnc153 := NB214_209.out; have hnb154 := NB209_216.out; have hnc154 := NB216_209.out
                    have hcz155_0 : wc.cell? ⟨gb209,0,none⟩ = some (.int .i64 a2_0) := (blk_cell BK209.out 0).trans rfl
                    have hcz155_1 : wc.cell? ⟨gb209,1,none⟩ = some (.int .i64 a2_1) := (blk_cell BK209.out 1).trans rfl
                    have hfz155_0 := blk_frozen BK209.out 0
                    have hfz155_1 := blk_frozen BK209.out 1
                    iterate 6 (try go_wp2; try go_quiet (fail))
                    (try (rw [drewN_self wc]; generalize hq_ : World.drewN wc _ = wc; have n0_ : Aside0 (wc.heap[gb209]? = some (.cells #[.int .i64 a2_0, .int .i64 a2_1] 29 (0, 0))) := ⟨by rw [← hq_]; exact (by (with_reducible repeat (first | apply bq | apply bd | apply ba)); exact BK209.out)⟩; have n1_ : Aside0 (wc.heap[gb210]? = some (.cells #[.string x211000_58, .string x211001_58, .int .i64 x211002_58, .string x211003_58] 32 (0, 0))) := ⟨by rw [← hq_]; exact (by (with_reducible repeat (first | apply bq | apply bd | apply ba)); exact BK210.out)⟩; have n2_ : Aside0 (wc.heap[gb211]? = some (.cells #[.int .i64 x212000_58, .int .i64 x212001_58] 29 (0, 0))) := ⟨by rw [← hq_]; exact (by (with_reducible repeat (first | apply bq | apply bd | apply ba)); exact BK211.out)⟩; have n3_ : Aside0 (wc.heap[gb214]? = some (.cells #[.string (⟨#[63]⟩ : ByteArray), .string (⟨#[]⟩ : ByteArray), .int .i64 1, .string (⟨#[]⟩ : ByteArray)] 32 (0, 0))) := ⟨by rw [← hq_]; exact (by (with_reducible repeat (first | apply bq | apply bd | apply ba)); exact BK214.out)⟩; have n4_ : Aside0 (wc.heap[gb216]? = some (.cells #[.int .i64 (wrap64 (a2_0 + 1)), .int .i64 0] 29 (0, 0))) := ⟨by rw [← hq_]; exact (by (with_reducible repeat (first | apply bq | apply bd | apply ba)); exact BK216.out)⟩; have n5_ : Aside0 (Below w.heap.size w wc) := ⟨by rw [← hq_]; exact (by repeat (first | (with_reducible first | exact HB.out | apply below_alloc | apply pw_below_drewN | apply below_drew1 | refine below_set ?_ GE209.out | refine below_set ?_ GE210.out | refine below_set ?_ GE211.out | refine below_set ?_ GE214.out | refine below_set ?_ GE216.out) | exact HB.out))⟩; clear BK209 BK210 BK211 BK214 BK216 HB hq_; have BK209 := n0_; have BK210 := n1_; have BK211 := n2_; have BK214 := n3_; have BK216 := n4_; have HB := n5_; clear n0_ n1_ n2_ n3_ n4_ n5_))
                    have n0_ := Aside0.mk (blk_drew BK209.out)
                    have n1_ := Aside0.mk (blk_drew BK210.out)
                    have n2_ := Aside0.mk (blk_drew BK211.out)
                    have n3_ := Aside0.mk (blk_drew BK214.out)
                    have n4_ := Aside0.mk (blk_drew BK216.out)
                    have n5_ := Aside0.mk (below_drew1 HB.out)
                    clear BK209; clear BK210; clear BK211; clear BK214; clear BK216; clear HB; have BK209 := n0_; have BK210 := n1_; have BK211 := n2_; have BK214 := n3_; have BK216 := n4_; have HB := n5_; clear n0_ n1_ n2_ n3_ n4_ n5_
                    refine start_ (n := 7) (S := fun w' => w'.cell? ⟨gb216,0,none⟩ = some (.int .i64 (wrap64 (a2_0 + 1))) ∧ w'.cell? ⟨gb216,1,none⟩ = some (.int .i64 0)) (ds := []) #[ff,ff,ff,ff,ff,ff,ff] (by kernel_rfl) rfl rfl ⟨(blk_cell BK216.out 0).trans rfl, (blk_cell BK216.out 1).trans rfl⟩ (fun hHeld => ?_)
                    generalize wc.drew = w156 at BK209 BK210 BK211 BK214 BK216 HB hHeld ⊢
                    refine pure_ (i := 0) (N := some 155) (v := ?_) (a' := ?_) #[tt,ff,ff,ff,ff,ff,ff] rfl rfl (by kernel_rfl) (fun _ _ _ h => h) (Or.inl ⟨by rfl, ?_⟩) ?_ ?_
                    rotate_left
                    ·intro w'
                     go_simp
                     with_reducible rfl
                    rotate_left
                    ·simp only [Act.put, sb_, sz_, ss_, i64_w, i32_w]
                     rfl
                    refine pure_ (i := 1) (N := some 156) (v := ?_) (a' := ?_) #[tt,tt,ff,ff,ff,ff,ff] rfl rfl (by kernel_rfl) (fun _ _ _ h => h) (Or.inl ⟨by rfl, ?_⟩) ?_ ?_
                    rotate_left
                    ·intro w'
                     go_simp
                     with_reducible rfl
                    rotate_left
                    ·simp only [Act.put, sb_, sz_, ss_, i64_w, i32_w]
                     rfl
                    refine pure_ (i := 2) (N := some 157) (v := ?_) (a' := ?_) #[tt,tt,tt,ff,ff,ff,ff] rfl rfl (by kernel_rfl) (fun _ _ _ h => h) (Or.inl ⟨by rfl, ?_⟩) ?_ ?_
                    rotate_left
                    ·intro w'
                     go_simp
                     with_reducible rfl
                    rotate_left
                    ·simp only [Act.put, sb_, sz_, ss_, i64_w, i32_w]
                     rfl
                    refine take_ (i := 3) (N := some 158) (v := ?_) (a' := ?_) #[tt,tt,tt,tt,ff,ff,ff] rfl rfl (by kernel_rfl) (fun _ _ _ h => h) (Or.inl ⟨by rfl, ?_⟩) hHeld ?_ ?_
                    rotate_left
                    ·rintro w' ⟨s0, s1⟩
                     go_simp
                     with_reducible rfl
                    rotate_left
                    ·simp only [Act.put, sb_, sz_, ss_, i64_w, i32_w]
                     rfl
                    refine one_ (i := 4) (N := none) #[tt,tt,tt,tt,tt,ff,ff] rfl rfl (by kernel_rfl) (by decide) (fun K hK => ?_)
                    have hs157 : w156.cell? ⟨gb210,0,none⟩ = some (.string x211000_58) := (blk_cell BK210.out 0).trans rfl
                    have hfs157 := blk_frozen BK210.out 0
                    have hns157_0 := NB209_210.out; have hns157_2 := NB211_210.out; have hns157_3 := NB214_210.out; have hns157_4 := NB216_210.out; have hms157_0 := NB210_209.out; have hms157_2 := NB210_211.out; have hms157_3 := NB210_214.out; have hms157_4 := NB210_216.out
                    have hs158 : w156.cell? ⟨gb210,1,none⟩ = some (.string x211001_58) := (blk_cell BK210.out 1).trans rfl
                    have hfs158 := blk_frozen BK210.out 1
                    have hns158_0 := NB209_210.out; have hns158_2 := NB211_210.out; have hns158_3 := NB214_210.out; have hns158_4 := NB216_210.out; have hms158_0 := NB210_209.out; have hms158_2 := NB210_211.out; have hms158_3 := NB210_214.out; have hms158_4 := NB210_216.out
                    have hs159 : w156.cell? ⟨gb210,2,none⟩ = some (.int .i64 x211002_58) := (blk_cell BK210.out 2).trans rfl
                    have hfs159 := blk_frozen BK210.out 2
                    have hns159_0 := NB209_210.out; have hns159_2 := NB211_210.out; have hns159_3 := NB214_210.out; have hns159_4 := NB216_210.out; have hms159_0 := NB210_209.out; have hms159_2 := NB210_211.out; have hms159_3 := NB210_214.out; have hms159_4 := NB210_216.out
                    have hs160 : w156.cell? ⟨gb210,3,none⟩ = some (.string x211003_58) := (blk_cell BK210.out 3).trans rfl
                    have hfs160 := blk_frozen BK210.out 3
                    have hns160_0 := NB209_210.out; have hns160_2 := NB211_210.out; have hns160_3 := NB214_210.out; have hns160_4 := NB216_210.out; have hms160_0 := NB210_209.out; have hms160_2 := NB210_211.out; have hms160_3 := NB210_214.out; have hms160_4 := NB210_216.out
                    refine skip_ (w1 := (((w156.setCell ⟨gb210,0,none⟩ (.string ⟨#[63]⟩)).setCell ⟨gb210,1,none⟩ (.string ⟨#[]⟩)).setCell ⟨gb210,2,none⟩ (.int .i64 2)).setCell ⟨gb210,3,none⟩ (.string ((⟨#[111,112,116,105,111,110,32,114,101,113,117,105,114,101,115,32,97,110,32,97,114,103,117,109,101,110,116,32,45,45,32]⟩ : ByteArray) ++ (rdOf ByteArray.empty l1 ji56).extract x13_58.toNat (wrap64 (x13_58 + 1)).toNat))) (by rfl) rfl ?_ ?_
                    ·as_aux_lemma => go_simp
                    refine hK.out _ _ ⟨((cell_far (p := ⟨gb210,_,none⟩) NB216_210.out _).trans (((cell_far (p := ⟨gb210,_,none⟩) NB216_210.out _).trans (((cell_far (p := ⟨gb210,_,none⟩) NB216_210.out _).trans (((cell_far (p := ⟨gb210,_,none⟩) NB216_210.out _).trans (hHeld.1)))))))), ((cell_far (p := ⟨gb210,_,none⟩) NB216_210.out _).trans (((cell_far (p := ⟨gb210,_,none⟩) NB216_210.out _).trans (((cell_far (p := ⟨gb210,_,none⟩) NB216_210.out _).trans (((cell_far (p := ⟨gb210,_,none⟩) NB216_210.out _).trans (hHeld.2))))))))⟩ (fun hHeld => ?_)
                    clear hK K
                    refine one_ (i := 5) (N := none) #[tt,tt,tt,tt,tt,tt,ff] rfl rfl (by kernel_rfl) (by decide) (fun K hK => ?_)
                    have hs161 : w156.cell? ⟨gb211,0,none⟩ = some (.int .i64 x212000_58) := (blk_cell BK211.out 0).trans rfl
                    have hfs161 := blk_frozen BK211.out 0
                    have hns161_0 := NB209_211.out; have hns161_1 := NB210_211.out; have hns161_3 := NB214_211.out; have hns161_4 := NB216_211.out; have hms161_0 := NB211_209.out; have hms161_1 := NB211_210.out; have hms161_3 := NB211_214.out; have hms161_4 := NB211_216.out
                    have hs162 : w156.cell? ⟨gb211,1,none⟩ = some (.int .i64 x212001_58) := (blk_cell BK211.out 1).trans rfl
                    have hfs162 := blk_frozen BK211.out 1
                    have hns162_0 := NB209_211.out; have hns162_1 := NB210_211.out; have hns162_3 := NB214_211.out; have hns162_4 := NB216_211.out; have hms162_0 := NB211_209.out; have hms162_1 := NB211_210.out; have hms162_3 := NB211_214.out; have hms162_4 := NB211_216.out
                    refine skip_ (w1 := (((((w156.setCell ⟨gb210,0,none⟩ (.string ⟨#[63]⟩)).setCell ⟨gb210,1,none⟩ (.string ⟨#[]⟩)).setCell ⟨gb210,2,none⟩ (.int .i64 2)).setCell ⟨gb210,3,none⟩ (.string ((⟨#[111,112,116,105,111,110,32,114,101,113,117,105,114,101,115,32,97,110,32,97,114,103,117,109,101,110,116,32,45,45,32]⟩ : ByteArray) ++ (rdOf ByteArray.empty l1 ji56).extract x13_58.toNat (wrap64 (x13_58 + 1)).toNat))).setCell ⟨gb211,0,none⟩ (.int .i64 (wrap64 (a2_0 + 1)))).setCell ⟨gb211,1,none⟩ (.int .i64 0)) (by rfl) rfl ?_ ?_
                    ·as_aux_lemma => go_simp
                    refine hK.out _ _ ⟨((cell_far (p := ⟨gb211,_,none⟩) NB216_211.out _).trans (((cell_far (p := ⟨gb211,_,none⟩) NB216_211.out _).trans (hHeld.1)))), ((cell_far (p := ⟨gb211,_,none⟩) NB216_211.out _).trans (((cell_far (p := ⟨gb211,_,none⟩) NB216_211.out _).trans (hHeld.2))))⟩ (fun hHeld => ?_)
                    clear hK K
                    refine pure_ (i := 6) (N := some 8) (v := ?_) (a' := ?_) #[tt,tt,tt,tt,tt,tt,tt] rfl rfl (by kernel_rfl) (fun _ _ _ h => h) (Or.inl ⟨by rfl, ?_⟩) ?_ ?_
                    rotate_left
                    ·intro w'
                     go_simp
                     with_reducible rfl
                    rotate_left
                    ·simp only [Act.put, sb_, sz_, ss_, i64_w, i32_w]
                     rfl
                    refine done_ (by kernel_rfl) ?_
                    iterate 6 (try go_wp2; try go_quiet (fail))
                    refine bodyPost_ret (results_list (rs := [.cell 6 32, .cell 7 29, .tmp 8]) rfl (by simp) (.cell gb210 32 #[.string (⟨#[63]⟩ : ByteArray), .string (⟨#[]⟩ : ByteArray), .int .i64 2, .string ((⟨#[111,112,116,105,111,110,32,114,101,113,117,105,114,101,115,32,97,110,32,97,114,103,117,109,101,110,116,32,45,45,32]⟩ : ByteArray) ++ ((rdOf ByteArray.empty l1 (ji56)).extract (x13_58 : Int).toNat ((wrap64 (x13_58 + 1)) : Int).toNat))] (0, 0) _ rfl (by (with_reducible repeat (first | apply bq | apply bd | apply ba)); refine blk_far ?_ NB210_211.out _; (with_reducible repeat (first | apply bq | apply bd | apply ba)); refine blk_far ?_ NB210_211.out _; (with_reducible repeat (first | apply bq | apply bd | apply ba)); refine blk_put (cs := #[.string (⟨#[63]⟩ : ByteArray), .string (⟨#[]⟩ : ByteArray), .int .i64 2, .string x211003_58]) ?_ 3 _ rfl; (with_reducible repeat (first | apply bq | apply bd | apply ba)); refine blk_put (cs := #[.string (⟨#[63]⟩ : ByteArray), .string (⟨#[]⟩ : ByteArray), .int .i64 x211002_58, .string x211003_58]) ?_ 2 _ rfl; (with_reducible repeat (first | apply bq | apply bd | apply ba)); refine blk_put (cs := #[.string (⟨#[63]⟩ : ByteArray), .string x211001_58, .int .i64 x211002_58, .string x211003_58]) ?_ 1 _ rfl; (with_reducible repeat (first | apply bq | apply bd | apply ba)); refine blk_put (cs := #[.string x211000_58, .string x211001_58, .int .i64 x211002_58, .string x211003_58]) ?_ 0 _ rfl; (with_reducible repeat (first | apply bq | apply bd | apply ba)); exact BK210.out) Try.underlying32 rfl (by kernel_rfl) (.cell gb211 29 #[.int .i64 (wrap64 (a2_0 + 1)), .int .i64 0] (0, 0) _ rfl (by (with_reducible repeat (first | apply bq | apply bd | apply ba)); refine blk_put (cs := #[.int .i64 (wrap64 (a2_0 + 1)), .int .i64 x212001_58]) ?_ 1 _ rfl; (with_reducible repeat (first | apply bq | apply bd | apply ba)); refine blk_put (cs := #[.int .i64 x212000_58, .int .i64 x212001_58]) ?_ 0 _ rfl; (with_reducible repeat (first | apply bq | apply bd | apply ba)); refine blk_far ?_ NB211_210.out _; (with_reducible repeat (first | apply bq | apply bd | apply ba)); refine blk_far ?_ NB211_210.out _; (with_reducible repeat (first | apply bq | apply bd | apply ba)); refine blk_far ?_ NB211_210.out _; (with_reducible repeat (first | apply bq | apply bd | apply ba)); refine blk_far ?_ NB211_210.out _; (with_reducible repeat (first | apply bq | apply bd | apply ba)); exact BK211.out) Try.underlying29 rfl (by kernel_rfl) (.tmp .nil)))) rfl ?_
                    exact ⟨by first | rfl | (simp [errW_none, errW_some] <;> rfl) | (simp only [← hji56]; first | rfl | (simp [errW_none, errW_some] <;> rfl)) | (simp [*, errW_none, errW_some] <;> rfl), by repeat (first | (with_reducible first | exact HB.out | apply below_alloc | apply pw_below_drewN | apply below_drew1 | refine below_set ?_ GE209.out | refine below_set ?_ GE210.out | refine below_set ?_ GE211.out | refine below_set ?_ GE214.out | refine below_set ?_ GE216.out) | exact HB.out)⟩
                   rw [if_neg c150] at H
                   exact absurd H (by simp)
                 ·replace c111 := Bool.eq_false_iff.mpr c111
                  subst c111
                  have H1 : (if (wrap64 (x13_58 + 1)) < ((rdOf ByteArray.empty l1 (ji56)).size : Int) then (jobshellref16_Next.j5 kj107 x14_96 t217 ((rdOf ByteArray.empty l1 (ji56)).extract (x13_58 : Int).toNat ((wrap64 (x13_58 + 1)) : Int).toNat) a2_0 (wrap64 (x13_58 + 1))) else (jobshellref16_Next.j5 kj107 x14_96 t217 ((rdOf ByteArray.empty l1 (ji56)).extract (x13_58 : Int).toNat ((wrap64 (x13_58 + 1)) : Int).toNat) (wrap64 (a2_0 + 1)) 0)) = some (r1, r2, r3, r4, r5, r6, r7) := by rw [if_neg (show ¬ (false = true) by decide)] at H; exact H
                  clear H; have H := H1; clear H1
                  have HC163 := Aside0.mk H
                  clear H
                  iterate 6 (try (go_upto_if 163 with (fail)); try go_quiet (fail))
                  go_cut [] (fun wc => ∃ (kq : Nat) (x217000_162 : Int) (x217001_162 : Int), Aside0 (jobshellref16_Next.j5 kq x14_96 t217 ((rdOf ByteArray.empty l1 (ji56)).extract (x13_58 : Int).toNat ((wrap64 (x13_58 + 1)) : Int).toNat) x217000_162 x217001_162 = some (r1, r2, r3, r4, r5, r6, r7)) ∧ Aside0 (kq ≤ kj107) ∧ Aside0 (wc.heap[gb209]? = some (.cells #[.int .i64 a2_0, .int .i64 a2_1] 29 (0, 0))) ∧ Aside0 (wc.heap[gb210]? = some (.cells #[.string x211000_58, .string x211001_58, .int .i64 x211002_58, .string x211003_58] 32 (0, 0))) ∧ Aside0 (wc.heap[gb211]? = some (.cells #[.int .i64 x212000_58, .int .i64 x212001_58] 29 (0, 0))) ∧ Aside0 (wc.heap[gb214]? = some (.cells #[.string (⟨#[63]⟩ : ByteArray), .string (⟨#[]⟩ : ByteArray), .int .i64 1, .string (⟨#[]⟩ : ByteArray)] 32 (0, 0))) ∧ Aside0 (wc.heap[gb216]? = some (.cells #[.int .i64 x217000_162, .int .i64 x217001_162] 29 (0, 0))) ∧ Aside0 (Below w.heap.size w wc))
                  case first => as_aux_lemma =>
                   have H := HC163.out; clear HC163
                   by_cases c164 : (wrap64 (x13_58 + 1)) < ((rdOf ByteArray.empty l1 (ji56)).size : Int)
                   ·rw [if_pos c164] at H
                    have c164b0 : decide ((wrap64 (x13_58 + 1)) < ((rdOf ByteArray.empty l1 (ji56)).size : Int)) = true := decide_eq_true c164
                    clear c164
                    (first | rw [c164b0] | (simp only [i64_w, i32_w]; rw [c164b0]) | skip)
                    have H' := Aside0.mk H
                    clear H; have hnb165 := NB209_210.out; have hnc165 := NB210_209.out; have hnb166 := NB209_211.out; have hnc166 := NB211_209.out; have hnb167 := NB209_214.out; have hnc167 := NB214_209.out; have hnb168 := NB209_216.out; have hnc168 := NB216_209.out
                    have hcz169_0 : wc.cell? ⟨gb209,0,none⟩ = some (.int .i64 a2_0) := (blk_cell BK209.out 0).trans rfl
                    have hcz169_1 : wc.cell? ⟨gb209,1,none⟩ = some (.int .i64 a2_1) := (blk_cell BK209.out 1).trans rfl
                    have hfz169_0 := blk_frozen BK209.out 0
                    have hfz169_1 := blk_frozen BK209.out 1
                    have hnb170 := NB216_210.out; have hnc170 := NB210_216.out; have hnb171 := NB216_211.out; have hnc171 := NB211_216.out; have hnb172 := NB216_214.out; have hnc172 := NB214_216.out
                    have hcz173_0 : wc.cell? ⟨gb216,0,none⟩ = some (.int .i64 (wrap64 (a2_0 + 1))) := (blk_cell BK216.out 0).trans rfl
                    have hcz173_1 : wc.cell? ⟨gb216,1,none⟩ = some (.int .i64 0) := (blk_cell BK216.out 1).trans rfl
                    have hfz173_0 := blk_frozen BK216.out 0
                    have hfz173_1 := blk_frozen BK216.out 1
                    iterate 6 (try go_wp2; try go_quiet (fail))
                    go_meet
                    case rel => exact ⟨_, (a2_0), (wrap64 (x13_58 + 1)), H', ⟨by have := HJ5.out; have := HJ58.out; have := HJ96.out; have := HJ107.out; first | omega | exact Nat.le_refl _⟩, ⟨by (with_reducible repeat (first | apply bq | apply bd | apply ba)); refine blk_far ?_ NB209_216.out _; (with_reducible repeat (first | apply bq | apply bd | apply ba)); refine blk_far ?_ NB209_216.out _; (with_reducible repeat (first | apply bq | apply bd | apply ba)); exact BK209.out⟩, ⟨by (with_reducible repeat (first | apply bq | apply bd | apply ba)); refine blk_far ?_ NB210_216.out _; (with_reducible repeat (first | apply bq | apply bd | apply ba)); refine blk_far ?_ NB210_216.out _; (with_reducible repeat (first | apply bq | apply bd | apply ba)); exact BK210.out⟩, ⟨by (with_reducible repeat (first | apply bq | apply bd | apply ba)); refine blk_far ?_ NB211_216.out _; (with_reducible repeat (first | apply bq | apply bd | apply ba)); refine blk_far ?_ NB211_216.out _; (with_reducible repeat (first | apply bq | apply bd | apply ba)); exact BK211.out⟩, ⟨by (with_reducible repeat (first | apply bq | apply bd | apply ba)); refine blk_far ?_ NB214_216.out _; (with_reducible repeat (first | apply bq | apply bd | apply ba)); refine blk_far ?_ NB214_216.out _; (with_reducible repeat (first | apply bq | apply bd | apply ba)); exact BK214.out⟩, ⟨by (with_reducible repeat (first | apply bq | apply bd | apply ba)); refine blk_put (cs := #[.int .i64 a2_0, .int .i64 0]) ?_ 1 _ rfl; (with_reducible repeat (first | apply bq | apply bd | apply ba)); refine blk_put (cs := #[.int .i64 (wrap64 (a2_0 + 1)), .int .i64 0]) ?_ 0 _ rfl; (with_reducible repeat (first | apply bq | apply bd | apply ba)); exact BK216.out⟩, ⟨by repeat (first | (with_reducible first | exact HB.out | apply below_alloc | apply pw_below_drewN | apply below_drew1 | refine below_set ?_ GE209.out | refine below_set ?_ GE210.out | refine below_set ?_ GE211.out | refine below_set ?_ GE214.out | refine below_set ?_ GE216.out) | exact HB.out)⟩⟩
                   rw [if_neg c164] at H
                   have c164b0 : decide ((wrap64 (x13_58 + 1)) < ((rdOf ByteArray.empty l1 (ji56)).size : Int)) = false := decide_eq_false c164
                   clear c164
                   (first | rw [c164b0] | (simp only [i64_w, i32_w]; rw [c164b0]) | skip)
                   have H' := Aside0.mk H
                   clear H
                   iterate 6 (try go_wp2; try go_quiet (fail))
                   go_meet
                   case rel => exact ⟨_, ((wrap64 (a2_0 + 1))), (0), H', ⟨by have := HJ5.out; have := HJ58.out; have := HJ96.out; have := HJ107.out; first | omega | exact Nat.le_refl _⟩, ⟨by (with_reducible repeat (first | apply bq | apply bd | apply ba)); exact BK209.out⟩, ⟨by (with_reducible repeat (first | apply bq | apply bd | apply ba)); exact BK210.out⟩, ⟨by (with_reducible repeat (first | apply bq | apply bd | apply ba)); exact BK211.out⟩, ⟨by (with_reducible repeat (first | apply bq | apply bd | apply ba)); exact BK214.out⟩, ⟨by (with_reducible repeat (first | apply bq | apply bd | apply ba)); exact BK216.out⟩, ⟨by repeat (first | (with_reducible first | exact HB.out | apply below_alloc | apply pw_below_drewN | apply below_drew1 | refine below_set ?_ GE209.out | refine below_set ?_ GE210.out | refine below_set ?_ GE211.out | refine below_set ?_ GE214.out | refine below_set ?_ GE216.out) | exact HB.out)⟩⟩
                  case rest => as_aux_lemma =>
                   clear HC163; (try clear c1); (try clear p2); (try clear q2); (try clear hx2); (try clear p6); (try clear c11); (try clear c12); (try clear c13); (try clear c14); (try clear c15); (try clear c16); (try clear c17); (try clear p21); (try clear q21); (try clear hx21); (try clear p64); (try clear c111); (try clear c123); (try clear c123b0); (try clear c124); (try clear c125); (try clear c126); (try clear c127); (try clear c128); (try clear c137); (try clear c138); (try clear c139); (try clear c140); (try clear c141); (try clear c150); (try clear c150b0); (try clear c150b1); (try clear c150b2); (try clear c151); (try clear c152); (try clear c153); (try clear c154); (try clear c164); (try clear c164b0); (try clear c165); (try clear c166); (try clear c167); (try clear c168); (try clear c170); (try clear c171); (try clear c172); (try clear hcz129_0); (try clear hcz129_1); (try clear hcz142_0); (try clear hcz142_1); (try clear hcz155_0); (try clear hcz155_1); (try clear hcz169_0); (try clear hcz169_1); (try clear hcz173_0); (try clear hcz173_1); (try clear hfz129_0); (try clear hfz129_1); (try clear hfz142_0); (try clear hfz142_1); (try clear hfz155_0); (try clear hfz155_1); (try clear hfz169_0); (try clear hfz169_1); (try clear hfz173_0); (try clear hfz173_1); (try clear hx219_0); (try clear p219); (try clear q219)
                   obtain ⟨kq, x217000_162, x217001_162, HA, HJ162, BK209, BK210, BK211, BK214, BK216, HB⟩ := hcut
                   cases kq with
                   | zero => exact absurd HA.out (by simp [jobshellref16_Next.j5])
                   | succ kj162 =>
                    have H := HA.out; clear HA
                    simp only [jobshellref16_Next.j5] at H
                    by_cases c174 : t217 = true
                    ·subst c174
                     have H1 : (some (((rdOf ByteArray.empty l1 (ji56)).extract (x13_58 : Int).toNat ((wrap64 (x13_58 + 1)) : Int).toNat), (⟨#[]⟩ : ByteArray), 0, (⟨#[]⟩ : ByteArray), x217000_162, x217001_162, 0)) = some (r1, r2, r3, r4, r5, r6, r7) := by rw [if_pos rfl] at H; exact H
                     clear H; have H := H1; clear H1
                     simp only [Option.some.injEq, Prod.mk.injEq] at H
                     obtain ⟨rfl, rfl, rfl, rfl, rfl, rfl, rfl⟩ := H
                     iterate 6 (try go_wp2; try go_quiet (fail))
                     (try (rw [drewN_self wc]; generalize hq_ : World.drewN wc _ = wc; have n0_ : Aside0 (wc.heap[gb209]? = some (.cells #[.int .i64 a2_0, .int .i64 a2_1] 29 (0, 0))) := ⟨by rw [← hq_]; exact (by (with_reducible repeat (first | apply bq | apply bd | apply ba)); exact BK209.out)⟩; have n1_ : Aside0 (wc.heap[gb210]? = some (.cells #[.string x211000_58, .string x211001_58, .int .i64 x211002_58, .string x211003_58] 32 (0, 0))) := ⟨by rw [← hq_]; exact (by (with_reducible repeat (first | apply bq | apply bd | apply ba)); exact BK210.out)⟩; have n2_ : Aside0 (wc.heap[gb211]? = some (.cells #[.int .i64 x212000_58, .int .i64 x212001_58] 29 (0, 0))) := ⟨by rw [← hq_]; exact (by (with_reducible repeat (first | apply bq | apply bd | apply ba)); exact BK211.out)⟩; have n3_ : Aside0 (wc.heap[gb214]? = some (.cells #[.string (⟨#[63]⟩ : ByteArray), .string (⟨#[]⟩ : ByteArray), .int .i64 1, .string (⟨#[]⟩ : ByteArray)] 32 (0, 0))) := ⟨by rw [← hq_]; exact (by (with_reducible repeat (first | apply bq | apply bd | apply ba)); exact BK214.out)⟩; have n4_ : Aside0 (wc.heap[gb216]? = some (.cells #[.int .i64 x217000_162, .int .i64 x217001_162] 29 (0, 0))) := ⟨by rw [← hq_]; exact (by (with_reducible repeat (first | apply bq | apply bd | apply ba)); exact BK216.out)⟩; have n5_ : Aside0 (Below w.heap.size w wc) := ⟨by rw [← hq_]; exact (by repeat (first | (with_reducible first | exact HB.out | apply below_alloc | apply pw_below_drewN | apply below_drew1 | refine below_set ?_ GE209.out | refine below_set ?_ GE210.out | refine below_set ?_ GE211.out | refine below_set ?_ GE214.out | refine below_set ?_ GE216.out) | exact HB.out))⟩; clear BK209 BK210 BK211 BK214 BK216 HB hq_; have BK209 := n0_; have BK210 := n1_; have BK211 := n2_; have BK214 := n3_; have BK216 := n4_; have HB := n5_; clear n0_ n1_ n2_ n3_ n4_ n5_))
                     have n0_ := Aside0.mk (blk_drew BK209.out)
                     have n1_ := Aside0.mk (blk_drew BK210.out)
                     have n2_ := Aside0.mk (blk_drew BK211.out)
                     have n3_ := Aside0.mk (blk_drew BK214.out)
                     have n4_ := Aside0.mk (blk_drew BK216.out)
                     have n5_ := Aside0.mk (below_drew1 HB.out)
                     clear BK209; clear BK210; clear BK211; clear BK214; clear BK216; clear HB; have BK209 := n0_; have BK210 := n1_; have BK211 := n2_; have BK214 := n3_; have BK216 := n4_; have HB := n5_; clear n0_ n1_ n2_ n3_ n4_ n5_
                     refine start_ (n := 6) (S := fun w' => w'.cell? ⟨gb216,0,none⟩ = some (.int .i64 x217000_162) ∧ w'.cell? ⟨gb216,1,none⟩ = some (.int .i64 x217001_162)) (ds := []) #[ff,ff,ff,ff,ff,ff] (by kernel_rfl) rfl rfl ⟨(blk_cell BK216.out 0).trans rfl, (blk_cell BK216.out 1).trans rfl⟩ (fun hHeld => ?_)
                     generalize wc.drew = w175 at BK209 BK210 BK211 BK214 BK216 HB hHeld ⊢
                     refine pure_ (i := 0) (N := some 170) (v := ?_) (a' := ?_) #[tt,ff,ff,ff,ff,ff] rfl rfl (by kernel_rfl) (fun _ _ _ h => h) (Or.inl ⟨by rfl, ?_⟩) ?_ ?_
                     rotate_left
                     ·intro w'
                      go_simp
                      with_reducible rfl
                     rotate_left
                     ·simp only [Act.put, sb_, sz_, ss_, i64_w, i32_w]
                      rfl
                     refine pure_ (i := 1) (N := some 171) (v := ?_) (a' := ?_) #[tt,tt,ff,ff,ff,ff] rfl rfl (by kernel_rfl) (fun _ _ _ h => h) (Or.inl ⟨by rfl, ?_⟩) ?_ ?_
                     rotate_left
                     ·intro w'
                      go_simp
                      with_reducible rfl
                     rotate_left
                     ·simp only [Act.put, sb_, sz_, ss_, i64_w, i32_w]
                      rfl
                     refine take_ (i := 2) (N := some 172) (v := ?_) (a' := ?_) #[tt,tt,tt,ff,ff,ff] rfl rfl (by kernel_rfl) (fun _ _ _ h => h) (Or.inl ⟨by rfl, ?_⟩) hHeld ?_ ?_
                     rotate_left
                     ·rintro w' ⟨s0, s1⟩
                      go_simp
                      with_reducible rfl
                     rotate_left
                     ·simp only [Act.put, sb_, sz_, ss_, i64_w, i32_w]
                      rfl
                     refine one_ (i := 3) (N := none) #[tt,tt,tt,tt,ff,ff] rfl rfl (by kernel_rfl) (by decide) (fun K hK => ?_)
                     have hs176 : w175.cell? ⟨gb210,0,none⟩ = some (.string x211000_58) := (blk_cell BK210.out 0).trans rfl
                     have hfs176 := blk_frozen BK210.out 0
                     have hns176_0 := NB209_210.out; have hns176_2 := NB211_210.out; have hns176_3 := NB214_210.out; have hns176_4 := NB216_210.out; have hms176_0 := NB210_209.out; have hms176_2 := NB210_211.out; have hms176_3 := NB210_214.out; have hms176_4 := NB210_216.out
                     have hs177 : w175.cell? ⟨gb210,1,none⟩ = some (.string x211001_58) := (blk_cell BK210.out 1).trans rfl
                     have hfs177 := blk_frozen BK210.out 1
                     have hns177_0 := NB209_210.out; have hns177_2 := NB211_210.out; have hns177_3 := NB214_210.out; have hns177_4 := NB216_210.out; have hms177_0 := NB210_209.out; have hms177_2 := NB210_211.out; have hms177_3 := NB210_214.out; have hms177_4 := NB210_216.out
                     have hs178 : w175.cell? ⟨gb210,2,none⟩ = some (.int .i64 x211002_58) := (blk_cell BK210.out 2).trans rfl
                     have hfs178 := blk_frozen BK210.out 2
                     have hns178_0 := NB209_210.out; have hns178_2 := NB211_210.out; have hns178_3 := NB214_210.out; have hns178_4 := NB216_210.out; have hms178_0 := NB210_209.out; have hms178_2 := NB210_211.out; have hms178_3 := NB210_214.out; have hms178_4 := NB210_216.out
                     have hs179 : w175.cell? ⟨gb210,3,none⟩ = some (.string x211003_58) := (blk_cell BK210.out 3).trans rfl
                     have hfs179 := blk_frozen BK210.out 3
                     have hns179_0 := NB209_210.out; have hns179_2 := NB211_210.out; have hns179_3 := NB214_210.out; have hns179_4 := NB216_210.out; have hms179_0 := NB210_209.out; have hms179_2 := NB210_211.out; have hms179_3 := NB210_214.out; have hms179_4 := NB210_216.out
                     refine skip_ (w1 := (((w175.setCell ⟨gb210,0,none⟩ (.string ((rdOf ByteArray.empty l1 ji56).extract x13_58.toNat (wrap64 (x13_58 + 1)).toNat))).setCell ⟨gb210,1,none⟩ (.string ⟨#[]⟩)).setCell ⟨gb210,2,none⟩ (.int .i64 0)).setCell ⟨gb210,3,none⟩ (.string ⟨#[]⟩)) (by rfl) rfl ?_ ?_
                     ·as_aux_lemma => go_simp
                     refine hK.out _ _ ⟨((cell_far (p := ⟨gb210,_,none⟩) NB216_210.out _).trans (((cell_far (p := ⟨gb210,_,none⟩) NB216_210.out _).trans (((cell_far (p := ⟨gb210,_,none⟩) NB216_210.out _).trans (((cell_far (p := ⟨gb210,_,none⟩) NB216_210.out _).trans (hHeld.1)))))))), ((cell_far (p := ⟨gb210,_,none⟩) NB216_210.out _).trans (((cell_far (p := ⟨gb210,_,none⟩) NB216_210.out _).trans (((cell_far (p := ⟨gb210,_,none⟩) NB216_210.out _).trans (((cell_far (p := ⟨gb210,_,none⟩) NB216_210.out _).trans (hHeld.2))))))))⟩ (fun hHeld => ?_)
                     clear hK K
                     refine one_ (i := 4) (N := none) #[tt,tt,tt,tt,tt,ff] rfl rfl (by kernel_rfl) (by decide) (fun K hK => ?_)
                     have hs180 : w175.cell? ⟨gb211,0,none⟩ = some (.int .i64 x212000_58) := (blk_cell BK211.out 0).trans rfl
                     have hfs180 := blk_frozen BK211.out 0
                     have hns180_0 := NB209_211.out; have hns180_1 := NB210_211.out; have hns180_3 := NB214_211.out; have hns180_4 := NB216_211.out; have hms180_0 := NB211_209.out; have hms180_1 := NB211_210.out; have hms180_3 := NB211_214.out; have hms180_4 := NB211_216.out
                     have hs181 : w175.cell? ⟨gb211,1,none⟩ = some (.int .i64 x212001_58) := (blk_cell BK211.out 1).trans rfl
                     have hfs181 := blk_frozen BK211.out 1
                     have hns181_0 := NB209_211.out; have hns181_1 := NB210_211.out; have hns181_3 := NB214_211.out; have hns181_4 := NB216_211.out; have hms181_0 := NB211_209.out; have hms181_1 := NB211_210.out; have hms181_3 := NB211_214.out; have hms181_4 := NB211_216.out
                     refine skip_ (w1 := (((((w175.setCell ⟨gb210,0,none⟩ (.string ((rdOf ByteArray.empty l1 ji56).extract x13_58.toNat (wrap64 (x13_58 + 1)).toNat))).setCell ⟨gb210,1,none⟩ (.string ⟨#[]⟩)).setCell ⟨gb210,2,none⟩ (.int .i64 0)).setCell ⟨gb210,3,none⟩ (.string ⟨#[]⟩)).setCell ⟨gb211,0,none⟩ (.int .i64 x217000_162)).setCell ⟨gb211,1,none⟩ (.int .i64 x217001_162)) (by rfl) rfl ?_ ?_
                     ·as_aux_lemma => go_simp
                     refine hK.out _ _ ⟨((cell_far (p := ⟨gb211,_,none⟩) NB216_211.out _).trans (((cell_far (p := ⟨gb211,_,none⟩) NB216_211.out _).trans (hHeld.1)))), ((cell_far (p := ⟨gb211,_,none⟩) NB216_211.out _).trans (((cell_far (p := ⟨gb211,_,none⟩) NB216_211.out _).trans (hHeld.2))))⟩ (fun hHeld => ?_)
                     clear hK K
                     refine pure_ (i := 5) (N := some 8) (v := ?_) (a' := ?_) #[tt,tt,tt,tt,tt,tt] rfl rfl (by kernel_rfl) (fun _ _ _ h => h) (Or.inl ⟨by rfl, ?_⟩) ?_ ?_
                     rotate_left
                     ·intro w'
                      go_simp
                      with_reducible rfl
                     rotate_left
                     ·simp only [Act.put, sb_, sz_, ss_, i64_w, i32_w]
                      rfl
                     refine done_ (by kernel_rfl) ?_
                     iterate 6 (try go_wp2; try go_quiet (fail))
                     refine bodyPost_ret (results_list (rs := [.cell 6 32, .cell 7 29, .tmp 8]) rfl (by simp) (.cell gb210 32 #[.string ((rdOf ByteArray.empty l1 (ji56)).extract (x13_58 : Int).toNat ((wrap64 (x13_58 + 1)) : Int).toNat), .string (⟨#[]⟩ : ByteArray), .int .i64 0, .string (⟨#[]⟩ : ByteArray)] (0, 0) _ rfl (by (with_reducible repeat (first | apply bq | apply bd | apply ba)); refine blk_far ?_ NB210_211.out _; (with_reducible repeat (first | apply bq | apply bd | apply ba)); refine blk_far ?_ NB210_211.out _; (with_reducible repeat (first | apply bq | apply bd | apply ba)); refine blk_put (cs := #[.string ((rdOf ByteArray.empty l1 (ji56)).extract (x13_58 : Int).toNat ((wrap64 (x13_58 + 1)) : Int).toNat), .string (⟨#[]⟩ : ByteArray), .int .i64 0, .string x211003_58]) ?_ 3 _ rfl; (with_reducible repeat (first | apply bq | apply bd | apply ba)); refine blk_put (cs := #[.string ((rdOf ByteArray.empty l1 (ji56)).extract (x13_58 : Int).toNat ((wrap64 (x13_58 + 1)) : Int).toNat), .string (⟨#[]⟩ : ByteArray), .int .i64 x211002_58, .string x211003_58]) ?_ 2 _ rfl; (with_reducible repeat (first | apply bq | apply bd | apply ba)); refine blk_put (cs := #[.string ((rdOf ByteArray.empty l1 (ji56)).extract (x13_58 : Int).toNat ((wrap64 (x13_58 + 1)) : Int).toNat), .string x211001_58, .int .i64 x211002_58, .string x211003_58]) ?_ 1 _ rfl; (with_reducible repeat (first | apply bq | apply bd | apply ba)); refine blk_put (cs := #[.string x211000_58, .string x211001_58, .int .i64 x211002_58, .string x211003_58]) ?_ 0 _ rfl; (with_reducible repeat (first | apply bq | apply bd | apply ba)); exact BK210.out) Try.underlying32 rfl (by kernel_rfl) (.cell gb211 29 #[.int .i64 x217000_162, .int .i64 x217001_162] (0, 0) _ rfl (by (with_reducible repeat (first | apply bq | apply bd | apply ba)); refine blk_put (cs := #[.int .i64 x217000_162, .int .i64 x212001_58]) ?_ 1 _ rfl; (with_reducible repeat (first | apply bq | apply bd | apply ba)); refine blk_put (cs := #[.int .i64 x212000_58, .int .i64 x212001_58]) ?_ 0 _ rfl; (with_reducible repeat (first | apply bq | apply bd | apply ba)); refine blk_far ?_ NB211_210.out _; (with_reducible repeat (first | apply bq | apply bd | apply ba)); refine blk_far ?_ NB211_210.out _; (with_reducible repeat (first | apply bq | apply bd | apply ba)); refine blk_far ?_ NB211_210.out _; (with_reducible repeat (first | apply bq | apply bd | apply ba)); refine blk_far ?_ NB211_210.out _; (with_reducible repeat (first | apply bq | apply bd | apply ba)); exact BK211.out) Try.underlying29 rfl (by kernel_rfl) (.tmp .nil)))) rfl ?_
                     exact ⟨by first | rfl | (simp [errW_none, errW_some] <;> rfl) | (simp only [← hji56]; first | rfl | (simp [errW_none, errW_some] <;> rfl)) | (simp [*, errW_none, errW_some] <;> rfl), by repeat (first | (with_reducible first | exact HB.out | apply below_alloc | apply pw_below_drewN | apply below_drew1 | refine below_set ?_ GE209.out | refine below_set ?_ GE210.out | refine below_set ?_ GE211.out | refine below_set ?_ GE214.out | refine below_set ?_ GE216.out) | exact HB.out)⟩
                    ·replace c174 := Bool.eq_false_iff.mpr c174
                     subst c174
                     have H1 : (if x14_96 = true then (some ((⟨#[63]⟩ : ByteArray), ((rdOf ByteArray.empty l1 (ji56)).extract (x13_58 : Int).toNat ((wrap64 (x13_58 + 1)) : Int).toNat), 2, (⟨#[]⟩ : ByteArray), x217000_162, x217001_162, 0)) else (if 18 + ((rdOf ByteArray.empty l1 (ji56)).extract (x13_58 : Int).toNat ((wrap64 (x13_58 + 1)) : Int).toNat).size ≤ 9223372036854775807 then (some ((⟨#[63]⟩ : ByteArray), (⟨#[]⟩ : ByteArray), 2, (⟨#[105,108,108,101,103,97,108,32,111,112,116,105,111,110,32,45,45,32]⟩ : ByteArray) ++ ((rdOf ByteArray.empty l1 (ji56)).extract (x13_58 : Int).toNat ((wrap64 (x13_58 + 1)) : Int).toNat), x217000_162, x217001_162, 0)) else (none))) = some (r1, r2, r3, r4, r5, r6, r7) := by rw [if_neg (show ¬ (false = true) by decide)] at H; exact H
                     clear H; have H := H1; clear H1
                     by_cases c182 : x14_96 = true
                     ·subst c182
                      have H1 : (some ((⟨#[63]⟩ : ByteArray), ((rdOf ByteArray.empty l1 (ji56)).extract (x13_58 : Int).toNat ((wrap64 (x13_58 + 1)) : Int).toNat), 2, (⟨#[]⟩ : ByteArray), x217000_162, x217001_162, 0)) = some (r1, r2, r3, r4, r5, r6, r7) := by rw [if_pos rfl] at H; exact H
                      clear H; have H := H1; clear H1
                      simp only [Option.some.injEq, Prod.mk.injEq] at H
                      obtain ⟨rfl, rfl, rfl, rfl, rfl, rfl, rfl⟩ := H
                      iterate 6 (try go_wp2; try go_quiet (fail))
                      (try (rw [drewN_self wc]; generalize hq_ : World.drewN wc _ = wc; have n0_ : Aside0 (wc.heap[gb209]? = some (.cells #[.int .i64 a2_0, .int .i64 a2_1] 29 (0, 0))) := ⟨by rw [← hq_]; exact (by (with_reducible repeat (first | apply bq | apply bd | apply ba)); exact BK209.out)⟩; have n1_ : Aside0 (wc.heap[gb210]? = some (.cells #[.string x211000_58, .string x211001_58, .int .i64 x211002_58, .string x211003_58] 32 (0, 0))) := ⟨by rw [← hq_]; exact (by (with_reducible repeat (first | apply bq | apply bd | apply ba)); exact BK210.out)⟩; have n2_ : Aside0 (wc.heap[gb211]? = some (.cells #[.int .i64 x212000_58, .int .i64 x212001_58] 29 (0, 0))) := ⟨by rw [← hq_]; exact (by (with_reducible repeat (first | apply bq | apply bd | apply ba)); exact BK211.out)⟩; have n3_ : Aside0 (wc.heap[gb214]? = some (.cells #[.string (⟨#[63]⟩ : ByteArray), .string (⟨#[]⟩ : ByteArray), .int .i64 1, .string (⟨#[]⟩ : ByteArray)] 32 (0, 0))) := ⟨by rw [← hq_]; exact (by (with_reducible repeat (first | apply bq | apply bd | apply ba)); exact BK214.out)⟩; have n4_ : Aside0 (wc.heap[gb216]? = some (.cells #[.int .i64 x217000_162, .int .i64 x217001_162] 29 (0, 0))) := ⟨by rw [← hq_]; exact (by (with_reducible repeat (first | apply bq | apply bd | apply ba)); exact BK216.out)⟩; have n5_ : Aside0 (Below w.heap.size w wc) := ⟨by rw [← hq_]; exact (by repeat (first | (with_reducible first | exact HB.out | apply below_alloc | apply pw_below_drewN | apply below_drew1 | refine below_set ?_ GE209.out | refine below_set ?_ GE210.out | refine below_set ?_ GE211.out | refine below_set ?_ GE214.out | refine below_set ?_ GE216.out) | exact HB.out))⟩; clear BK209 BK210 BK211 BK214 BK216 HB hq_; have BK209 := n0_; have BK210 := n1_; have BK211 := n2_; have BK214 := n3_; have BK216 := n4_; have HB := n5_; clear n0_ n1_ n2_ n3_ n4_ n5_))
                      have n0_ := Aside0.mk (blk_drew BK209.out)
                      have n1_ := Aside0.mk (blk_drew BK210.out)
                      have n2_ := Aside0.mk (blk_drew BK211.out)
                      have n3_ := Aside0.mk (blk_drew BK214.out)
                      have n4_ := Aside0.mk (blk_drew BK216.out)
                      have n5_ := Aside0.mk (below_drew1 HB.out)
                      clear BK209; clear BK210; clear BK211; clear BK214; clear BK216; clear HB; have BK209 := n0_; have BK210 := n1_; have BK211 := n2_; have BK214 := n3_; have BK216 := n4_; have HB := n5_; clear n0_ n1_ n2_ n3_ n4_ n5_
                      refine start_ (n := 6) (S := fun w' => w'.cell? ⟨gb216,0,none⟩ = some (.int .i64 x217000_162) ∧ w'.cell? ⟨gb216,1,none⟩ = some (.int .i64 x217001_162)) (ds := []) #[ff,ff,ff,ff,ff,ff] (by kernel_rfl) rfl rfl ⟨(blk_cell BK216.out 0).trans rfl, (blk_cell BK216.out 1).trans rfl⟩ (fun hHeld => ?_)
                      generalize wc.drew = w183 at BK209 BK210 BK211 BK214 BK216 HB hHeld ⊢
                      refine pure_ (i := 0) (N := some 174) (v := ?_) (a' := ?_) #[tt,ff,ff,ff,ff,ff] rfl rfl (by kernel_rfl) (fun _ _ _ h => h) (Or.inl ⟨by rfl, ?_⟩) ?_ ?_
                      rotate_left
                      ·intro w'
                       go_simp
                       with_reducible rfl
                      rotate_left
                      ·simp only [Act.put, sb_, sz_, ss_, i64_w, i32_w]
                       rfl
                      refine pure_ (i := 1) (N := some 175) (v := ?_) (a' := ?_) #[tt,tt,ff,ff,ff,ff] rfl rfl (by kernel_rfl) (fun _ _ _ h => h) (Or.inl ⟨by rfl, ?_⟩) ?_ ?_
                      rotate_left
                      ·intro w'
                       go_simp
                       with_reducible rfl
                      rotate_left
                      ·simp only [Act.put, sb_, sz_, ss_, i64_w, i32_w]
                       rfl
                      refine take_ (i := 2) (N := some 176) (v := ?_) (a' := ?_) #[tt,tt,tt,ff,ff,ff] rfl rfl (by kernel_rfl) (fun _ _ _ h => h) (Or.inl ⟨by rfl, ?_⟩) hHeld ?_ ?_
                      rotate_left
                      ·rintro w' ⟨s0, s1⟩
                       go_simp
                       with_reducible rfl
                      rotate_left
                      ·simp only [Act.put, sb_, sz_, ss_, i64_w, i32_w]
                       rfl
                      refine one_ (i := 3) (N := none) #[tt,tt,tt,tt,ff,ff] rfl rfl (by kernel_rfl) (by decide) (fun K hK => ?_)
                      have hs184 : w183.cell? ⟨gb210,0,none⟩ = some (.string x211000_58) := (blk_cell BK210.out 0).trans rfl
                      have hfs184 := blk_frozen BK210.out 0
                      have hns184_0 := NB209_210.out; have hns184_2 := NB211_210.out; have hns184_3 := NB214_210.out; have hns184_4 := NB216_210.out; have hms184_0 := NB210_209.out; have hms184_2 := NB210_211.out; have hms184_3 := NB210_214.out; have hms184_4 := NB210_216.out
                      have hs185 : w183.cell? ⟨gb210,1,none⟩ = some (.string x211001_58) := (blk_cell BK210.out 1).trans rfl
                      have hfs185 := blk_frozen BK210.out 1
                      have hns185_0 := NB209_210.out; have hns185_2 := NB211_210.out; have hns185_3 := NB214_210.out; have hns185_4 := NB216_210.out; have hms185_0 := NB210_209.out; have hms185_2 := NB210_211.out; have hms185_3 := NB210_214.out; have hms185_4 := NB210_216.out
                      have hs186 : w183.cell? ⟨gb210,2,none⟩ = some (.int .i64 x211002_58) := (blk_cell BK210.out 2).trans rfl
                      have hfs186 := blk_frozen BK210.out 2
                      have hns186_0 := NB209_210.out; have hns186_2 := NB211_210.out; have hns186_3 := NB214_210.out; have hns186_4 := NB216_210.out; have hms186_0 := NB210_209.out; have hms186_2 := NB210_211.out; have hms186_3 := NB210_214.out; have hms186_4 := NB210_216.out
                      have hs187 : w183.cell? ⟨gb210,3,none⟩ = some (.string x211003_58) := (blk_cell BK210.out 3).trans rfl
                      have hfs187 := blk_frozen BK210.out 3
                      have hns187_0 := NB209_210.out; have hns187_2 := NB211_210.out; have hns187_3 := NB214_210.out; have hns187_4 := NB216_210.out; have hms187_0 := NB210_209.out; have hms187_2 := NB210_211.out; have hms187_3 := NB210_214.out; have hms187_4 := NB210_216.out
                      refine skip_ (w1 := (((w183.setCell ⟨gb210,0,none⟩ (.string ⟨#[63]⟩)).setCell ⟨gb210,1,none⟩ (.string ((rdOf ByteArray.empty l1 ji56).extract x13_58.toNat (wrap64 (x13_58 + 1)).toNat))).setCell ⟨gb210,2,none⟩ (.int .i64 2)).setCell ⟨gb210,3,none⟩ (.string ⟨#[]⟩)) (by rfl) rfl ?_ ?_
                      ·as_aux_lemma => go_simp
                      refine hK.out _ _ ⟨((cell_far (p := ⟨gb210,_,none⟩) NB216_210.out _).trans (((cell_far (p := ⟨gb210,_,none⟩) NB216_210.out _).trans (((cell_far (p := ⟨gb210,_,none⟩) NB216_210.out _).trans (((cell_far (p := ⟨gb210,_,none⟩) NB216_210.out _).trans (hHeld.1)))))))), ((cell_far (p := ⟨gb210,_,none⟩) NB216_210.out _).trans (((cell_far (p := ⟨gb210,_,none⟩) NB216_210.out _).trans (((cell_far (p := ⟨gb210,_,none⟩) NB216_210.out _).trans (((cell_far (p := ⟨gb210,_,none⟩) NB216_210.out _).trans (hHeld.2))))))))⟩ (fun hHeld => ?_)
                      clear hK K
                      refine one_ (i := 4) (N := none) #[tt,tt,tt,tt,tt,ff] rfl rfl (by kernel_rfl) (by decide) (fun K hK => ?_)
                      have hs188 : w183.cell? ⟨gb211,0,none⟩ = some (.int .i64 x212000_58) := (blk_cell BK211.out 0).trans rfl
                      have hfs188 := blk_frozen BK211.out 0
                      have hns188_0 := NB209_211.out; have hns188_1 := NB210_211.out; have hns188_3 := NB214_211.out; have hns188_4 := NB216_211.out; have hms188_0 := NB211_209.out; have hms188_1 := NB211_210.out; have hms188_3 := NB211_214.out; have hms188_4 := NB211_216.out
                      have hs189 : w183.cell? ⟨gb211,1,none⟩ = some (.int .i64 x212001_58) := (blk_cell BK211.out 1).trans rfl
                      have hfs189 := blk_frozen BK211.out 1
                      have hns189_0 := NB209_211.out; have hns189_1 := NB210_211.out; have hns189_3 := NB214_211.out; have hns189_4 := NB216_211.out; have hms189_0 := NB211_209.out; have hms189_1 := NB211_210.out; have hms189_3 := NB211_214.out; have hms189_4 := NB211_216.out
                      refine skip_ (w1 := (((((w183.setCell ⟨gb210,0,none⟩ (.string ⟨#[63]⟩)).setCell ⟨gb210,1,none⟩ (.string ((rdOf ByteArray.empty l1 ji56).extract x13_58.toNat (wrap64 (x13_58 + 1)).toNat))).setCell ⟨gb210,2,none⟩ (.int .i64 2)).setCell ⟨gb210,3,none⟩ (.string ⟨#[]⟩)).setCell ⟨gb211,0,none⟩ (.int .i64 x217000_162)).setCell ⟨gb211,1,none⟩ (.int .i64 x217001_162)) (by rfl) rfl ?_ ?_
                      ·as_aux_lemma => go_simp
                      refine hK.out _ _ ⟨((cell_far (p := ⟨gb211,_,none⟩) NB216_211.out _).trans (((cell_far (p := ⟨gb211,_,none⟩) NB216_211.out _).trans (hHeld.1)))), ((cell_far (p := ⟨gb211,_,none⟩) NB216_211.out _).trans (((cell_far (p := ⟨gb211,_,none⟩) NB216_211.out _).trans (hHeld.2))))⟩ (fun hHeld => ?_)
                      clear hK K
                      refine pure_ (i := 5) (N := some 8) (v := ?_) (a' := ?_) #[tt,tt,tt,tt,tt,tt] rfl rfl (by kernel_rfl) (fun _ _ _ h => h) (Or.inl ⟨by rfl, ?_⟩) ?_ ?_
                      rotate_left
                      ·intro w'
                       go_simp
                       with_reducible rfl
                      rotate_left
                      ·simp only [Act.put, sb_, sz_, ss_, i64_w, i32_w]
                       rfl
                      refine done_ (by kernel_rfl) ?_
                      iterate 6 (try go_wp2; try go_quiet (fail))
                      refine bodyPost_ret (results_list (rs := [.cell 6 32, .cell 7 29, .tmp 8]) rfl (by simp) (.cell gb210 32 #[.string (⟨#[63]⟩ : ByteArray), .string ((rdOf ByteArray.empty l1 (ji56)).extract (x13_58 : Int).toNat ((wrap64 (x13_58 + 1)) : Int).toNat), .int .i64 2, .string (⟨#[]⟩ : ByteArray)] (0, 0) _ rfl (by (with_reducible repeat (first | apply bq | apply bd | apply ba)); refine blk_far ?_ NB210_211.out _; (with_reducible repeat (first | apply bq | apply bd | apply ba)); refine blk_far ?_ NB210_211.out _; (with_reducible repeat (first | apply bq | apply bd | apply ba)); refine blk_put (cs := #[.string (⟨#[63]⟩ : ByteArray), .string ((rdOf ByteArray.empty l1 (ji56)).extract (x13_58 : Int).toNat ((wrap64 (x13_58 + 1)) : Int).toNat), .int .i64 2, .string x211003_58]) ?_ 3 _ rfl; (with_reducible repeat (first | apply bq | apply bd | apply ba)); refine blk_put (cs := #[.string (⟨#[63]⟩ : ByteArray), .string ((rdOf ByteArray.empty l1 (ji56)).extract (x13_58 : Int).toNat ((wrap64 (x13_58 + 1)) : Int).toNat), .int .i64 x211002_58, .string x211003_58]) ?_ 2 _ rfl; (with_reducible repeat (first | apply bq | apply bd | apply ba)); refine blk_put (cs := #[.string (⟨#[63]⟩ : ByteArray), .string x211001_58, .int .i64 x211002_58, .string x211003_58]) ?_ 1 _ rfl; (with_reducible repeat (first | apply bq | apply bd | apply ba)); refine blk_put (cs := #[.string x211000_58, .string x211001_58, .int .i64 x211002_58, .string x211003_58]) ?_ 0 _ rfl; (with_reducible repeat (first | apply bq | apply bd | apply ba)); exact BK210.out) Try.underlying32 rfl (by kernel_rfl) (.cell gb211 29 #[.int .i64 x217000_162, .int .i64 x217001_162] (0, 0) _ rfl (by (with_reducible repeat (first | apply bq | apply bd | apply ba)); refine blk_put (cs := #[.int .i64 x217000_162, .int .i64 x212001_58]) ?_ 1 _ rfl; (with_reducible repeat (first | apply bq | apply bd | apply ba)); refine blk_put (cs := #[.int .i64 x212000_58, .int .i64 x212001_58]) ?_ 0 _ rfl; (with_reducible repeat (first | apply bq | apply bd | apply ba)); refine blk_far ?_ NB211_210.out _; (with_reducible repeat (first | apply bq | apply bd | apply ba)); refine blk_far ?_ NB211_210.out _; (with_reducible repeat (first | apply bq | apply bd | apply ba)); refine blk_far ?_ NB211_210.out _; (with_reducible repeat (first | apply bq | apply bd | apply ba)); refine blk_far ?_ NB211_210.out _; (with_reducible repeat (first | apply bq | apply bd | apply ba)); exact BK211.out) Try.underlying29 rfl (by kernel_rfl) (.tmp .nil)))) rfl ?_
                      exact ⟨by first | rfl | (simp [errW_none, errW_some] <;> rfl) | (simp only [← hji56]; first | rfl | (simp [errW_none, errW_some] <;> rfl)) | (simp [*, errW_none, errW_some] <;> rfl), by repeat (first | (with_reducible first | exact HB.out | apply below_alloc | apply pw_below_drewN | apply below_drew1 | refine below_set ?_ GE209.out | refine below_set ?_ GE210.out | refine below_set ?_ GE211.out | refine below_set ?_ GE214.out | refine below_set ?_ GE216.out) | exact HB.out)⟩
                     ·replace c182 := Bool.eq_false_iff.mpr c182
                      subst c182
                      have H1 : (if 18 + ((rdOf ByteArray.empty l1 (ji56)).extract (x13_58 : Int).toNat ((wrap64 (x13_58 + 1)) : Int).toNat).size ≤ 9223372036854775807 then (some ((⟨#[63]⟩ : ByteArray), (⟨#[]⟩ : ByteArray), 2, (⟨#[105,108,108,101,103,97,108,32,111,112,116,105,111,110,32,45,45,32]⟩ : ByteArray) ++ ((rdOf ByteArray.empty l1 (ji56)).extract (x13_58 : Int).toNat ((wrap64 (x13_58 + 1)) : Int).toNat), x217000_162, x217001_162, 0)) else (none)) = some (r1, r2, r3, r4, r5, r6, r7) := by rw [if_neg (show ¬ (false = true) by decide)] at H; exact H
                      clear H; have H := H1; clear H1
                      by_cases c190 : 18 + ((rdOf ByteArray.empty l1 (ji56)).extract (x13_58 : Int).toNat ((wrap64 (x13_58 + 1)) : Int).toNat).size ≤ 9223372036854775807
                      ·rw [if_pos c190] at H
                       have c190b0 := eq_true c190
                       have c190b1 : decide (18 + ((rdOf ByteArray.empty l1 (ji56)).extract (x13_58 : Int).toNat ((wrap64 (x13_58 + 1)) : Int).toNat).size ≤ 9223372036854775807) = true := decide_eq_true c190
                       try have c190b2 : (9223372036854775807 < 18 + ((rdOf ByteArray.empty l1 (ji56)).extract (x13_58 : Int).toNat ((wrap64 (x13_58 + 1)) : Int).toNat).size) = False := eq_false (Nat.not_lt.2 c190)
                       try (have c190b3 := c190b2; simp only [ByteArray.size_extract] at c190b3)
                       simp only [Option.some.injEq, Prod.mk.injEq] at H
                       obtain ⟨rfl, rfl, rfl, rfl, rfl, rfl, rfl⟩ := H
                       iterate 6 (try go_wp2; try go_quiet (fail))
                       (try (rw [drewN_self wc]; generalize hq_ : World.drewN wc _ = wc; have n0_ : Aside0 (wc.heap[gb209]? = some (.cells #[.int .i64 a2_0, .int .i64 a2_1] 29 (0, 0))) := ⟨by rw [← hq_]; exact (by (with_reducible repeat (first | apply bq | apply bd | apply ba)); exact BK209.out)⟩; have n1_ : Aside0 (wc.heap[gb210]? = some (.cells #[.string x211000_58, .string x211001_58, .int .i64 x211002_58, .string x211003_58] 32 (0, 0))) := ⟨by rw [← hq_]; exact (by (with_reducible repeat (first | apply bq | apply bd | apply ba)); exact BK210.out)⟩; have n2_ : Aside0 (wc.heap[gb211]? = some (.cells #[.int .i64 x212000_58, .int .i64 x212001_58] 29 (0, 0))) := ⟨by rw [← hq_]; exact (by (with_reducible repeat (first | apply bq | apply bd | apply ba)); exact BK211.out)⟩; have n3_ : Aside0 (wc.heap[gb214]? = some (.cells #[.string (⟨#[63]⟩ : ByteArray), .string (⟨#[]⟩ : ByteArray), .int .i64 1, .string (⟨#[]⟩ : ByteArray)] 32 (0, 0))) := ⟨by rw [← hq_]; exact (by (with_reducible repeat (first | apply bq | apply bd | apply ba)); exact BK214.out)⟩; have n4_ : Aside0 (wc.heap[gb216]? = some (.cells #[.int .i64 x217000_162, .int .i64 x217001_162] 29 (0, 0))) := ⟨by rw [← hq_]; exact (by (with_reducible repeat (first | apply bq | apply bd | apply ba)); exact BK216.out)⟩; have n5_ : Aside0 (Below w.heap.size w wc) := ⟨by rw [← hq_]; exact (by repeat (first | (with_reducible first | exact HB.out | apply below_alloc | apply pw_below_drewN | apply below_drew1 | refine below_set ?_ GE209.out | refine below_set ?_ GE210.out | refine below_set ?_ GE211.out | refine below_set ?_ GE214.out | refine below_set ?_ GE216.out) | exact HB.out))⟩; clear BK209 BK210 BK211 BK214 BK216 HB hq_; have BK209 := n0_; have BK210 := n1_; have BK211 := n2_; have BK214 := n3_; have BK216 := n4_; have HB := n5_; clear n0_ n1_ n2_ n3_ n4_ n5_))
                       have n0_ := Aside0.mk (blk_drew BK209.out)
                       have n1_ := Aside0.mk (blk_drew BK210.out)
                       have n2_ := Aside0.mk (blk_drew BK211.out)
                       have n3_ := Aside0.mk (blk_drew BK214.out)
                       have n4_ := Aside0.mk (blk_drew BK216.out)
                       have n5_ := Aside0.mk (below_drew1 HB.out)
                       clear BK209; clear BK210; clear BK211; clear BK214; clear BK216; clear HB; have BK209 := n0_; have BK210 := n1_; have BK211 := n2_; have BK214 := n3_; have BK216 := n4_; have HB := n5_; clear n0_ n1_ n2_ n3_ n4_ n5_
                       refine start_ (n := 7) (S := fun w' => w'.cell? ⟨gb216,0,none⟩ = some (.int .i64 x217000_162) ∧ w'.cell? ⟨gb216,1,none⟩ = some (.int .i64 x217001_162)) (ds := []) #[ff,ff,ff,ff,ff,ff,ff] (by kernel_rfl) rfl rfl ⟨(blk_cell BK216.out 0).trans rfl, (blk_cell BK216.out 1).trans rfl⟩ (fun hHeld => ?_)
                       generalize wc.drew = w191 at BK209 BK210 BK211 BK214 BK216 HB hHeld ⊢
                       refine pure_ (i := 0) (N := some 177) (v := ?_) (a' := ?_) #[tt,ff,ff,ff,ff,ff,ff] rfl rfl (by kernel_rfl) (fun _ _ _ h => h) (Or.inl ⟨by rfl, ?_⟩) ?_ ?_
                       rotate_left
                       ·intro w'
                        go_simp
                        with_reducible rfl
                       rotate_left
                       ·simp only [Act.put, sb_, sz_, ss_, i64_w, i32_w]
                        rfl
                       refine pure_ (i := 1) (N := some 178) (v := ?_) (a' := ?_) #[tt,tt,ff,ff,ff,ff,ff] rfl rfl (by kernel_rfl) (fun _ _ _ h => h) (Or.inl ⟨by rfl, ?_⟩) ?_ ?_
                       rotate_left
                       ·intro w'
                        go_simp
                        with_reducible rfl
                       rotate_left
                       ·simp only [Act.put, sb_, sz_, ss_, i64_w, i32_w]
                        rfl
                       refine pure_ (i := 2) (N := some 179) (v := ?_) (a' := ?_) #[tt,tt,tt,ff,ff,ff,ff] rfl rfl (by kernel_rfl) (fun _ _ _ h => h) (Or.inl ⟨by rfl, ?_⟩) ?_ ?_
                       rotate_left
                       ·intro w'
                        go_simp
                        with_reducible rfl
                       rotate_left
                       ·simp only [Act.put, sb_, sz_, ss_, i64_w, i32_w]
                        rfl
                       refine take_ (i := 3) (N := some 180) (v := ?_) (a' := ?_) #[tt,tt,tt,tt,ff,ff,ff] rfl rfl (by kernel_rfl) (fun _ _ _ h => h) (Or.inl ⟨by rfl, ?_⟩) hHeld ?_ ?_
                       rotate_left
                       ·rintro w' ⟨s0, s1⟩
                        go_simp
                        with_reducible rfl
                       rotate_left
                       ·simp only [Act.put, sb_, sz_, ss_, i64_w, i32_w]
                        rfl
                       refine one_ (i := 4) (N := none) #[tt,tt,tt,tt,tt,ff,ff] rfl rfl (by kernel_rfl) (by decide) (fun K hK => ?_)
                       have hs192 : w191.cell? ⟨gb210,0,none⟩ = some (.string x211000_58) := (blk_cell BK210.out 0).trans rfl
                       have hfs192 := blk_frozen BK210.out 0
                       have hns192_0 := NB209_210.out; have hns192_2 := NB211_210.out; have hns192_3 := NB214_210.out; have hns192_4 := NB216_210.out; have hms192_0 := NB210_209.out; have hms192_2 := NB210_211.out; have hms192_3 := NB210_214.out; have hms192_4 := NB210_216.out
                       have hs193 : w191.cell? ⟨gb210,1,none⟩ = some (.string x211001_58) := (blk_cell BK210.out 1).trans rfl
                       have hfs193 := blk_frozen BK210.out 1
                       have hns193_0 := NB209_210.out; have hns193_2 := NB211_210.out; have hns193_3 := NB214_210.out; have hns193_4 := NB216_210.out; have hms193_0 := NB210_209.out; have hms193_2 := NB210_211.out; have hms193_3 := NB210_214.out; have hms193_4 := NB210_216.out
                       have hs194 : w191.cell? ⟨gb210,2,none⟩ = some (.int .i64 x211002_58) := (blk_cell BK210.out 2).trans rfl
                       have hfs194 := blk_frozen BK210.out 2
                       have hns194_0 := NB209_210.out; have hns194_2 := NB211_210.out; have hns194_3 := NB214_210.out; have hns194_4 := NB216_210.out; have hms194_0 := NB210_209.out; have hms194_2 := NB210_211.out; have hms194_3 := NB210_214.out; have hms194_4 := NB210_216.out
                       have hs195 : w191.cell? ⟨gb210,3,none⟩ = some (.string x211003_58) := (blk_cell BK210.out 3).trans rfl
                       have hfs195 := blk_frozen BK210.out 3
                       have hns195_0 := NB209_210.out; have hns195_2 := NB211_210.out; have hns195_3 := NB214_210.out; have hns195_4 := NB216_210.out; have hms195_0 := NB210_209.out; have hms195_2 := NB210_211.out; have hms195_3 := NB210_214.out; have hms195_4 := NB210_216.out
                       refine skip_ (w1 := (((w191.setCell ⟨gb210,0,none⟩ (.string ⟨#[63]⟩)).setCell ⟨gb210,1,none⟩ (.string ⟨#[]⟩)).setCell ⟨gb210,2,none⟩ (.int .i64 2)).setCell ⟨gb210,3,none⟩ (.string ((⟨#[105,108,108,101,103,97,108,32,111,112,116,105,111,110,32,45,45,32]⟩ : ByteArray) ++ (rdOf ByteArray.empty l1 ji56).extract x13_58.toNat (wrap64 (x13_58 + 1)).toNat))) (by rfl) rfl ?_ ?_
                       ·as_aux_lemma => go_simp
                       refine hK.out _ _ ⟨((cell_far (p := ⟨gb210,_,none⟩) NB216_210.out _).trans (((cell_far (p := ⟨gb210,_,none⟩) NB216_210.out _).trans (((cell_far (p := ⟨gb210,_,none⟩) NB216_210.out _).trans (((cell_far (p := ⟨gb210,_,none⟩) NB216_210.out _).trans (hHeld.1)))))))), ((cell_far (p := ⟨gb210,_,none⟩) NB216_210.out _).trans (((cell_far (p := ⟨gb210,_,none⟩) NB216_210.out _).trans (((cell_far (p := ⟨gb210,_,none⟩) NB216_210.out _).trans (((cell_far (p := ⟨gb210,_,none⟩) NB216_210.out _).trans (hHeld.2))))))))⟩ (fun hHeld => ?_)
                       clear hK K
                       refine one_ (i := 5) (N := none) #[tt,tt,tt,tt,tt,tt,ff] rfl rfl (by kernel_rfl) (by decide) (fun K hK => ?_)
                       have hs196 : w191.cell? ⟨gb211,0,none⟩ = some (.int .i64 x212000_58) := (blk_cell BK211.out 0).trans rfl
                       have hfs196 := blk_frozen BK211.out 0
                       have hns196_0 := NB209_211.out; have hns196_1 := NB210_211.out; have hns196_3 := NB214_211.out; have hns196_4 := NB216_211.out; have hms196_0 := NB211_209.out; have hms196_1 := NB211_210.out; have hms196_3 := NB211_214.out; have hms196_4 := NB211_216.out
                       have hs197 : w191.cell? ⟨gb211,1,none⟩ = some (.int .i64 x212001_58) := (blk_cell BK211.out 1).trans rfl
                       have hfs197 := blk_frozen BK211.out 1
                       have hns197_0 := NB209_211.out; have hns197_1 := NB210_211.out; have hns197_3 := NB214_211.out; have hns197_4 := NB216_211.out; have hms197_0 := NB211_209.out; have hms197_1 := NB211_210.out; have hms197_3 := NB211_214.out; have hms197_4 := NB211_216.out
                       refine skip_ (w1 := (((((w191.setCell ⟨gb210,0,none⟩ (.string ⟨#[63]⟩)).setCell ⟨gb210,1,none⟩ (.string ⟨#[]⟩)).setCell ⟨gb210,2,none⟩ (.int .i64 2)).setCell ⟨gb210,3,none⟩ (.string ((⟨#[105,108,108,101,103,97,108,32,111,112,116,105,111,110,32,45,45,32]⟩ : ByteArray) ++ (rdOf ByteArray.empty l1 ji56).extract x13_58.toNat (wrap64 (x13_58 + 1)).toNat))).setCell ⟨gb211,0,none⟩ (.int .i64 x217000_162)).setCell ⟨gb211,1,none⟩ (.int .i64 x217001_162)) (by rfl) rfl ?_ ?_
                       ·as_aux_lemma => go_simp
                       refine hK.out _ _ ⟨((cell_far (p := ⟨gb211,_,none⟩) NB216_211.out _).trans (((cell_far (p := ⟨gb211,_,none⟩) NB216_211.out _).trans (hHeld.1)))), ((cell_far (p := ⟨gb211,_,none⟩) NB216_211.out _).trans (((cell_far (p := ⟨gb211,_,none⟩) NB216_211.out _).trans (hHeld.2))))⟩ (fun hHeld => ?_)
                       clear hK K
                       refine pure_ (i := 6) (N := some 8) (v := ?_) (a' := ?_) #[tt,tt,tt,tt,tt,tt,tt] rfl rfl (by kernel_rfl) (fun _ _ _ h => h) (Or.inl ⟨by rfl, ?_⟩) ?_ ?_
                       rotate_left
                       ·intro w'
                        go_simp
                        with_reducible rfl
                       rotate_left
                       ·simp only [Act.put, sb_, sz_, ss_, i64_w, i32_w]
                        rfl
                       refine done_ (by kernel_rfl) ?_
                       iterate 6 (try go_wp2; try go_quiet (fail))
                       refine bodyPost_ret (results_list (rs := [.cell 6 32, .cell 7 29, .tmp 8]) rfl (by simp) (.cell gb210 32 #[.string (⟨#[63]⟩ : ByteArray), .string (⟨#[]⟩ : ByteArray), .int .i64 2, .string ((⟨#[105,108,108,101,103,97,108,32,111,112,116,105,111,110,32,45,45,32]⟩ : ByteArray) ++ ((rdOf ByteArray.empty l1 (ji56)).extract (x13_58 : Int).toNat ((wrap64 (x13_58 + 1)) : Int).toNat))] (0, 0) _ rfl (by (with_reducible repeat (first | apply bq | apply bd | apply ba)); refine blk_far ?_ NB210_211.out _; (with_reducible repeat (first | apply bq | apply bd | apply ba)); refine blk_far ?_ NB210_211.out _; (with_reducible repeat (first | apply bq | apply bd | apply ba)); refine blk_put (cs := #[.string (⟨#[63]⟩ : ByteArray), .string (⟨#[]⟩ : ByteArray), .int .i64 2, .string x211003_58]) ?_ 3 _ rfl; (with_reducible repeat (first | apply bq | apply bd | apply ba)); refine blk_put (cs := #[.string (⟨#[63]⟩ : ByteArray), .string (⟨#[]⟩ : ByteArray), .int .i64 x211002_58, .string x211003_58]) ?_ 2 _ rfl; (with_reducible repeat (first | apply bq | apply bd | apply ba)); refine blk_put (cs := #[.string (⟨#[63]⟩ : ByteArray), .string x211001_58, .int .i64 x211002_58, .string x211003_58]) ?_ 1 _ rfl; (with_reducible repeat (first | apply bq | apply bd | apply ba)); refine blk_put (cs := #[.string x211000_58, .string x211001_58, .int .i64 x211002_58, .string x211003_58]) ?_ 0 _ rfl; (with_reducible repeat (first | apply bq | apply bd | apply ba)); exact BK210.out) Try.underlying32 rfl (by kernel_rfl) (.cell gb211 29 #[.int .i64 x217000_162, .int .i64 x217001_162] (0, 0) _ rfl (by (with_reducible repeat (first | apply bq | apply bd | apply ba)); refine blk_put (cs := #[.int .i64 x217000_162, .int .i64 x212001_58]) ?_ 1 _ rfl; (with_reducible repeat (first | apply bq | apply bd | apply ba)); refine blk_put (cs := #[.int .i64 x212000_58, .int .i64 x212001_58]) ?_ 0 _ rfl; (with_reducible repeat (first | apply bq | apply bd | apply ba)); refine blk_far ?_ NB211_210.out _; (with_reducible repeat (first | apply bq | apply bd | apply ba)); refine blk_far ?_ NB211_210.out _; (with_reducible repeat (first | apply bq | apply bd | apply ba)); refine blk_far ?_ NB211_210.out _; (with_reducible repeat (first | apply bq | apply bd | apply ba)); refine blk_far ?_ NB211_210.out _; (with_reducible repeat (first | apply bq | apply bd | apply ba)); exact BK211.out) Try.underlying29 rfl (by kernel_rfl) (.tmp .nil)))) rfl ?_
                       exact ⟨by first | rfl | (simp [errW_none, errW_some] <;> rfl) | (simp only [← hji56]; first | rfl | (simp [errW_none, errW_some] <;> rfl)) | (simp [*, errW_none, errW_some] <;> rfl), by repeat (first | (with_reducible first | exact HB.out | apply below_alloc | apply pw_below_drewN | apply below_drew1 | refine below_set ?_ GE209.out | refine below_set ?_ GE210.out | refine below_set ?_ GE211.out | refine below_set ?_ GE214.out | refine below_set ?_ GE216.out) | exact HB.out)⟩
                      rw [if_neg c190] at H
                      exact absurd H (by simp)
              rw [if_neg c107] at H
              exact absurd H (by simp)
             rw [if_neg c106] at H
             exact absurd H (by simp)
            rw [if_neg c102] at H
            exact absurd H (by simp)
           rw [if_neg c101] at H
           exact absurd H (by simp)
      rw [if_neg c58] at H
      exact absurd H (by simp)
     rw [if_neg c57] at H
     exact absurd H (by simp)
 rw [if_neg c5] at H
 have c5b0 : (t212 == 0) = false := beq_eq_false_iff_ne.mpr c5
 have c5b1 : (t212 != 0) = true := bne_iff_ne.mpr c5
 simp only [Option.some.injEq, Prod.mk.injEq] at H
 obtain ⟨rfl, rfl, rfl, rfl, rfl, rfl, rfl⟩ := H
 go_enter Try.func14, Try.ntmps14
 iterate 6 (try go_wp2_with (first | ((with_reducible refine gate_dst (N := 5) rfl ?_); (try (refine gate_guard (by rfl) ?_; dsimp only)); refine box_event ?hg (N := 5) ?hd (cs := #[.int .i64 a2_0, .int .i64 a2_1]) (t := 29) ?hr ?_; (case hd => rfl); (case hg => rfl); (case hr => first | (go_simp; done) | (go_simp; rfl)); intro gb209 hg w198 hbox hb; have n0_ := Aside0.mk (below_step (by repeat (first | (with_reducible first | exact HB.out | apply below_alloc | apply pw_below_drewN | apply below_drew1) | exact HB.out)) hb); have n1_ := Aside0.mk (hbox); have n2_ := Aside0.mk ((by rw [hg]; exact (below_size (by repeat (first | (with_reducible first | exact HB.out | apply below_alloc | apply pw_below_drewN | apply below_drew1) | exact HB.out))) : w.heap.size ≤ gb209)); have n3_ := Aside0.mk ((by rw [hg]; exact (below_size (by repeat (first | (with_reducible first | exact HB.out | apply below_alloc | apply pw_below_drewN | apply below_drew1) | exact HB.out))) : w.heap.size ≤ gb209)); clear HB; have HB := n0_; have BK209 := n1_; have GW209 := n2_; have GE209 := n3_; clear n0_ n1_ n2_ n3_; clear hb hbox hg) | ((with_reducible refine gate_dst (N := 6) rfl ?_); (try (refine gate_guard (by rfl) ?_; dsimp only)); refine box_event ?hg (N := 6) ?hd (cs := #[.string (⟨#[]⟩ : ByteArray), .string (⟨#[]⟩ : ByteArray), .int .i64 0, .string (⟨#[]⟩ : ByteArray)]) (t := 32) ?hr ?_; (case hd => rfl); (case hg => rfl); (case hr => first | (go_simp; done) | (go_simp; rfl)); intro gb210 hg w199 hbox hb; have n0_ := Aside0.mk (blk_below (g := gb209) (o := .cells #[.int .i64 a2_0, .int .i64 a2_1] 29 (0, 0)) (by (with_reducible repeat (first | apply bq | apply bd | apply ba)); exact BK209.out) hb); have n1_ := Aside0.mk (below_step (by repeat (first | (with_reducible first | exact HB.out | apply below_alloc | apply pw_below_drewN | apply below_drew1 | refine below_set ?_ GE209.out) | exact HB.out)) hb); have n2_ := Aside0.mk (hbox); have n3_ := Aside0.mk ((by rw [hg]; exact (below_size (by repeat (first | (with_reducible first | exact HB.out | apply below_alloc | apply pw_below_drewN | apply below_drew1 | refine below_set ?_ GE209.out) | exact HB.out))) : w.heap.size ≤ gb210)); have n4_ := Aside0.mk ((by rw [hg]; exact (below_size (by repeat (first | (with_reducible first | exact HB.out | apply below_alloc | apply pw_below_drewN | apply below_drew1 | refine below_set ?_ GE209.out) | exact HB.out))) : w.heap.size ≤ gb210)); have n5_ := Aside0.mk ((by rw [hg]; exact Nat.ne_of_lt (blk_lt (g := gb209) (o := .cells #[.int .i64 a2_0, .int .i64 a2_1] 29 (0, 0)) (by (with_reducible repeat (first | apply bq | apply bd | apply ba)); exact BK209.out)) : gb209 ≠ gb210)); have n6_ := Aside0.mk ((by rw [hg]; exact Nat.ne_of_gt (blk_lt (g := gb209) (o := .cells #[.int .i64 a2_0, .int .i64 a2_1] 29 (0, 0)) (by (with_reducible repeat (first | apply bq | apply bd | apply ba)); exact BK209.out)) : gb210 ≠ gb209)); clear BK209; clear HB; have BK209 := n0_; have HB := n1_; have BK210 := n2_; have GW210 := n3_; have GE210 := n4_; have NB209_210 := n5_; have NB210_209 := n6_; clear n0_ n1_ n2_ n3_ n4_ n5_ n6_; clear hb hbox hg) | ((with_reducible refine gate_dst (N := 7) rfl ?_); (try (refine gate_guard (by rfl) ?_; dsimp only)); refine box_event ?hg (N := 7) ?hd (cs := #[.int .i64 0, .int .i64 0]) (t := 29) ?hr ?_; (case hd => rfl); (case hg => rfl); (case hr => first | (go_simp; done) | (go_simp; rfl)); intro gb211 hg w200 hbox hb; have n0_ := Aside0.mk (blk_below (g := gb209) (o := .cells #[.int .i64 a2_0, .int .i64 a2_1] 29 (0, 0)) (by (with_reducible repeat (first | apply bq | apply bd | apply ba)); exact BK209.out) hb); have n1_ := Aside0.mk (blk_below (g := gb210) (o := .cells #[.string (⟨#[]⟩ : ByteArray), .string (⟨#[]⟩ : ByteArray), .int .i64 0, .string (⟨#[]⟩ : ByteArray)] 32 (0, 0)) (by (with_reducible repeat (first | apply bq | apply bd | apply ba)); exact BK210.out) hb); have n2_ := Aside0.mk (below_step (by repeat (first | (with_reducible first | exact HB.out | apply below_alloc | apply pw_below_drewN | apply below_drew1 | refine below_set ?_ GE209.out | refine below_set ?_ GE210.out) | exact HB.out)) hb); have n3_ := Aside0.mk (hbox); have n4_ := Aside0.mk ((by rw [hg]; exact (below_size (by repeat (first | (with_reducible first | exact HB.out | apply below_alloc | apply pw_below_drewN | apply below_drew1 | refine below_set ?_ GE209.out | refine below_set ?_ GE210.out) | exact HB.out))) : w.heap.size ≤ gb211)); have n5_ := Aside0.mk ((by rw [hg]; exact (below_size (by repeat (first | (with_reducible first | exact HB.out | apply below_alloc | apply pw_below_drewN | apply below_drew1 | refine below_set ?_ GE209.out | refine below_set ?_ GE210.out) | exact HB.out))) : w.heap.size ≤ gb211)); have n6_ := Aside0.mk ((by rw [hg]; exact Nat.ne_of_lt (blk_lt (g := gb209) (o := .cells #[.int .i64 a2_0, .int .i64 a2_1] 29 (0, 0)) (by (with_reducible repeat (first | apply bq | apply bd | apply ba)); exact BK209.out)) : gb209 ≠ gb211)); have n7_ := Aside0.mk ((by rw [hg]; exact Nat.ne_of_gt (blk_lt (g := gb209) (o := .cells #[.int .i64 a2_0, .int .i64 a2_1] 29 (0, 0)) (by (with_reducible repeat (first | apply bq | apply bd | apply ba)); exact BK209.out)) : gb211 ≠ gb209)); have n8_ := Aside0.mk ((by rw [hg]; exact Nat.ne_of_lt (blk_lt (g := gb210) (o := .cells #[.string (⟨#[]⟩ : ByteArray), .string (⟨#[]⟩ : ByteArray), .int .i64 0, .string (⟨#[]⟩ : ByteArray)] 32 (0, 0)) (by (with_reducible repeat (first | apply bq | apply bd | apply ba)); exact BK210.out)) : gb210 ≠ gb211)); have n9_ := Aside0.mk ((by rw [hg]; exact Nat.ne_of_gt (blk_lt (g := gb210) (o := .cells #[.string (⟨#[]⟩ : ByteArray), .string (⟨#[]⟩ : ByteArray), .int .i64 0, .string (⟨#[]⟩ : ByteArray)] 32 (0, 0)) (by (with_reducible repeat (first | apply bq | apply bd | apply ba)); exact BK210.out)) : gb211 ≠ gb210)); clear BK209; clear BK210; clear HB; have BK209 := n0_; have BK210 := n1_; have HB := n2_; have BK211 := n3_; have GW211 := n4_; have GE211 := n5_; have NB209_211 := n6_; have NB211_209 := n7_; have NB210_211 := n8_; have NB211_210 := n9_; clear n0_ n1_ n2_ n3_ n4_ n5_ n6_ n7_ n8_ n9_; clear hb hbox hg) | ((with_reducible refine gate_callee (f := 11) rfl ?_); refine goesL_ (some 19) rfl rfl Try.func11 (by kernel_rfl) rfl #[.string a0] rfl (by (try simp only [List.map_toArray, List.map_cons, List.map_nil]); first | done | rfl | (simp only [List.length_drop, List.length_take]; rfl)) ?_; (with_reducible refine (jobshellref16_Valid.calls k a0 t212 _ A4.out).mono ?_); rintro e w201 ⟨rfl, hb⟩; refine ⟨_, rfl, ?_⟩; have n0_ := Aside0.mk (blk_below (g := gb209) (o := .cells #[.int .i64 a2_0, .int .i64 a2_1] 29 (0, 0)) (by (with_reducible repeat (first | apply bq | apply bd | apply ba)); exact BK209.out) hb); have n1_ := Aside0.mk (blk_below (g := gb210) (o := .cells #[.string (⟨#[]⟩ : ByteArray), .string (⟨#[]⟩ : ByteArray), .int .i64 0, .string (⟨#[]⟩ : ByteArray)] 32 (0, 0)) (by (with_reducible repeat (first | apply bq | apply bd | apply ba)); exact BK210.out) hb); have n2_ := Aside0.mk (blk_below (g := gb211) (o := .cells #[.int .i64 0, .int .i64 0] 29 (0, 0)) (by (with_reducible repeat (first | apply bq | apply bd | apply ba)); exact BK211.out) hb); have n3_ := Aside0.mk (below_step (by repeat (first | (with_reducible first | exact HB.out | apply below_alloc | apply pw_below_drewN | apply below_drew1 | refine below_set ?_ GE209.out | refine below_set ?_ GE210.out | refine below_set ?_ GE211.out) | exact HB.out)) hb); clear BK209; clear BK210; clear BK211; clear HB; have BK209 := n0_; have BK210 := n1_; have BK211 := n2_; have HB := n3_; clear n0_ n1_ n2_ n3_; (try clear hb); (try clear hb2); (try clear hk); (try clear hi); have hnb202 := NB210_209.out; have hnc202 := NB209_210.out; have hnb203 := NB210_211.out; have hnc203 := NB211_210.out; have hcz204_0 : w201.cell? ⟨gb210,0,none⟩ = some (.string (⟨#[]⟩ : ByteArray)) := (blk_cell BK210.out 0).trans rfl; have hcz204_1 : w201.cell? ⟨gb210,1,none⟩ = some (.string (⟨#[]⟩ : ByteArray)) := (blk_cell BK210.out 1).trans rfl; have hcz204_2 : w201.cell? ⟨gb210,2,none⟩ = some (.int .i64 0) := (blk_cell BK210.out 2).trans rfl; have hcz204_3 : w201.cell? ⟨gb210,3,none⟩ = some (.string (⟨#[]⟩ : ByteArray)) := (blk_cell BK210.out 3).trans rfl; have hfz204_0 := blk_frozen BK210.out 0; have hfz204_1 := blk_frozen BK210.out 1; have hfz204_2 := blk_frozen BK210.out 2; have hfz204_3 := blk_frozen BK210.out 3; have hnb205 := NB211_209.out; have hnc205 := NB209_211.out; have hcz206_0 : w201.cell? ⟨gb211,0,none⟩ = some (.int .i64 0) := (blk_cell BK211.out 0).trans rfl; have hcz206_1 : w201.cell? ⟨gb211,1,none⟩ = some (.int .i64 0) := (blk_cell BK211.out 1).trans rfl; have hfz206_0 := blk_frozen BK211.out 0; have hfz206_1 := blk_frozen BK211.out 1)); try go_quiet (fail))
 refine bodyPost_ret (results_list (rs := [.cell 6 32, .cell 7 29, .tmp 8]) rfl (by simp) (.cell gb210 32 #[.string (⟨#[]⟩ : ByteArray), .string (⟨#[]⟩ : ByteArray), .int .i64 0, .string (⟨#[]⟩ : ByteArray)] (0, 0) _ rfl (by (with_reducible repeat (first | apply bq | apply bd | apply ba)); refine blk_far ?_ NB210_211.out _; (with_reducible repeat (first | apply bq | apply bd | apply ba)); refine blk_far ?_ NB210_211.out _; (with_reducible repeat (first | apply bq | apply bd | apply ba)); refine blk_put (cs := #[.string (⟨#[]⟩ : ByteArray), .string (⟨#[]⟩ : ByteArray), .int .i64 0, .string (⟨#[]⟩ : ByteArray)]) ?_ 3 _ rfl; (with_reducible repeat (first | apply bq | apply bd | apply ba)); refine blk_put (cs := #[.string (⟨#[]⟩ : ByteArray), .string (⟨#[]⟩ : ByteArray), .int .i64 0, .string (⟨#[]⟩ : ByteArray)]) ?_ 2 _ rfl; (with_reducible repeat (first | apply bq | apply bd | apply ba)); refine blk_put (cs := #[.string (⟨#[]⟩ : ByteArray), .string (⟨#[]⟩ : ByteArray), .int .i64 0, .string (⟨#[]⟩ : ByteArray)]) ?_ 1 _ rfl; (with_reducible repeat (first | apply bq | apply bd | apply ba)); refine blk_put (cs := #[.string (⟨#[]⟩ : ByteArray), .string (⟨#[]⟩ : ByteArray), .int .i64 0, .string (⟨#[]⟩ : ByteArray)]) ?_ 0 _ rfl; (with_reducible repeat (first | apply bq | apply bd | apply ba)); exact BK210.out) Try.underlying32 rfl (by kernel_rfl) (.cell gb211 29 #[.int .i64 0, .int .i64 0] (0, 0) _ rfl (by (with_reducible repeat (first | apply bq | apply bd | apply ba)); refine blk_put (cs := #[.int .i64 0, .int .i64 0]) ?_ 1 _ rfl; (with_reducible repeat (first | apply bq | apply bd | apply ba)); refine blk_put (cs := #[.int .i64 0, .int .i64 0]) ?_ 0 _ rfl; (with_reducible repeat (first | apply bq | apply bd | apply ba)); refine blk_far ?_ NB211_210.out _; (with_reducible repeat (first | apply bq | apply bd | apply ba)); refine blk_far ?_ NB211_210.out _; (with_reducible repeat (first | apply bq | apply bd | apply ba)); refine blk_far ?_ NB211_210.out _; (with_reducible repeat (first | apply bq | apply bd | apply ba)); refine blk_far ?_ NB211_210.out _; (with_reducible repeat (first | apply bq | apply bd | apply ba)); exact BK211.out) Try.underlying29 rfl (by kernel_rfl) (.tmp .nil)))) rfl ?_
 exact ⟨by first | rfl | (simp [errW_none, errW_some] <;> rfl) | (simp [*, errW_none, errW_some] <;> rfl), by repeat (first | (with_reducible first | exact HB.out | apply below_alloc | apply pw_below_drewN | apply below_drew1 | refine below_set ?_ GE209.out | refine below_set ?_ GE210.out | refine below_set ?_ GE211.out) | exact HB.out)⟩

end Go.Proofs.Ytgplhdgimckfjaa.Q
