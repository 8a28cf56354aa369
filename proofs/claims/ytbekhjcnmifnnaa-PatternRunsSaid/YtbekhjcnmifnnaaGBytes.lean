/- The contracts of the methods add and class of pattern.bytes, by hand: a set is a local array of 256 bools, held by a pointer; here it is told by the list of its members. No conditions beyond those written at each. -/
import Derived.Test.YtbekhjcnmifnnaaQ0
set_option linter.unusedVariables false
set_option linter.unusedSimpArgs false
namespace Go.Proofs.Ytbekhjcnmifnnaa.Q
open Go.RowKit Go.Proofs.YtbekhjcnmifnnaaW.PrintWords Go.Proofs.YtbekhjcnmifnnaaW.PrintLast Go.Proofs.YtbekhjcnmifnnaaW.PrintMore

/-- Is the byte of this number a member? -/
def setHas (s : ByteArray) (i : Nat) : Bool := s.data.toList.contains (UInt8.ofNat i)
/-- The array's cells. -/
def setCells (s : ByteArray) : Array Value := ((List.range 256).map fun i => Value.bool (setHas s i)).toArray
theorem setCells_get (s : ByteArray) (i : Nat) (h : i < 256) : (setCells s)[i]? = some (.bool (setHas s i)) := by
 simp [setCells, h]
theorem setHas_push (s : ByteArray) (i j : Nat) (hi : i < 256) (hj : j < 256) : setHas (s.push (UInt8.ofNat i)) j = (setHas s j || decide (i = j)) := by
 unfold setHas
 have e : (s.push (UInt8.ofNat i)).data.toList = s.data.toList ++ [UInt8.ofNat i] := by
  show (s.data.push (UInt8.ofNat i)).toList = _
  simp
 have e2 : (UInt8.ofNat j = UInt8.ofNat i) ↔ i = j := by
  constructor
  ·
   intro h
   have h := congrArg UInt8.toNat h
   simp only [UInt8.toNat_ofNat'] at h
   omega
  ·
   rintro rfl; rfl
 rw [e, Bool.eq_iff_iff]
 simp only [List.contains_iff_mem, List.mem_append, List.mem_singleton, e2, Bool.or_eq_true, decide_eq_true_eq]
theorem setCells_push (s : ByteArray) (i : Nat) (hi : i < 256) : (setCells s).setIfInBounds i (.bool true) = setCells (s.push (UInt8.ofNat i)) := by
 apply Array.ext_getElem?
 intro j
 by_cases hj : j < 256
 ·
  rw [setCells_get _ _ hj, Array.getElem?_setIfInBounds, setHas_push _ _ _ hi hj]
  by_cases e : i = j
  ·
   subst e
   have : i < (setCells s).size := by simp [setCells]; omega
   simp [this]
  ·
   simp [e, setCells_get _ _ hj]
 ·
  have h1 : (setCells (s.push (UInt8.ofNat i)))[j]? = none := by simp [setCells]; omega
  have h2 : ((setCells s).setIfInBounds i (.bool true))[j]? = none := by simp [setCells]; omega
  rw [h1, h2]
theorem keepB {B : Nat} {w w' : World} {g : Nat} {o : Obj} (h : w.heap[g]? = some o) (hb : Below B w w') (hg : g < B) : w'.heap[g]? = some o := (hb.block g hg).trans h
theorem stepB {w W w2 : World} {B : Nat} (h : Below w.heap.size w W) (k : Below B W w2) (hB : w.heap.size ≤ B) : Below w.heap.size w w2 := h.trans (k.mono hB)
theorem drB {B : Nat} {w W : World} (h : Below B w W) (n : Nat) : Below B w (W.drewN n) := ⟨h.os, h.tape, h.output, h.size, h.block⟩
theorem alloc72 (ev : Operand → Value) (W : World) : Sem.run Try.prog (execOp ev { dst := some 8, op := Op.alloc 72, type := 0, pos := "pattern.go:114", after := #[], guard := none }) W =
 .ok (Next.value (.pointer (some ⟨W.heap.size, 0, none⟩))) (W.alloc (.cells (setCells ⟨#[]⟩) 72 (0, 0))) := by kernel_rfl

/-! ### add -/
def pattern_bytes_add.l0 : Nat → ByteArray → Int → Int → Option ByteArray
 | 0, _, _, _ => none
 | k + 1, x, hi, c => if c ≤ hi then pattern_bytes_add.l0 k (x.push (UInt8.ofNat c.toNat)) hi (wrap64 (c + 1)) else some x
def pattern_bytes_add.f (s : ByteArray) (lo hi : Int) : Option ByteArray :=
 if 0 ≤ lo ∧ lo < 256 ∧ 0 ≤ hi ∧ hi < 256 then pattern_bytes_add.l0 257 s hi lo else none
set_option maxHeartbeats 1000000 in
set_option maxRecDepth 100000 in
theorem pattern_bytes_add.calls (s : ByteArray) (lo hi : Int) (t : ByteArray) (g : Nat) (w : World) (hB : w.heap[g]? = some (.cells (setCells s) 72 (0, 0))) (h : pattern_bytes_add.f s lo hi = some t) :
 Calls Try.prog 48 #[.pointer (some ⟨g, 0, none⟩), .int .u8 lo, .int .u8 hi] w fun e w' => ∃ v, e = .returned v ∧ w'.heap[g]? = some (.cells (setCells t) 72 (0, 0)) ∧ Below g w w' := by
 unfold pattern_bytes_add.f at h
 have hr : 0 ≤ lo ∧ lo < 256 ∧ 0 ≤ hi ∧ hi < 256 := by
  by_cases c : 0 ≤ lo ∧ lo < 256 ∧ 0 ≤ hi ∧ hi < 256
  ·
   exact c
  ·
   rw [if_neg c] at h
   exact absurd h (by simp)
 rw [if_pos hr] at h
 have H' := m_ h
 have HR := m_ hr
 have BK := m_ hB
 have HB := m_ (Below.refl g w)
 have hlo : IntKind.i64.wrap lo = lo := (i64_w _).trans (by unfold wrap64; omega)
 have hhi : IntKind.i64.wrap hi = hi := (i64_w _).trans (by unfold wrap64; omega)
 clear h hr hB
 go_enter Try.func48, Try.ntmps48
 go_wp2
 go_loopg [6] 257 (fun kq v6 wr => ∃ (x : ByteArray) (c : Int), v6 = .int .i64 c ∧ Aside0 (pattern_bytes_add.l0 kq x hi c = some t) ∧ Aside0 (kq ≤ 257) ∧ Aside0 (0 ≤ c) ∧ Aside0 (wr.heap[g]? = some (.cells (setCells x) 72 (0, 0))) ∧ Aside0 (Below g w wr))
 case atStart => exact ⟨_, _, (by first | rfl | simp [hlo]), H', ⟨Nat.le_refl _⟩, ⟨HR.out.1⟩, BK, HB⟩
 case round =>
  clear H' BK HB
  obtain ⟨x, c, rfl, HA, HK, HC, BK, HB⟩ := hrel
  cases gk with
  | zero => exact absurd HA.out (by simp [pattern_bytes_add.l0])
  | succ k1 =>
   have H := HA.out
   clear HA
   simp only [pattern_bytes_add.l0] at H
   by_cases c3 : c ≤ hi
   ·
    rw [if_pos c3] at H
    have c3b0 : decide (c ≤ hi) = true := decide_eq_true c3
    have hc0 : 0 ≤ c := HC.out
    have hc1 : c < 256 := by have := HR.out; omega
    clear c3
    have hw : wrap64 (c + 1) = c + 1 := by unfold wrap64; omega
    rw [hw] at H
    clear hw
    have H' := m_ H
    clear H
    have hfz := f1_ BK.out c.toNat
    have hcell : wr.cell? ⟨g, c.toNat, none⟩ = some (.bool (setHas x c.toNat)) := (b5_ BK.out _).trans (setCells_get x _ (by omega))
    have BK2 := m_ (blk_put BK.out c.toNat (.bool true) (setCells_push x c.toNat (by omega)))
    go_wp2
    go_roundg k1
    case measure => have := HK.out; omega
    case rel => exact ⟨_, c + 1, (by first | rfl | simp), H', ⟨by have := HK.out; omega⟩, ⟨by omega⟩, ⟨by first | exact BK2.out | exact b1_ BK2.out _⟩, ⟨by first | exact HB.out.setCell (Nat.le_refl _) _ | exact (HB.out.setCell (Nat.le_refl _) _).trans (Below.refl _ _)⟩⟩
   ·
    rw [if_neg c3] at H
    have c3b0 : decide (c ≤ hi) = false := decide_eq_false c3
    clear c3
    obtain rfl : x = t := Option.some.inj H
    clear H
    go_wp2
    refine bodyPost_end (results_none rfl _ _ _) rfl ?_
    exact ⟨_, rfl, BK.out, HB.out⟩

/-! ### class -/
def pattern_bytes_class.f (s name : ByteArray) : Option (Bool × ByteArray) :=
 if name.toList = ([97, 108, 112, 104, 97] : List UInt8) then ((pattern_bytes_add.f s 65 90).bind fun s1 => ((pattern_bytes_add.f s1 97 122).bind fun s2 => some (true, s2))) else
 if name.toList = ([100, 105, 103, 105, 116] : List UInt8) then ((pattern_bytes_add.f s 48 57).bind fun s1 => some (true, s1)) else
 if name.toList = ([97, 108, 110, 117, 109] : List UInt8) then ((pattern_bytes_add.f s 65 90).bind fun s1 => ((pattern_bytes_add.f s1 97 122).bind fun s2 => ((pattern_bytes_add.f s2 48 57).bind fun s3 => some (true, s3)))) else
 if name.toList = ([117, 112, 112, 101, 114] : List UInt8) then ((pattern_bytes_add.f s 65 90).bind fun s1 => some (true, s1)) else
 if name.toList = ([108, 111, 119, 101, 114] : List UInt8) then ((pattern_bytes_add.f s 97 122).bind fun s1 => some (true, s1)) else
 if name.toList = ([115, 112, 97, 99, 101] : List UInt8) then ((pattern_bytes_add.f s 9 13).bind fun s1 => ((pattern_bytes_add.f s1 32 32).bind fun s2 => some (true, s2))) else
 if name.toList = ([98, 108, 97, 110, 107] : List UInt8) then ((pattern_bytes_add.f s 9 9).bind fun s1 => ((pattern_bytes_add.f s1 32 32).bind fun s2 => some (true, s2))) else
 if name.toList = ([112, 117, 110, 99, 116] : List UInt8) then ((pattern_bytes_add.f s 33 47).bind fun s1 => ((pattern_bytes_add.f s1 58 64).bind fun s2 => ((pattern_bytes_add.f s2 91 96).bind fun s3 => ((pattern_bytes_add.f s3 123 126).bind fun s4 => some (true, s4))))) else
 some (false, s)
set_option maxHeartbeats 4000000 in
set_option maxRecDepth 100000 in
theorem pattern_bytes_class.calls (s name : ByteArray) (b : Bool) (t : ByteArray) (g : Nat) (w : World) (hB : w.heap[g]? = some (.cells (setCells s) 72 (0, 0))) (h : pattern_bytes_class.f s name = some (b, t)) :
 Calls Try.prog 47 #[.pointer (some ⟨g, 0, none⟩), .string name] w fun e w' => e = .returned (.bool b) ∧ w'.heap[g]? = some (.cells (setCells t) 72 (0, 0)) ∧ Below g w w' := by
 have H : _ = some (b, t) := h
 clear h
 unfold pattern_bytes_class.f at H
 have BK := m_ hB
 have HB := m_ (Below.refl g w)
 clear hB
 by_cases c0 : name.toList = ([97, 108, 112, 104, 97] : List UInt8)
 ·
  rw [if_pos c0] at H
  have c0b0 : (name.toList == ([97, 108, 112, 104, 97] : List UInt8)) = true := beq_iff_eq.mpr c0
  replace H := Option.bind_eq_some_iff.mp H
  obtain ⟨s1, A10, H⟩ := H
  have A1 := m_ A10
  clear A10
  replace H := Option.bind_eq_some_iff.mp H
  obtain ⟨s2, A20, H⟩ := H
  have A2 := m_ A20
  clear A20
  simp only [Option.some.injEq, Prod.mk.injEq] at H
  obtain ⟨rfl, rfl⟩ := H
  go_enter Try.func47, Try.ntmps47
  go_wp2_with (first | (go_at_call 48; (with_reducible refine (pattern_bytes_add.calls s 65 90 s1 g _ ?hb A1.out).mono ?_); (case hb => first | exact BK.out | exact b1_ BK.out _); rintro e w1 ⟨v, rfl, hs, hb⟩; have n0_ := m_ hs; have n1_ := m_ (by first | exact HB.out.trans hb | exact (drB HB.out _).trans hb); clear BK HB hs hb; have BK := n0_; have HB := n1_; clear n0_ n1_) | (go_at_call 48; (with_reducible refine (pattern_bytes_add.calls s1 97 122 s2 g _ ?hb A2.out).mono ?_); (case hb => first | exact BK.out | exact b1_ BK.out _); rintro e w2 ⟨v, rfl, hs, hb⟩; have n0_ := m_ hs; have n1_ := m_ (by first | exact HB.out.trans hb | exact (drB HB.out _).trans hb); clear BK HB hs hb; have BK := n0_; have HB := n1_; clear n0_ n1_))
  go_ret
  exact ⟨rfl, (by first | exact BK.out | exact b1_ BK.out _), (by first | exact HB.out | exact drB HB.out _)⟩
 rw [if_neg c0] at H
 have c0b0 : (name.toList == ([97, 108, 112, 104, 97] : List UInt8)) = false := beq_eq_false_iff_ne.mpr c0
 by_cases c1 : name.toList = ([100, 105, 103, 105, 116] : List UInt8)
 ·
  rw [if_pos c1] at H
  have c1b0 : (name.toList == ([100, 105, 103, 105, 116] : List UInt8)) = true := beq_iff_eq.mpr c1
  replace H := Option.bind_eq_some_iff.mp H
  obtain ⟨s1, A10, H⟩ := H
  have A1 := m_ A10
  clear A10
  simp only [Option.some.injEq, Prod.mk.injEq] at H
  obtain ⟨rfl, rfl⟩ := H
  go_enter Try.func47, Try.ntmps47
  go_wp2_with (first | (go_at_call 48; (with_reducible refine (pattern_bytes_add.calls s 48 57 s1 g _ ?hb A1.out).mono ?_); (case hb => first | exact BK.out | exact b1_ BK.out _); rintro e w1 ⟨v, rfl, hs, hb⟩; have n0_ := m_ hs; have n1_ := m_ (by first | exact HB.out.trans hb | exact (drB HB.out _).trans hb); clear BK HB hs hb; have BK := n0_; have HB := n1_; clear n0_ n1_))
  go_ret
  exact ⟨rfl, (by first | exact BK.out | exact b1_ BK.out _), (by first | exact HB.out | exact drB HB.out _)⟩
 rw [if_neg c1] at H
 have c1b0 : (name.toList == ([100, 105, 103, 105, 116] : List UInt8)) = false := beq_eq_false_iff_ne.mpr c1
 by_cases c2 : name.toList = ([97, 108, 110, 117, 109] : List UInt8)
 ·
  rw [if_pos c2] at H
  have c2b0 : (name.toList == ([97, 108, 110, 117, 109] : List UInt8)) = true := beq_iff_eq.mpr c2
  replace H := Option.bind_eq_some_iff.mp H
  obtain ⟨s1, A10, H⟩ := H
  have A1 := m_ A10
  clear A10
  replace H := Option.bind_eq_some_iff.mp H
  obtain ⟨s2, A20, H⟩ := H
  have A2 := m_ A20
  clear A20
  replace H := Option.bind_eq_some_iff.mp H
  obtain ⟨s3, A30, H⟩ := H
  have A3 := m_ A30
  clear A30
  simp only [Option.some.injEq, Prod.mk.injEq] at H
  obtain ⟨rfl, rfl⟩ := H
  go_enter Try.func47, Try.ntmps47
  go_wp2_with (first | (go_at_call 48; (with_reducible refine (pattern_bytes_add.calls s 65 90 s1 g _ ?hb A1.out).mono ?_); (case hb => first | exact BK.out | exact b1_ BK.out _); rintro e w1 ⟨v, rfl, hs, hb⟩; have n0_ := m_ hs; have n1_ := m_ (by first | exact HB.out.trans hb | exact (drB HB.out _).trans hb); clear BK HB hs hb; have BK := n0_; have HB := n1_; clear n0_ n1_) | (go_at_call 48; (with_reducible refine (pattern_bytes_add.calls s1 97 122 s2 g _ ?hb A2.out).mono ?_); (case hb => first | exact BK.out | exact b1_ BK.out _); rintro e w2 ⟨v, rfl, hs, hb⟩; have n0_ := m_ hs; have n1_ := m_ (by first | exact HB.out.trans hb | exact (drB HB.out _).trans hb); clear BK HB hs hb; have BK := n0_; have HB := n1_; clear n0_ n1_) | (go_at_call 48; (with_reducible refine (pattern_bytes_add.calls s2 48 57 s3 g _ ?hb A3.out).mono ?_); (case hb => first | exact BK.out | exact b1_ BK.out _); rintro e w3 ⟨v, rfl, hs, hb⟩; have n0_ := m_ hs; have n1_ := m_ (by first | exact HB.out.trans hb | exact (drB HB.out _).trans hb); clear BK HB hs hb; have BK := n0_; have HB := n1_; clear n0_ n1_))
  go_ret
  exact ⟨rfl, (by first | exact BK.out | exact b1_ BK.out _), (by first | exact HB.out | exact drB HB.out _)⟩
 rw [if_neg c2] at H
 have c2b0 : (name.toList == ([97, 108, 110, 117, 109] : List UInt8)) = false := beq_eq_false_iff_ne.mpr c2
 by_cases c3 : name.toList = ([117, 112, 112, 101, 114] : List UInt8)
 ·
  rw [if_pos c3] at H
  have c3b0 : (name.toList == ([117, 112, 112, 101, 114] : List UInt8)) = true := beq_iff_eq.mpr c3
  replace H := Option.bind_eq_some_iff.mp H
  obtain ⟨s1, A10, H⟩ := H
  have A1 := m_ A10
  clear A10
  simp only [Option.some.injEq, Prod.mk.injEq] at H
  obtain ⟨rfl, rfl⟩ := H
  go_enter Try.func47, Try.ntmps47
  go_wp2_with (first | (go_at_call 48; (with_reducible refine (pattern_bytes_add.calls s 65 90 s1 g _ ?hb A1.out).mono ?_); (case hb => first | exact BK.out | exact b1_ BK.out _); rintro e w1 ⟨v, rfl, hs, hb⟩; have n0_ := m_ hs; have n1_ := m_ (by first | exact HB.out.trans hb | exact (drB HB.out _).trans hb); clear BK HB hs hb; have BK := n0_; have HB := n1_; clear n0_ n1_))
  go_ret
  exact ⟨rfl, (by first | exact BK.out | exact b1_ BK.out _), (by first | exact HB.out | exact drB HB.out _)⟩
 rw [if_neg c3] at H
 have c3b0 : (name.toList == ([117, 112, 112, 101, 114] : List UInt8)) = false := beq_eq_false_iff_ne.mpr c3
 by_cases c4 : name.toList = ([108, 111, 119, 101, 114] : List UInt8)
 ·
  rw [if_pos c4] at H
  have c4b0 : (name.toList == ([108, 111, 119, 101, 114] : List UInt8)) = true := beq_iff_eq.mpr c4
  replace H := Option.bind_eq_some_iff.mp H
  obtain ⟨s1, A10, H⟩ := H
  have A1 := m_ A10
  clear A10
  simp only [Option.some.injEq, Prod.mk.injEq] at H
  obtain ⟨rfl, rfl⟩ := H
  go_enter Try.func47, Try.ntmps47
  go_wp2_with (first | (go_at_call 48; (with_reducible refine (pattern_bytes_add.calls s 97 122 s1 g _ ?hb A1.out).mono ?_); (case hb => first | exact BK.out | exact b1_ BK.out _); rintro e w1 ⟨v, rfl, hs, hb⟩; have n0_ := m_ hs; have n1_ := m_ (by first | exact HB.out.trans hb | exact (drB HB.out _).trans hb); clear BK HB hs hb; have BK := n0_; have HB := n1_; clear n0_ n1_))
  go_ret
  exact ⟨rfl, (by first | exact BK.out | exact b1_ BK.out _), (by first | exact HB.out | exact drB HB.out _)⟩
 rw [if_neg c4] at H
 have c4b0 : (name.toList == ([108, 111, 119, 101, 114] : List UInt8)) = false := beq_eq_false_iff_ne.mpr c4
 by_cases c5 : name.toList = ([115, 112, 97, 99, 101] : List UInt8)
 ·
  rw [if_pos c5] at H
  have c5b0 : (name.toList == ([115, 112, 97, 99, 101] : List UInt8)) = true := beq_iff_eq.mpr c5
  replace H := Option.bind_eq_some_iff.mp H
  obtain ⟨s1, A10, H⟩ := H
  have A1 := m_ A10
  clear A10
  replace H := Option.bind_eq_some_iff.mp H
  obtain ⟨s2, A20, H⟩ := H
  have A2 := m_ A20
  clear A20
  simp only [Option.some.injEq, Prod.mk.injEq] at H
  obtain ⟨rfl, rfl⟩ := H
  go_enter Try.func47, Try.ntmps47
  go_wp2_with (first | (go_at_call 48; (with_reducible refine (pattern_bytes_add.calls s 9 13 s1 g _ ?hb A1.out).mono ?_); (case hb => first | exact BK.out | exact b1_ BK.out _); rintro e w1 ⟨v, rfl, hs, hb⟩; have n0_ := m_ hs; have n1_ := m_ (by first | exact HB.out.trans hb | exact (drB HB.out _).trans hb); clear BK HB hs hb; have BK := n0_; have HB := n1_; clear n0_ n1_) | (go_at_call 48; (with_reducible refine (pattern_bytes_add.calls s1 32 32 s2 g _ ?hb A2.out).mono ?_); (case hb => first | exact BK.out | exact b1_ BK.out _); rintro e w2 ⟨v, rfl, hs, hb⟩; have n0_ := m_ hs; have n1_ := m_ (by first | exact HB.out.trans hb | exact (drB HB.out _).trans hb); clear BK HB hs hb; have BK := n0_; have HB := n1_; clear n0_ n1_))
  go_ret
  exact ⟨rfl, (by first | exact BK.out | exact b1_ BK.out _), (by first | exact HB.out | exact drB HB.out _)⟩
 rw [if_neg c5] at H
 have c5b0 : (name.toList == ([115, 112, 97, 99, 101] : List UInt8)) = false := beq_eq_false_iff_ne.mpr c5
 by_cases c6 : name.toList = ([98, 108, 97, 110, 107] : List UInt8)
 ·
  rw [if_pos c6] at H
  have c6b0 : (name.toList == ([98, 108, 97, 110, 107] : List UInt8)) = true := beq_iff_eq.mpr c6
  replace H := Option.bind_eq_some_iff.mp H
  obtain ⟨s1, A10, H⟩ := H
  have A1 := m_ A10
  clear A10
  replace H := Option.bind_eq_some_iff.mp H
  obtain ⟨s2, A20, H⟩ := H
  have A2 := m_ A20
  clear A20
  simp only [Option.some.injEq, Prod.mk.injEq] at H
  obtain ⟨rfl, rfl⟩ := H
  go_enter Try.func47, Try.ntmps47
  go_wp2_with (first | (go_at_call 48; (with_reducible refine (pattern_bytes_add.calls s 9 9 s1 g _ ?hb A1.out).mono ?_); (case hb => first | exact BK.out | exact b1_ BK.out _); rintro e w1 ⟨v, rfl, hs, hb⟩; have n0_ := m_ hs; have n1_ := m_ (by first | exact HB.out.trans hb | exact (drB HB.out _).trans hb); clear BK HB hs hb; have BK := n0_; have HB := n1_; clear n0_ n1_) | (go_at_call 48; (with_reducible refine (pattern_bytes_add.calls s1 32 32 s2 g _ ?hb A2.out).mono ?_); (case hb => first | exact BK.out | exact b1_ BK.out _); rintro e w2 ⟨v, rfl, hs, hb⟩; have n0_ := m_ hs; have n1_ := m_ (by first | exact HB.out.trans hb | exact (drB HB.out _).trans hb); clear BK HB hs hb; have BK := n0_; have HB := n1_; clear n0_ n1_))
  go_ret
  exact ⟨rfl, (by first | exact BK.out | exact b1_ BK.out _), (by first | exact HB.out | exact drB HB.out _)⟩
 rw [if_neg c6] at H
 have c6b0 : (name.toList == ([98, 108, 97, 110, 107] : List UInt8)) = false := beq_eq_false_iff_ne.mpr c6
 by_cases c7 : name.toList = ([112, 117, 110, 99, 116] : List UInt8)
 ·
  rw [if_pos c7] at H
  have c7b0 : (name.toList == ([112, 117, 110, 99, 116] : List UInt8)) = true := beq_iff_eq.mpr c7
  replace H := Option.bind_eq_some_iff.mp H
  obtain ⟨s1, A10, H⟩ := H
  have A1 := m_ A10
  clear A10
  replace H := Option.bind_eq_some_iff.mp H
  obtain ⟨s2, A20, H⟩ := H
  have A2 := m_ A20
  clear A20
  replace H := Option.bind_eq_some_iff.mp H
  obtain ⟨s3, A30, H⟩ := H
  have A3 := m_ A30
  clear A30
  replace H := Option.bind_eq_some_iff.mp H
  obtain ⟨s4, A40, H⟩ := H
  have A4 := m_ A40
  clear A40
  simp only [Option.some.injEq, Prod.mk.injEq] at H
  obtain ⟨rfl, rfl⟩ := H
  go_enter Try.func47, Try.ntmps47
  go_wp2_with (first | (go_at_call 48; (with_reducible refine (pattern_bytes_add.calls s 33 47 s1 g _ ?hb A1.out).mono ?_); (case hb => first | exact BK.out | exact b1_ BK.out _); rintro e w1 ⟨v, rfl, hs, hb⟩; have n0_ := m_ hs; have n1_ := m_ (by first | exact HB.out.trans hb | exact (drB HB.out _).trans hb); clear BK HB hs hb; have BK := n0_; have HB := n1_; clear n0_ n1_) | (go_at_call 48; (with_reducible refine (pattern_bytes_add.calls s1 58 64 s2 g _ ?hb A2.out).mono ?_); (case hb => first | exact BK.out | exact b1_ BK.out _); rintro e w2 ⟨v, rfl, hs, hb⟩; have n0_ := m_ hs; have n1_ := m_ (by first | exact HB.out.trans hb | exact (drB HB.out _).trans hb); clear BK HB hs hb; have BK := n0_; have HB := n1_; clear n0_ n1_) | (go_at_call 48; (with_reducible refine (pattern_bytes_add.calls s2 91 96 s3 g _ ?hb A3.out).mono ?_); (case hb => first | exact BK.out | exact b1_ BK.out _); rintro e w3 ⟨v, rfl, hs, hb⟩; have n0_ := m_ hs; have n1_ := m_ (by first | exact HB.out.trans hb | exact (drB HB.out _).trans hb); clear BK HB hs hb; have BK := n0_; have HB := n1_; clear n0_ n1_) | (go_at_call 48; (with_reducible refine (pattern_bytes_add.calls s3 123 126 s4 g _ ?hb A4.out).mono ?_); (case hb => first | exact BK.out | exact b1_ BK.out _); rintro e w4 ⟨v, rfl, hs, hb⟩; have n0_ := m_ hs; have n1_ := m_ (by first | exact HB.out.trans hb | exact (drB HB.out _).trans hb); clear BK HB hs hb; have BK := n0_; have HB := n1_; clear n0_ n1_))
  go_ret
  exact ⟨rfl, (by first | exact BK.out | exact b1_ BK.out _), (by first | exact HB.out | exact drB HB.out _)⟩
 rw [if_neg c7] at H
 have c7b0 : (name.toList == ([112, 117, 110, 99, 116] : List UInt8)) = false := beq_eq_false_iff_ne.mpr c7
 simp only [Option.some.injEq, Prod.mk.injEq] at H
 obtain ⟨rfl, rfl⟩ := H
 go_enter Try.func47, Try.ntmps47
 go_wp2_with fail
 go_ret
 exact ⟨rfl, (by first | exact BK.out | exact b1_ BK.out _), (by first | exact HB.out | exact drB HB.out _)⟩

end Go.Proofs.Ytbekhjcnmifnnaa.Q
