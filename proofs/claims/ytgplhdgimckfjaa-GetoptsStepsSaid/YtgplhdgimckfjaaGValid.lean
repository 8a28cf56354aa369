/- The contract of getopts.Valid, by hand: the function keeps a local array of 256 bools; it returns what the function below tells. No conditions. -/
import Derived.Test.YtgplhdgimckfjaaQ3
import Derived.Test.YtgplhdgimckfjaaQ4
set_option linter.unusedVariables false
set_option linter.unusedSimpArgs false
namespace Go.Proofs.Ytgplhdgimckfjaa.Q
open Go.RowKit Go.Proofs.YtgplhdgimckfjaaW.PrintWords Go.Proofs.YtgplhdgimckfjaaW.PrintLast Go.Proofs.YtgplhdgimckfjaaW.PrintMore

/-- The letters are looked at one by one; met: which were met; tw: was one met twice. -/
def getopts_Valid.l0 : Nat → ByteArray → List Bool → Bool → Int → Option Int
  | 0, _, _, _, _ => none
  | k + 1, s, met, tw, i =>
    if i < (s.size : Int) then
      (if 0 ≤ i then
        (if bt s i = 58 then
          (if i > 0 then
            (if 0 ≤ (wrap64 (i - 1)) then
              (if (wrap64 (i - 1)) < (s.size : Int) then
                (if bt s (wrap64 (i - 1)) = 58 then ((getopts_letter.f (bt s i)).bind fun b => (if b = true then getopts_Valid.l0 k s (met.set (bt s i).toNat true) (tw || rdOf false met (bt s i)) (wrap64 (i + 1)) else some 6))
                 else getopts_Valid.l0 k s met tw (wrap64 (i + 1)))
               else none)
             else none)
           else ((getopts_letter.f (bt s i)).bind fun b => (if b = true then getopts_Valid.l0 k s (met.set (bt s i).toNat true) (tw || rdOf false met (bt s i)) (wrap64 (i + 1)) else some 6)))
         else ((getopts_letter.f (bt s i)).bind fun b => (if b = true then getopts_Valid.l0 k s (met.set (bt s i).toNat true) (tw || rdOf false met (bt s i)) (wrap64 (i + 1)) else some 6)))
       else none)
    else some (if tw = true then 9 else 0)
def getopts_Valid.f (a0 : ByteArray) : Option Int := (getopts_split.f a0).bind fun p => getopts_Valid.l0 (p.1.size + 1) p.1 (List.replicate 256 false) false 0

/-- The array's cells. -/
def boolCells (met : List Bool) : Array Value := (met.map Value.bool).toArray
theorem boolCells_get (met : List Bool) (i : Nat) (h : i < met.length) : (boolCells met)[i]? = some (.bool (met.getD i false)) := by
  simp [boolCells, List.getD_eq_getElem?_getD, List.getElem?_eq_getElem h]
theorem boolCells_set (met : List Bool) (i : Nat) (b : Bool) : (boolCells met).setIfInBounds i (.bool b) = boolCells (met.set i b) := by
  simp [boolCells, List.map_set]

theorem alloc48 (ev : Operand → Value) (W : World) : Sem.run Try.prog (execOp ev { dst := some 5, op := Op.alloc 48, type := 0, pos := "getopts.go:29", after := #[], guard := none }) W =
    .ok (Next.value (.pointer (some ⟨W.heap.size, 0, none⟩))) (W.alloc (.cells (boolCells (List.replicate 256 false)) 48 (0, 0))) := by kernel_rfl

set_option maxHeartbeats 1000000 in
set_option maxRecDepth 100000 in
theorem getopts_Valid.calls (a0 : ByteArray) (r : Int) (w : World) (h : getopts_Valid.f a0 = some r) :
    Calls Try.prog 10 #[.string a0] w fun e w' => e = .returned (.int .i64 r) ∧ Below w.heap.size w w' := by
  unfold getopts_Valid.f at h
  replace h := Option.bind_eq_some_iff.mp h
  obtain ⟨⟨s, si⟩, A1, h⟩ := h
  replace h : getopts_Valid.l0 (s.size + 1) s (List.replicate 256 false) false 0 = some r := h
  have A := Aside0.mk A1
  have H' := Aside0.mk h
  clear A1 h
  have HB := Aside0.mk (Below.refl w.heap.size w)
  go_enter Try.func10, Try.ntmps10
  go_wp2_with (first | (go_at_call 19; (with_reducible refine (getopts_split.calls a0 s si _ A.out).mono ?_); rintro e w' ⟨rfl, ⟨nd, rfl⟩⟩) | ((with_reducible refine gate_dst (N := 5) rfl ?_); refine box_event ?hg (N := 5) ?hd (cs := boolCells (List.replicate 256 false)) (t := 48) ?hr ?_; (case hd => rfl); (case hg => rfl); (case hr => exact alloc48 _ _); intro gb hg w3 hbox hb; have BK := Aside0.mk hbox; have GE := Aside0.mk (show w.heap.size ≤ gb by rw [hg]; exact Nat.le_refl _); have n1_ := Aside0.mk (below_step (pw_below_drewN HB.out nd) hb); clear HB; have HB := n1_; clear n1_; clear hbox hb hg))
  go_loopg [6, 16] (s.size + 1) (fun kq v6 v16 wr => ∃ (met : List Bool) (t : Bool) (i : Int), v6 = .bool t ∧ v16 = .int .i64 i ∧ Aside0 (getopts_Valid.l0 kq s met t i = some r) ∧ Aside0 (kq ≤ s.size + 1) ∧ Aside0 (met.length = 256) ∧ Aside0 (wr.heap[gb]? = some (.cells (boolCells met) 48 (0, 0))) ∧ Aside0 (Below w.heap.size w wr))
  case atStart => exact ⟨_, _, _, rfl, rfl, H', ⟨Nat.le_refl _⟩, ⟨by simp⟩, BK, HB⟩
  case round =>
    clear H' BK HB
    obtain ⟨met, t, i, rfl, rfl, HA, HK, HL, BK, HB⟩ := hrel
    cases gk with
    | zero => exact absurd HA.out (by simp [getopts_Valid.l0])
    | succ k1 =>
      have H := HA.out
      clear HA
      simp only [getopts_Valid.l0] at H
      have hr := bt_range s i
      have hc0 : 0 ≤ bt s i := hr.1
      have hc1 : bt s i < 256 := by omega
      clear hr
      by_cases c3 : i < (s.size : Int)
      · rw [if_pos c3] at H
        have c3b0 : decide (i < (s.size : Int)) = true := decide_eq_true c3
        by_cases c4 : 0 ≤ i
        · rw [if_pos c4] at H
          have hx6 := bt_at s i
          have p6 := eq_true c4
          have q6 := eq_true c3
          by_cases c5 : bt s i = 58
          · rw [if_pos c5] at H
            have c5b0 : (bt s i == 58) = true := beq_iff_eq.mpr c5
            clear c5
            by_cases c6 : i > 0
            · rw [if_pos c6] at H
              have c6b0 : decide (0 < i) = true := decide_eq_true c6
              clear c6
              obtain ⟨j, hj⟩ : ∃ j, wrap64 (i - 1) = j := ⟨_, rfl⟩
              rw [hj] at H
              have hjw : (IntKind.i64.wrap (i - 1)) = j := (i64_w _).trans hj
              by_cases c7 : 0 ≤ j
              · rw [if_pos c7] at H
                by_cases c8 : j < (s.size : Int)
                · rw [if_pos c8] at H
                  have hx7 := bt_at s j
                  have p7 := eq_true c7
                  have q7 := eq_true c8
                  by_cases c9 : bt s j = 58
                  · rw [if_pos c9] at H
                    have c9b0 : (bt s j != 58) = false := bne_eq_false_iff_eq.mpr c9
                    clear c9
                    replace H := Option.bind_eq_some_iff.mp H
                    obtain ⟨b, L0, H⟩ := H
                    replace H : (if b = true then getopts_Valid.l0 k1 s (met.set (bt s i).toNat true) (t || rdOf false met (bt s i)) (wrap64 (i + 1)) else some 6) = some r := H
                    have L := Aside0.mk L0
                    clear L0
                    cases b with
                    | false =>
                      obtain rfl : (6 : Int) = r := by simpa using H
                      clear H
                      go_wp2_with (go_at_call 20; (with_reducible refine (getopts_letter.calls (bt s i) false _ L.out).mono ?_); rintro e w' ⟨rfl, ⟨nd2, rfl⟩⟩)
                      go_ret
                      exact ⟨rfl, pw_below_drewN HB.out _⟩
                    | true =>
                      have H' : Aside0 (getopts_Valid.l0 k1 s (met.set (bt s i).toNat true) (t || rdOf false met (bt s i)) (wrap64 (i + 1)) = some r) := ⟨by simpa using H⟩
                      clear H
                      have hcell : wr.cell? ⟨gb, (bt s i).toNat, none⟩ = some (.bool (rdOf false met (bt s i))) := (blk_cell BK.out _).trans (boolCells_get met _ (by have := HL.out; have := bt_range s i; omega))
                      have hfz := blk_frozen BK.out (bt s i).toNat
                      have BK2 := Aside0.mk (blk_put BK.out (bt s i).toNat (.bool true) (boolCells_set met _ true))
                      cases t with
                      | false =>
                        go_wp2_with (go_at_call 20; (with_reducible refine (getopts_letter.calls (bt s i) true _ L.out).mono ?_); rintro e w' ⟨rfl, ⟨nd2, rfl⟩⟩)
                        go_roundg k1
                        case measure => have := HK.out; omega
                        case rel => exact ⟨met.set (bt s i).toNat true, false || rdOf false met (bt s i), wrap64 (i + 1), (by first | rfl | simp), rfl, H', ⟨by have := HK.out; omega⟩, ⟨by rw [List.length_set]; exact HL.out⟩, ⟨by first | exact BK2.out | exact blk_drewN BK2.out _⟩, ⟨by first | exact below_set (pw_below_drewN HB.out _) GE.out | exact pw_below_drewN (below_set HB.out GE.out) _⟩⟩
                      | true =>
                        go_wp2_with (go_at_call 20; (with_reducible refine (getopts_letter.calls (bt s i) true _ L.out).mono ?_); rintro e w' ⟨rfl, ⟨nd2, rfl⟩⟩)
                        go_roundg k1
                        case measure => have := HK.out; omega
                        case rel => exact ⟨met.set (bt s i).toNat true, true || rdOf false met (bt s i), wrap64 (i + 1), (by first | rfl | simp), rfl, H', ⟨by have := HK.out; omega⟩, ⟨by rw [List.length_set]; exact HL.out⟩, ⟨by first | exact BK2.out | exact blk_drewN BK2.out _⟩, ⟨by first | exact below_set (pw_below_drewN HB.out _) GE.out | exact pw_below_drewN (below_set HB.out GE.out) _⟩⟩
                  · rw [if_neg c9] at H
                    have c9b0 : (bt s j != 58) = true := bne_iff_ne.mpr c9
                    clear c9
                    have H' := Aside0.mk H
                    clear H
                    go_wp2
                    go_roundg k1
                    case measure => have := HK.out; omega
                    case rel => exact ⟨met, t, wrap64 (i + 1), rfl, rfl, H', ⟨by have := HK.out; omega⟩, HL, BK, HB⟩
                · rw [if_neg c8] at H
                  exact absurd H (by simp)
              · rw [if_neg c7] at H
                exact absurd H (by simp)
            · rw [if_neg c6] at H
              have c6b0 : decide (0 < i) = false := decide_eq_false c6
              clear c6
              replace H := Option.bind_eq_some_iff.mp H
              obtain ⟨b, L0, H⟩ := H
              replace H : (if b = true then getopts_Valid.l0 k1 s (met.set (bt s i).toNat true) (t || rdOf false met (bt s i)) (wrap64 (i + 1)) else some 6) = some r := H
              have L := Aside0.mk L0
              clear L0
              cases b with
              | false =>
                obtain rfl : (6 : Int) = r := by simpa using H
                clear H
                go_wp2_with (go_at_call 20; (with_reducible refine (getopts_letter.calls (bt s i) false _ L.out).mono ?_); rintro e w' ⟨rfl, ⟨nd2, rfl⟩⟩)
                go_ret
                exact ⟨rfl, pw_below_drewN HB.out _⟩
              | true =>
                have H' : Aside0 (getopts_Valid.l0 k1 s (met.set (bt s i).toNat true) (t || rdOf false met (bt s i)) (wrap64 (i + 1)) = some r) := ⟨by simpa using H⟩
                clear H
                have hcell : wr.cell? ⟨gb, (bt s i).toNat, none⟩ = some (.bool (rdOf false met (bt s i))) := (blk_cell BK.out _).trans (boolCells_get met _ (by have := HL.out; have := bt_range s i; omega))
                have hfz := blk_frozen BK.out (bt s i).toNat
                have BK2 := Aside0.mk (blk_put BK.out (bt s i).toNat (.bool true) (boolCells_set met _ true))
                cases t with
                | false =>
                  go_wp2_with (go_at_call 20; (with_reducible refine (getopts_letter.calls (bt s i) true _ L.out).mono ?_); rintro e w' ⟨rfl, ⟨nd2, rfl⟩⟩)
                  go_roundg k1
                  case measure => have := HK.out; omega
                  case rel => exact ⟨met.set (bt s i).toNat true, false || rdOf false met (bt s i), wrap64 (i + 1), (by first | rfl | simp), rfl, H', ⟨by have := HK.out; omega⟩, ⟨by rw [List.length_set]; exact HL.out⟩, ⟨by first | exact BK2.out | exact blk_drewN BK2.out _⟩, ⟨by first | exact below_set (pw_below_drewN HB.out _) GE.out | exact pw_below_drewN (below_set HB.out GE.out) _⟩⟩
                | true =>
                  go_wp2_with (go_at_call 20; (with_reducible refine (getopts_letter.calls (bt s i) true _ L.out).mono ?_); rintro e w' ⟨rfl, ⟨nd2, rfl⟩⟩)
                  go_roundg k1
                  case measure => have := HK.out; omega
                  case rel => exact ⟨met.set (bt s i).toNat true, true || rdOf false met (bt s i), wrap64 (i + 1), (by first | rfl | simp), rfl, H', ⟨by have := HK.out; omega⟩, ⟨by rw [List.length_set]; exact HL.out⟩, ⟨by first | exact BK2.out | exact blk_drewN BK2.out _⟩, ⟨by first | exact below_set (pw_below_drewN HB.out _) GE.out | exact pw_below_drewN (below_set HB.out GE.out) _⟩⟩
          · rw [if_neg c5] at H
            have c5b0 : (bt s i == 58) = false := beq_eq_false_iff_ne.mpr c5
            clear c5
            replace H := Option.bind_eq_some_iff.mp H
            obtain ⟨b, L0, H⟩ := H
            replace H : (if b = true then getopts_Valid.l0 k1 s (met.set (bt s i).toNat true) (t || rdOf false met (bt s i)) (wrap64 (i + 1)) else some 6) = some r := H
            have L := Aside0.mk L0
            clear L0
            cases b with
            | false =>
              obtain rfl : (6 : Int) = r := by simpa using H
              clear H
              go_wp2_with (go_at_call 20; (with_reducible refine (getopts_letter.calls (bt s i) false _ L.out).mono ?_); rintro e w' ⟨rfl, ⟨nd2, rfl⟩⟩)
              go_ret
              exact ⟨rfl, pw_below_drewN HB.out _⟩
            | true =>
              have H' : Aside0 (getopts_Valid.l0 k1 s (met.set (bt s i).toNat true) (t || rdOf false met (bt s i)) (wrap64 (i + 1)) = some r) := ⟨by simpa using H⟩
              clear H
              have hcell : wr.cell? ⟨gb, (bt s i).toNat, none⟩ = some (.bool (rdOf false met (bt s i))) := (blk_cell BK.out _).trans (boolCells_get met _ (by have := HL.out; have := bt_range s i; omega))
              have hfz := blk_frozen BK.out (bt s i).toNat
              have BK2 := Aside0.mk (blk_put BK.out (bt s i).toNat (.bool true) (boolCells_set met _ true))
              cases t with
              | false =>
                go_wp2_with (go_at_call 20; (with_reducible refine (getopts_letter.calls (bt s i) true _ L.out).mono ?_); rintro e w' ⟨rfl, ⟨nd2, rfl⟩⟩)
                go_roundg k1
                case measure => have := HK.out; omega
                case rel => exact ⟨met.set (bt s i).toNat true, false || rdOf false met (bt s i), wrap64 (i + 1), (by first | rfl | simp), rfl, H', ⟨by have := HK.out; omega⟩, ⟨by rw [List.length_set]; exact HL.out⟩, ⟨by first | exact BK2.out | exact blk_drewN BK2.out _⟩, ⟨by first | exact below_set (pw_below_drewN HB.out _) GE.out | exact pw_below_drewN (below_set HB.out GE.out) _⟩⟩
              | true =>
                go_wp2_with (go_at_call 20; (with_reducible refine (getopts_letter.calls (bt s i) true _ L.out).mono ?_); rintro e w' ⟨rfl, ⟨nd2, rfl⟩⟩)
                go_roundg k1
                case measure => have := HK.out; omega
                case rel => exact ⟨met.set (bt s i).toNat true, true || rdOf false met (bt s i), wrap64 (i + 1), (by first | rfl | simp), rfl, H', ⟨by have := HK.out; omega⟩, ⟨by rw [List.length_set]; exact HL.out⟩, ⟨by first | exact BK2.out | exact blk_drewN BK2.out _⟩, ⟨by first | exact below_set (pw_below_drewN HB.out _) GE.out | exact pw_below_drewN (below_set HB.out GE.out) _⟩⟩
        · rw [if_neg c4] at H
          exact absurd H (by simp)
      · rw [if_neg c3] at H
        have c3b0 : decide (i < (s.size : Int)) = false := decide_eq_false c3
        cases t with
        | false =>
          obtain rfl : (0 : Int) = r := by simpa using H
          clear H
          go_wp2
          go_ret
          exact ⟨rfl, HB.out⟩
        | true =>
          obtain rfl : (9 : Int) = r := by simpa using H
          clear H
          go_wp2
          go_ret
          exact ⟨rfl, HB.out⟩
end Go.Proofs.Ytgplhdgimckfjaa.Q
