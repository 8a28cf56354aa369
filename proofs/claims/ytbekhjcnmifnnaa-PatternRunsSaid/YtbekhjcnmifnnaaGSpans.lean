/- The contract of the method spans of pattern.bytes: it returns the spans of the set's bytes. No conditions beyond those written. -/
import Derived.Test.YtbekhjcnmifnnaaGBytes
namespace Go.Proofs.Ytbekhjcnmifnnaa.Q
open Go.RowKit Go.Proofs.YtbekhjcnmifnnaaW.PrintWords Go.Proofs.YtbekhjcnmifnnaaW.PrintLast Go.Proofs.YtbekhjcnmifnnaaW.PrintMore
set_option linter.unusedVariables false
set_option linter.unusedSimpArgs false

def pattern_bytes_has.f (s : ByteArray) (c : Int) : Option Bool := if 0 ≤ c ∧ c < 256 then some (setHas s c.toNat) else none
theorem has_iff {s : ByteArray} {c : Int} {b : Bool} (h : pattern_bytes_has.f s c = some b) : 0 ≤ c ∧ c < 256 ∧ setHas s c.toNat = b := by
 unfold pattern_bytes_has.f at h
 by_cases e : 0 ≤ c ∧ c < 256
 ·
  rw [if_pos e] at h
  exact ⟨e.1, e.2, Option.some.inj h⟩
 ·
  rw [if_neg e] at h
  exact absurd h (by simp)
theorem has_lo {s : ByteArray} {c : Int} {b : Bool} (h : pattern_bytes_has.f s c = some b) : 0 ≤ c := (has_iff h).1
theorem has_hi {s : ByteArray} {c : Int} {b : Bool} (h : pattern_bytes_has.f s c = some b) : c < 256 := (has_iff h).2.1
theorem has_cell {w w' : World} {g : Nat} {s : ByteArray} {c : Int} {b : Bool} (hS : w.heap[g]? = some (.cells (setCells s) 72 (0, 0))) (hB : Below w.heap.size w w') (h : pattern_bytes_has.f s c = some b) : w'.cell? ⟨g, c.toNat, none⟩ = some (.bool b) := by
 obtain ⟨h0, h1, h2⟩ := has_iff h
 rw [← h2]
 exact (b5_ (b4_ hS hB) _).trans (setCells_get s _ (by omega))
theorem has_frozen {w w' : World} {g : Nat} {s : ByteArray} (hS : w.heap[g]? = some (.cells (setCells s) 72 (0, 0))) (hB : Below w.heap.size w w') (i : Nat) : w'.frozen? ⟨g, i, none⟩ = false := f1_ (b4_ hS hB) i

/-! ### pattern_bytes_spans: function 45 -/
mutual
def pattern_bytes_spansK.l0 : Nat → ByteArray → List (S58) → Int → Option ((List (S58)))
 | 0, _, _, _ => none
 | k + 1, x0, x3, x4 => if x4 < 256 then ((pattern_bytes_has.f x0 x4).bind fun t106 => (if t106 = true then (pattern_bytes_spansK.l1 k x0 x3 x4 x4) else (pattern_bytes_spansK.l0 k x0 x3 (wrap64 (x4 + 1))))) else (some x3)
def pattern_bytes_spansK.l1 : Nat → ByteArray → List (S58) → Int → Int → Option ((List (S58)))
 | 0, _, _, _, _ => none
 | k + 1, x0, x3, x4, x5 => if x4 < 255 then ((pattern_bytes_has.f x0 (wrap64 (x4 + 1))).bind fun t107 => (if t107 = true then (pattern_bytes_spansK.l1 k x0 x3 (wrap64 (x4 + 1)) x5) else (if x3.length < 70368744177664 then (pattern_bytes_spansK.l0 k x0 (x3 ++ [(⟨(x5) % 256, (x4) % 256⟩ : S58)]) (wrap64 (x4 + 1))) else (none)))) else (if x3.length < 70368744177664 then (pattern_bytes_spansK.l0 k x0 (x3 ++ [(⟨(x5) % 256, (x4) % 256⟩ : S58)]) (wrap64 (x4 + 1))) else (none))
end
def pattern_bytes_spansK.f (k : Nat) (a0 : ByteArray) : Option ((List (S58))) := pattern_bytes_spansK.l0 k a0 ([] : List (S58)) 0
theorem pattern_bytes_spansK.mono_l : ∀ k, (∀ y0 y1 y2, LeO (pattern_bytes_spansK.l0 k y0 y1 y2) (pattern_bytes_spansK.l0 (k + 1) y0 y1 y2)) ∧ (∀ y0 y1 y2 y3, LeO (pattern_bytes_spansK.l1 k y0 y1 y2 y3) (pattern_bytes_spansK.l1 (k + 1) y0 y1 y2 y3))
 | 0 => ⟨fun _ _ _ r h => by simp [pattern_bytes_spansK.l0] at h, fun _ _ _ _ r h => by simp [pattern_bytes_spansK.l1] at h⟩
 | k + 1 => by
  obtain ⟨ih0, ih1⟩ := pattern_bytes_spansK.mono_l k
  refine ⟨?_, ?_⟩
  all_goals (intros; first | unfold pattern_bytes_spansK.l0 | unfold pattern_bytes_spansK.l1)
  all_goals repeat' first
   | (with_reducible exact ih0 _ _ _)
   | (with_reducible exact ih1 _ _ _ _)
   | (with_reducible exact LeO.refl _)
   | (with_reducible exact LeO.none _)
   | (with_reducible refine LeO.ite ?_ ?_)
   | (with_reducible refine LeO.bind ?_ (fun _ => ?_))
   | exact LeO.none _
   | refine LeO.ite ?_ ?_
   | refine LeO.bind ?_ (fun _ => ?_)
theorem pattern_bytes_spansK.mono : ∀ a0 k, LeO (pattern_bytes_spansK.f k a0) (pattern_bytes_spansK.f (k + 1) a0) := by
 intro a0 k
 obtain ⟨ih0, ih1⟩ := pattern_bytes_spansK.mono_l k
 unfold pattern_bytes_spansK.f
 repeat' first
  | (with_reducible exact ih0 _ _ _)
  | (with_reducible exact ih1 _ _ _ _)
  | (with_reducible exact LeO.refl _)
  | (with_reducible exact LeO.none _)
  | (with_reducible refine LeO.ite ?_ ?_)
  | (with_reducible refine LeO.bind ?_ (fun _ => ?_))
  | exact LeO.none _
  | refine LeO.ite ?_ ?_
  | refine LeO.bind ?_ (fun _ => ?_)
set_option maxHeartbeats 8000000 in
set_option maxRecDepth 100000 in
theorem pattern_bytes_spansK.calls (k : Nat) (a0 : ByteArray) (r : List (S58)) (gs : Nat) (w : World) (hS : w.heap[gs]? = some (.cells (setCells a0) 72 (0, 0))) (h : pattern_bytes_spansK.f k a0 = some r) :
 Calls Try.prog 45 #[.pointer (some ⟨gs, 0, none⟩)] w fun e w' => ∃ v0_ : Value, e = .returned (v0_) ∧ Kd.R k58 58 w' w.heap.size (fun _ => True) v0_ r ∧ Below w.heap.size w w' := by
 have hu58 := Try.underlying58
 have HB := m_ (Below.refl w.heap.size w)
 have HS := m_ hS
 clear hS
 have H : (pattern_bytes_spansK.l0 k a0 ([] : List (S58)) 0) = some r := h
 clear h
 have H' := m_ H
 clear H
 go_enter Try.func45, Try.ntmps45
 go_wp2
 go_loopg [3, 4] k (fun kq v3 v4 w' => ∃ (x3_1 : List (S58)) (x4_1 : Int), v4 = .int .i64 x4_1 ∧ Aside0 (pattern_bytes_spansK.l0 kq a0 x3_1 x4_1 = some r) ∧ Aside0 (kq ≤ k) ∧ Aside0 (Kd.R k58 58 w' w.heap.size (fun _ => True) v3 x3_1) ∧ Aside0 (Below w.heap.size w w'))
 case atStart => exact ⟨(([] : List (S58))), (0), (by first | rfl | (simp; done) | (simp [*]; done) | (simp; unfold wrap64; omega)), H', ⟨Nat.le_refl _⟩, ⟨by first | exact Kd.R_nil _ _ _ _ _ | exact Kd.N_nil _ _ _ _ _ | exact Kd.V_nil _ _ _ _ _ | exact Kd.Q_nil _ _ _ _ _ | exact Kd.S_nil _ _ _ _ _⟩, ⟨by repeat (first | (with_reducible first | exact HB.out | apply l1_ | apply l2_ | apply l3_) | exact HB.out)⟩⟩
 case round =>
  clear H'
  obtain ⟨x3_1, x4_1, rfl, HA, HK1, HO_3, HB⟩ := hrel
  cases gk with
  | zero => exact absurd HA.out (by simp [pattern_bytes_spansK.l0])
  | succ k1 =>
   have H := HA.out
   clear HA
   simp only [pattern_bytes_spansK.l0] at H
   by_cases c2 : x4_1 < 256
   ·
    rw [if_pos c2] at H
    have c2b0 : decide (x4_1 < 256) = true := decide_eq_true c2
    clear c2
    replace H := Option.bind_eq_some_iff.mp H
    obtain ⟨t106, A30, H⟩ := H
    try dsimp -simprocs only at H
    have A3 := m_ A30
    clear A30
    by_cases c4 : t106 = true
    ·
     subst c4
     rw [if_pos rfl] at H
     have H' := m_ H
     clear H
     have hcS := has_cell HS.out HB.out A3.out
     have hfS := has_frozen HS.out HB.out (x4_1).toNat
     have hS0 := has_lo A3.out
     have hS1 := has_hi A3.out
     go_wp2
     go_loopg [4] k1 (fun kq v4 w' => ∃ (x4_2 : Int), v4 = .int .i64 x4_2 ∧ Aside0 (pattern_bytes_spansK.l1 kq a0 x3_1 x4_2 x4_1 = some r) ∧ Aside0 (kq ≤ k1) ∧ Aside0 (Kd.R k58 58 w' w.heap.size (fun _ => True) u3 x3_1) ∧ Aside0 (Below w.heap.size w w'))
     case atStart => exact ⟨(x4_1), (by first | rfl | (simp; done) | (simp [*]; done) | (simp; unfold wrap64; omega)), H', ⟨Nat.le_refl _⟩, ⟨by (with_reducible repeat (first | apply r1_ | apply r2_ | apply r3_)); exact HO_3.out⟩, ⟨by repeat (first | (with_reducible first | exact HB.out | apply l1_ | apply l2_ | apply l3_) | exact HB.out)⟩⟩
     case round =>
      clear H'
      (try clear c2); (try clear c2b0); (try clear p2); (try clear c3); (try clear c4)
      clear hcS hfS hS0 hS1
      obtain ⟨x4_2, rfl, HA, HK2, HO_3, HB⟩ := hrel
      cases gk with
      | zero => exact absurd HA.out (by simp [pattern_bytes_spansK.l1])
      | succ k2 =>
       have H := HA.out
       clear HA
       simp only [pattern_bytes_spansK.l1] at H
       by_cases c5 : x4_2 < 255
       ·
        rw [if_pos c5] at H
        have c5b0 : decide (x4_2 < 255) = true := decide_eq_true c5
        clear c5
        replace H := Option.bind_eq_some_iff.mp H
        obtain ⟨t107, A60, H⟩ := H
        try dsimp -simprocs only at H
        have A6 := m_ A60
        clear A60
        by_cases c7 : t107 = true
        ·
         subst c7
         rw [if_pos rfl] at H
         have H' := m_ H
         clear H
         obtain ⟨js6, hjs6⟩ : ∃ j_ : Int, wrap64 (x4_2 + 1) = j_ := ⟨_, rfl⟩
         have hjw6 : IntKind.i64.wrap (x4_2 + 1) = js6 := (i64_w _).trans hjs6
         have AS6 : pattern_bytes_has.f a0 js6 = some true := by rw [← hjs6]; exact A6.out
         have hcS := has_cell HS.out HB.out AS6
         have hfS := has_frozen HS.out HB.out (js6).toNat
         have hS0 := has_lo AS6
         have hS1 := has_hi AS6
         clear AS6
         go_wp2
         go_roundg k2
         case measure => have := HK1.out; have := HK2.out; omega
         case rel => exact ⟨(wrap64 (x4_2 + 1)), (by first | rfl | (simp; done) | (simp [*]; done) | (simp; unfold wrap64; omega)), H', ⟨by have := HK1.out; have := HK2.out; omega⟩, ⟨by (with_reducible repeat (first | apply r1_ | apply r2_ | apply r3_)); exact HO_3.out⟩, ⟨by repeat (first | (with_reducible first | exact HB.out | apply l1_ | apply l2_ | apply l3_) | exact HB.out)⟩⟩
        ·
         replace c7 := Bool.eq_false_iff.mpr c7
         subst c7
         rw [if_neg (show ¬ (false = true) by decide)] at H
         by_cases c8 : x3_1.length < 70368744177664
         ·
          rw [if_pos c8] at H
          have LMc8 := m_ c8
          clear c8
          obtain ⟨y108, hy108⟩ : ∃ y_ : List (S58), y_ = (x3_1 ++ [(⟨(x4_1) % 256, (x4_2) % 256⟩ : S58)]) := ⟨_, rfl⟩
          replace H : (pattern_bytes_spansK.l0 k2 a0 y108 (wrap64 (x4_2 + 1))) = some r := by first | (rw [hy108]; with_reducible exact H) | (have H2_ := (Option.bind_some _ _).symm.trans H; rw [hy108]; with_reducible exact H2_) | (have H2_ := (Option.bind_some _ _).symm.trans H; with_reducible exact H2_) | with_reducible exact H | (rw [hy108]; exact H) | exact H
          have Ny108 := m_ hy108
          clear hy108
          have H' := m_ H
          clear H
          obtain ⟨js6, hjs6⟩ : ∃ j_ : Int, wrap64 (x4_2 + 1) = j_ := ⟨_, rfl⟩
          have hjw6 : IntKind.i64.wrap (x4_2 + 1) = js6 := (i64_w _).trans hjs6
          have AS6 : pattern_bytes_has.f a0 js6 = some false := by rw [← hjs6]; exact A6.out
          have hcS := has_cell HS.out HB.out AS6
          have hfS := has_frozen HS.out HB.out (js6).toNat
          have hS0 := has_lo AS6
          have hS1 := has_hi AS6
          clear AS6
          go_wp2_with (first | ((with_reducible refine gate_builtin (b := .append) (xs := #[.tmp 29, .tmp 35]) rfl ?_); at_builtin; refine Kd.R_append k58 (w0 := w) w.heap.size rfl (.tmp 29) (.tmp 35) 33 58 (.agg #[(.int .u8 0), (.int .u8 0)]) 2 rfl Try.underlying33 info58 rfl (by decide) (by omega) u3 x3_1 (⟨(x4_1) % 256, (x4_2) % 256⟩ : S58) [.int .u8 ((x4_1) % 256), .int .u8 ((x4_2) % 256)] (fun _ => True) (fun _ => False) rfl rfl ?aP (fun _ hk => hk.elim) ?aF ?aO ?aB ?aS ?aL ?_; (case aP => exact k58_mkM _ _ _ (⟨(x4_1) % 256, (x4_2) % 256⟩ : S58)); (case aB => exact (by repeat (first | (with_reducible first | exact HB.out | apply l1_ | apply l2_ | apply l3_) | exact HB.out))); (case aF => exact (fun _ _ => trivial)); (case aO => exact (by (with_reducible repeat (first | apply r1_ | apply r2_ | apply r3_)); exact HO_3.out)); (case aS => exact (l6_ (by repeat (first | (with_reducible first | exact HB.out | apply l1_ | apply l2_ | apply l3_) | exact HB.out)))); (case aL => have := LMc8.out; omega); intro v109 w9 ho hb hg hat; rw [← Ny108.out] at ho; have n0_ := m_ (hb); have n1_ := m_ (ho); clear HB; clear HO_3; have HB := n0_; have HO110 := n1_; clear n0_ n1_; clear ho hb hg hat))
          go_roundg k2
          case measure => have := HK1.out; have := HK2.out; omega
          case rel => exact ⟨(y108), (wrap64 (x4_2 + 1)), (by first | rfl | (simp; done) | (simp [*]; done) | (simp; unfold wrap64; omega)), H', ⟨by have := HK1.out; have := HK2.out; omega⟩, ⟨by (with_reducible repeat (first | apply r1_ | apply r2_ | apply r3_)); exact HO110.out⟩, ⟨by repeat (first | (with_reducible first | exact HB.out | apply l1_ | apply l2_ | apply l3_) | exact HB.out)⟩⟩
         rw [if_neg c8] at H
         exact absurd H (by simp)
       rw [if_neg c5] at H
       have c5b0 : decide (x4_2 < 255) = false := decide_eq_false c5
       clear c5
       by_cases c10 : x3_1.length < 70368744177664
       ·
        rw [if_pos c10] at H
        have LMc10 := m_ c10
        clear c10
        obtain ⟨y111, hy111⟩ : ∃ y_ : List (S58), y_ = (x3_1 ++ [(⟨(x4_1) % 256, (x4_2) % 256⟩ : S58)]) := ⟨_, rfl⟩
        replace H : (pattern_bytes_spansK.l0 k2 a0 y111 (wrap64 (x4_2 + 1))) = some r := by first | (rw [hy111]; with_reducible exact H) | (have H2_ := (Option.bind_some _ _).symm.trans H; rw [hy111]; with_reducible exact H2_) | (have H2_ := (Option.bind_some _ _).symm.trans H; with_reducible exact H2_) | with_reducible exact H | (rw [hy111]; exact H) | exact H
        have Ny111 := m_ hy111
        clear hy111
        have H' := m_ H
        clear H
        go_wp2_with (first | ((with_reducible refine gate_builtin (b := .append) (xs := #[.tmp 29, .tmp 35]) rfl ?_); at_builtin; refine Kd.R_append k58 (w0 := w) w.heap.size rfl (.tmp 29) (.tmp 35) 33 58 (.agg #[(.int .u8 0), (.int .u8 0)]) 2 rfl Try.underlying33 info58 rfl (by decide) (by omega) u3 x3_1 (⟨(x4_1) % 256, (x4_2) % 256⟩ : S58) [.int .u8 ((x4_1) % 256), .int .u8 ((x4_2) % 256)] (fun _ => True) (fun _ => False) rfl rfl ?aP (fun _ hk => hk.elim) ?aF ?aO ?aB ?aS ?aL ?_; (case aP => exact k58_mkM _ _ _ (⟨(x4_1) % 256, (x4_2) % 256⟩ : S58)); (case aB => exact (by repeat (first | (with_reducible first | exact HB.out | apply l1_ | apply l2_ | apply l3_) | exact HB.out))); (case aF => exact (fun _ _ => trivial)); (case aO => exact (by (with_reducible repeat (first | apply r1_ | apply r2_ | apply r3_)); exact HO_3.out)); (case aS => exact (l6_ (by repeat (first | (with_reducible first | exact HB.out | apply l1_ | apply l2_ | apply l3_) | exact HB.out)))); (case aL => have := LMc10.out; omega); intro v112 w11 ho hb hg hat; rw [← Ny111.out] at ho; have n0_ := m_ (hb); have n1_ := m_ (ho); clear HB; clear HO_3; have HB := n0_; have HO113 := n1_; clear n0_ n1_; clear ho hb hg hat))
        go_roundg k2
        case measure => have := HK1.out; have := HK2.out; omega
        case rel => exact ⟨(y111), (wrap64 (x4_2 + 1)), (by first | rfl | (simp; done) | (simp [*]; done) | (simp; unfold wrap64; omega)), H', ⟨by have := HK1.out; have := HK2.out; omega⟩, ⟨by (with_reducible repeat (first | apply r1_ | apply r2_ | apply r3_)); exact HO113.out⟩, ⟨by repeat (first | (with_reducible first | exact HB.out | apply l1_ | apply l2_ | apply l3_) | exact HB.out)⟩⟩
       rw [if_neg c10] at H
       exact absurd H (by simp)
    ·
     replace c4 := Bool.eq_false_iff.mpr c4
     subst c4
     rw [if_neg (show ¬ (false = true) by decide)] at H
     have H' := m_ H
     clear H
     have hcS := has_cell HS.out HB.out A3.out
     have hfS := has_frozen HS.out HB.out (x4_1).toNat
     have hS0 := has_lo A3.out
     have hS1 := has_hi A3.out
     go_wp2
     go_roundg k1
     case measure => have := HK1.out; omega
     case rel => exact ⟨(x3_1), (wrap64 (x4_1 + 1)), (by first | rfl | (simp; done) | (simp [*]; done) | (simp; unfold wrap64; omega)), H', ⟨by have := HK1.out; omega⟩, ⟨by (with_reducible repeat (first | apply r1_ | apply r2_ | apply r3_)); exact HO_3.out⟩, ⟨by repeat (first | (with_reducible first | exact HB.out | apply l1_ | apply l2_ | apply l3_) | exact HB.out)⟩⟩
   rw [if_neg c2] at H
   have c2b0 : decide (x4_1 < 256) = false := decide_eq_false c2
   clear c2
   obtain rfl := Option.some.inj H
   go_wp2
   go_ret
   exact ⟨_, by first | rfl | (simp [errW_none, errW_some] <;> rfl) | (simp [*, errW_none, errW_some] <;> rfl), by (with_reducible repeat (first | apply r1_ | apply r2_ | apply r3_)); exact HO_3.out, by repeat (first | (with_reducible first | exact HB.out | apply l1_ | apply l2_ | apply l3_) | exact HB.out)⟩

def pattern_bytes_spans.f (s : ByteArray) : Option (List S58) := pattern_bytes_spansK.f 1000 s
theorem pattern_bytes_spans.calls (a0 : ByteArray) (r : List (S58)) (gs : Nat) (w : World) (hS : w.heap[gs]? = some (.cells (setCells a0) 72 (0, 0))) (h : pattern_bytes_spans.f a0 = some r) :
 Calls Try.prog 45 #[.pointer (some ⟨gs, 0, none⟩)] w fun e w' => ∃ v0_ : Value, e = .returned (v0_) ∧ Kd.R k58 58 w' w.heap.size (fun _ => True) v0_ r ∧ Below w.heap.size w w' := pattern_bytes_spansK.calls 1000 a0 r gs w hS h

end Go.Proofs.Ytbekhjcnmifnnaa.Q
